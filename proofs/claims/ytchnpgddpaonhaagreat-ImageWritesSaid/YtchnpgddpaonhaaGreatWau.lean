/- A part of the proof of ImageWrites. -/
import Derived.Test.YtchnpgddpaonhaaGreatWat
import Derived.Test.YtchnpgddpaonhaaGreatWas
set_option linter.unusedVariables false
set_option linter.unusedSimpArgs false
set_option maxRecDepth 100000
section
open Go.Proofs Go Go.Am Go.Op
namespace Go.Proofs.YtchnpgddpaonhaaGreat.d
section
section
variable{E:j6}{w0:World}
theorem b9N(m:Mo):(F8 m)[0]? =some (b1E m.types)∧(F8 m)[1]? =some (a6A m.texts)∧(F8 m)[2]? =some (b1r m.funcs):=⟨rfl,rfl,rfl⟩
theorem c0K{a b:Mo}(ha:a.Ok)(hb:b.Ok):L1 Tryz.prog E w0 a5r [Z0 a,Z0 b] (.bool (decide (a=b))):=fun x S=>by
 refine b7J ?_
 unfold b1V
 rw[Z0,J5,oD]
 intro k c n
 rw[Z0,J5,oD]
 intro k2 c2 n2
 obtain⟨ne2,n2'⟩:=b9.fresh n2
 generalize hS3:(S.set k _).set k2 _=S3
 have h2:S3 k2=some ⟨3,[F8 b],c2⟩:=by rw[←hS3];exact b9.set_same _ _ _
 have h0:S3 k=some ⟨3,[F8 a],c⟩:=by rw[←hS3,b9.set_ne _ _ _ (Ne.symm ne2)];exact b9.set_same _ _ _
 have hle:S.le S3:=by rw[←hS3];exact b9.le_set (b9.le_new n) n2'
 have fin:∀v:Bool,decide (a=b)=v→i9 E (fun d' S'=>d'=D.bool (decide (a=b))∧S'=S) (.bool v) S3:=fun v h=>by rw[h];exact i9.less hle i9.pure
 obtain⟨xa0,xa1,xa2⟩:=b9N a
 obtain⟨xb0,xb1,xb2⟩:=b9N b
 have:=ha.types;have:=hb.types;have:=ha.texts;have:=hb.texts;have:=ha.funcs;have:=hb.funcs
 simp only[u5,oD,D5 h2,D5 h0,Nat.zero_add,xa0,xb0,G6,b7I]
 rw[c8a]
 by_cases e0:a.types.length=b.types.length
 ·rw[decide_eq_false (show ¬((a.types.length:Int)≠b.types.length) by omega)]
  simp only[C5,t2,P7,oD,D5 h2,D5 h0,xa1,xb1,J9,b7I,C3,Bool.false_eq_true,if_false]
  rw[c8a]
  by_cases e1:a.texts.length=b.texts.length
  ·rw[decide_eq_false (show ¬((a.texts.length:Int)≠b.texts.length) by omega)]
   simp only[C5,t2,P7,oD,D5 h2,D5 h0,xa2,xb2,I9,b7I,C3,Bool.false_eq_true,if_false]
   rw[c8a,B3]
   refine⟨fun hne=>fin false (decide_eq_false fun h=>hne (by rw[h])),fun he=> ?_⟩
   have e2:a.funcs.length=b.funcs.length:=by omega
   refine b5h (I:=fun n x2 x3 x5 S'=>S3=S'∧x2= .ptr k 0∧x3= .ptr k2 0∧∃i:Nat,x5= .int .i64 (i:Int)∧i+n=a.types.length∧a.types.take i=b.types.take i) ?_ (n:=a.types.length) ⟨rfl,rfl,rfl,0,rfl,by omega,rfl⟩
   rintro n _ _ _ _ ⟨rfl,rfl,rfl,i,rfl,hi,ht⟩
   unfold a2S
   simp only[u5,oD,D5 h2,D5 h0,Nat.zero_add,xa0,xb0,G6,A5]
   rw[B3]
   refine⟨fun hlt=> ?_,fun hge=> ?_⟩
   ·have hlt:i<a.types.length:=by omega
    have ea:a.types[i]? =some a.types[i]:=List.getElem?_eq_getElem hlt
    have eb:b.types[i]? =some b.types[i]:=List.getElem?_eq_getElem (by omega)
    simp only[a0l ea,a0l eb,oD,d0l]
    refine⟨by trivial,by trivial,by trivial,by trivial,(c5U (ha.ty _ (List.getElem_mem _)) (hb.ty _ (List.getElem_mem _))).useX ⟨by trivial, ?_⟩⟩
    rw[unN,oD, ←decide_not,B3]
    refine⟨fun hne=>fin false (decide_eq_false fun h=>hne (by simp only[h])),fun he=> ?_⟩
    rw[s8,oD,j8 (by omega) (by omega)]
    refine⟨n - 1,by omega,by trivial,by trivial,by trivial,i+1,rfl,by omega, ?_⟩
    rw[List.take_add_one,List.take_add_one,ht,ea,eb,Classical.not_not.1 he]
   ·rw[List.take_of_length_le (by omega),List.take_of_length_le (by omega)]at ht
    refine b4N (I:=fun n x2 x3 x5 S'=>S3=S'∧x2= .ptr k 0∧x3= .ptr k2 0∧∃i:Nat,x5= .int .i64 (i:Int)∧i+n=a.texts.length∧a.texts.take i=b.texts.take i) ?_ (n:=a.texts.length) ⟨rfl,rfl,rfl,0,rfl,by omega,rfl⟩
    clear hi hge
    rintro n _ _ _ _ ⟨rfl,rfl,rfl,i,rfl,hi,ht1⟩
    unfold a2W
    simp only[u5,oD,D5 h2,D5 h0,Nat.zero_add,xa1,xb1,J9,A5]
    rw[B3]
    refine⟨fun hlt=> ?_,fun hge=> ?_⟩
    ·have hlt:i<a.texts.length:=by omega
     have ea:a.texts[i]? =some a.texts[i]:=List.getElem?_eq_getElem hlt
     have eb:b.texts[i]? =some b.texts[i]:=List.getElem?_eq_getElem (by omega)
     simp only[a7t ea,a7t eb,oD,lsE,List.getElem?_cons_zero,d7s]
     refine⟨by trivial,by trivial,by trivial,by trivial, ?_⟩
     rw[d3F, ←decide_not,B3]
     refine⟨fun hne=>fin false (decide_eq_false fun h=>hne (by simp only[h])),fun he=> ?_⟩
     rw[s8,oD,j8 (by omega) (by omega)]
     refine⟨n - 1,by omega,by trivial,by trivial,by trivial,i+1,rfl,by omega, ?_⟩
     rw[List.take_add_one,List.take_add_one,ht1,ea,eb,Classical.not_not.1 he]
    ·rw[List.take_of_length_le (by omega),List.take_of_length_le (by omega)]at ht1
     refine b5f (I:=fun n x2 x3 x5 S'=>S3=S'∧x2= .ptr k 0∧x3= .ptr k2 0∧∃i:Nat,x5= .int .i64 (i:Int)∧i+n=a.funcs.length∧a.funcs.take i=b.funcs.take i) ?_ (n:=a.funcs.length) ⟨rfl,rfl,rfl,0,rfl,by omega,rfl⟩
     clear hi hge
     rintro n _ _ _ _ ⟨rfl,rfl,rfl,i,rfl,hi,ht2⟩
     unfold a3t
     simp only[u5,oD,D5 h2,D5 h0,Nat.zero_add,xa2,xb2,I9,A5]
     rw[B3]
     refine⟨fun hlt=> ?_,fun hge=> ?_⟩
     ·have hlt:i<a.funcs.length:=by omega
      have ea:a.funcs[i]? =some a.funcs[i]:=List.getElem?_eq_getElem hlt
      have eb:b.funcs[i]? =some b.funcs[i]:=List.getElem?_eq_getElem (by omega)
      simp only[a1k ea,a1k eb,oD,d0n]
      refine⟨by trivial,by trivial,by trivial,by trivial,(c0a (ha.ro _ (List.getElem_mem _)) (hb.ro _ (List.getElem_mem _))).useX ⟨by trivial, ?_⟩⟩
      rw[unN,oD, ←decide_not,B3]
      refine⟨fun hne=>fin false (decide_eq_false fun h=>hne (by simp only[h])),fun he=> ?_⟩
      rw[s8,oD,j8 (by omega) (by omega)]
      refine⟨n - 1,by omega,by trivial,by trivial,by trivial,i+1,rfl,by omega, ?_⟩
      rw[List.take_add_one,List.take_add_one,ht2,ea,eb,Classical.not_not.1 he]
     ·rw[List.take_of_length_le (by omega),List.take_of_length_le (by omega)]at ht2
      refine fin true (decide_eq_true ?_)
      obtain⟨a1,a2,a3⟩:=a
      obtain⟨b1,b2,b3⟩:=b
      simp only at ht ht1 ht2
      rw[ht,ht1,ht2]
  ·rw[decide_eq_true (show((a.texts.length:Int)≠b.texts.length) by omega)]
   simp only[C5,t1,vdF,oD,C3,if_true,cdT]
   exact fin false (decide_eq_false fun h=>e1 (by rw[h]))
 ·rw[decide_eq_true (show((a.types.length:Int)≠b.types.length) by omega)]
  simp only[C5,t1,vdF,oD,C3,if_true,cdT]
  exact fin false (decide_eq_false fun h=>e0 (by rw[h]))
theorem c1e{b:Bool}{s N:Int}{K:D→Prop}(h:K (.bool (b&&decide (s≤N)))):b7 (i4 (i0 (.bool b) true) (some (.int .i64 s))) fun v17=>b7 (i4 (i0 (.bool b) true) (some (.int .i64 N))) fun v18=>b7 (i4 (i0 (.bool b) true) (i6 .leq v17 v18)) fun v19=>b7 (o7 (.bool b) v19 (.bool false)) fun v20=>K v20:=by
 cases b<;>simpa using h
structure Mo.Small (m:Mo) (N:Nat):Prop where
 types:m.types.length≤N
 texts:m.texts.length≤N
 funcs:m.funcs.length≤N
 fields:∀t∈m.types,t.fields.length≤N
 params:∀r∈m.funcs,r.params.length≤N∧r.results.length≤N∧r.code.length≤N
theorem d3K{m:Mo}(hm:m.Ok){N:Nat}(hN:N<2^40){x:Bool}{S:b9}:o9 Tryz.prog E w0 x b9u [Z0 m, .int .i64 (N:Int)] S fun d S'=>S'=S∧∃b:Int,d= .int .i64 b∧(b≤N→m.Small N):=by
 refine d0t ?_
 unfold c7b
 rw[Z0,J5,oD]
 intro k c n
 have h0:(S.set k ⟨3,[F8 m],c⟩) k=some ⟨3,[F8 m],c⟩:=b9.set_same _ _ _
 have hle:S.le (S.set k ⟨3,[F8 m],c⟩):=b9.le_new n
 have e3:(F8 m).length=3:=rfl
 rw[e3]
 generalize S.set k ⟨3,[F8 m],c⟩=S3 at h0 hle ⊢
 obtain⟨xa0,xa1,xa2⟩:=b9N m
 have:=hm.types;have:=hm.texts;have:=hm.funcs
 simp only[u5,oD,D5 h0,Nat.zero_add,xa0,xa1,xa2,G6,J9,I9,s8]
 rw[show IntKind.i64.wrap ((m.types.length:Int)+m.texts.length)=_ from j8 (by omega) (by omega),show IntKind.i64.wrap ((m.types.length:Int)+m.texts.length+m.funcs.length)=_ from j8 (by omega) (by omega)]
 refine c6q (I:=fun n x1 x2 x5 x6 S'=>S3=S'∧x1= .int .i64 (N:Int)∧x2= .ptr k 0∧∃(i:Nat) (s:Int),x6= .int .i64 (i:Int)∧x5= .int .i64 s∧i+n=m.types.length∧m.types.length≤s∧m.texts.length≤s∧m.funcs.length≤s∧s<2^50∧∀t∈m.types.take i,(t.fields.length:Int)≤s) ?_ (n:=m.types.length)
  ⟨rfl,rfl,rfl,0,_,rfl,rfl,by omega,by omega,by omega,by omega,by omega,by simp⟩
 rintro n _ _ _ _ _ ⟨rfl,rfl,rfl,i,s,rfl,rfl,hi,s1,s2,s3,s4,hs⟩
 unfold b3e
 simp only[u5,oD,D5 h0,Nat.zero_add,xa0,G6,A5]
 refine c1e ?_
 rw[←Bool.decide_and,B3]
 refine⟨fun⟨hlt,hsN⟩=> ?_,fun hge=> ?_⟩
 ·have hlt:i<m.types.length:=by omega
  obtain⟨t,ht⟩:∃t,t=m.types[i]:=⟨_,rfl⟩
  have ea:m.types[i]? =some t:=by rw[List.getElem?_eq_getElem hlt,ht]
  have htk:=hm.ty t (by rw[ht];exact List.getElem_mem _)
  have l1:=htk.name
  have l2:=htk.fields
  simp only[a0l ea,oD,ofE,lsE,show(B9 t)[0+1]? =some (.str t.name) from rfl,show(B9 t)[0+2]? =some (O9 t.fields) from rfl,show(B9 t)[1]? =some (.str t.name) from rfl,show(B9 t)[2]? =some (O9 t.fields) from rfl,Nat.zero_add,lnS,B0,s8]
  refine⟨by trivial,by trivial,by trivial,by trivial,by trivial,by trivial, ?_⟩
  rw[show IntKind.i64.wrap (s+t.name.length)=_ from j8 (by omega) (by omega),show IntKind.i64.wrap (s+t.name.length+t.fields.length)=_ from j8 (by omega) (by omega)]
  refine c5d (I:=fun n' x1 x2 x5 x6 x7 S'=>S3=S'∧x1= .int .i64 (N:Int)∧x2= .ptr k 0∧x6= .int .i64 (i:Int)∧∃(j:Nat) (q:Int),x7= .int .i64 (j:Int)∧x5= .int .i64 q∧j+n'=t.fields.length∧s≤q∧t.fields.length≤q∧q<2^50) ?_ (n:=t.fields.length)
   ⟨rfl,rfl,rfl,rfl,0,_,rfl,rfl,by omega,by omega,by omega,by omega⟩
  rintro n' _ _ _ _ _ _ ⟨rfl,rfl,rfl,rfl,j,q,rfl,rfl,hj,q1,q2,q3⟩
  unfold b3d
  simp only[u5,oD,D5 h0,Nat.zero_add,xa0,a0l ea,ofE,lsE,show(B9 t)[2]? =some (O9 t.fields) from rfl,B0,A5]
  refine c1e ?_
  rw[←Bool.decide_and,B3]
  refine⟨fun⟨hlt',hqN⟩=> ?_,fun hge=> ?_⟩
  ·have hlt':j<t.fields.length:=by omega
   obtain⟨f,hf⟩:∃f,f=t.fields[j]:=⟨_,rfl⟩
   have eb:t.fields[j]? =some f:=by rw[List.getElem?_eq_getElem hlt',hf]
   have l3:=(htk.names f (by rw[hf];exact List.getElem_mem _)).1
   simp only[V2 eb,oD,ofE,lsE,Nat.zero_add,show(O1 f)[0]? =some (.str f.1) from rfl,lnS,s8]
   rw[show IntKind.i64.wrap (q+f.1.length)=_ from j8 (by omega) (by omega),show IntKind.i64.wrap ((j:Int)+1)=_ from j8 (by omega) (by omega)]
   exact⟨n' - 1,by omega,by trivial,by trivial,by trivial,by trivial,j+1,_,rfl,rfl,by omega,by omega,by omega,by omega⟩
  ·rw[s8,oD,j8 (by omega) (by omega)]
   refine⟨n - 1,by omega,by trivial,by trivial,by trivial,i+1,q,rfl,rfl,by omega,by omega,by omega,by omega,by omega,fun t' ht'=> ?_⟩
   rw[List.take_add_one,ea,Option.toList_some]at ht'
   rcases List.mem_append.1 ht' with h|h
   ·have:=hs t' h;omega
   ·rw[List.mem_singleton.1 h];exact q2
 have hs:s≤N→∀t∈m.types,(t.fields.length:Int)≤s:=fun h=>by
  have:i=m.types.length:=by
   by_cases c:i<m.types.length
   ·exact(hge ⟨by omega,h⟩).elim
   ·omega
  rw[this,List.take_length]at hs
  exact hs
 clear hge hi
 refine c6C (I:=fun n x1 x2 x5 x6 S'=>S3=S'∧x1= .int .i64 (N:Int)∧x2= .ptr k 0∧∃(i:Nat) (q:Int),x6= .int .i64 (i:Int)∧x5= .int .i64 q∧i+n=m.texts.length∧s≤q∧q<2^50) ?_ (n:=m.texts.length)
  ⟨rfl,rfl,rfl,0,_,rfl,rfl,by omega,by omega,by omega⟩
 rintro n _ _ _ _ _ ⟨rfl,rfl,rfl,i,q,rfl,rfl,hi,q1,q2⟩
 unfold b3H
 simp only[u5,oD,D5 h0,Nat.zero_add,xa1,J9,A5]
 refine c1e ?_
 rw[←Bool.decide_and,B3]
 refine⟨fun⟨hlt,hsN⟩=> ?_,fun hge=> ?_⟩
 ·have hlt:i<m.texts.length:=by omega
  obtain⟨t,ht⟩:∃t,t=m.texts[i]:=⟨_,rfl⟩
  have ea:m.texts[i]? =some t:=by rw[List.getElem?_eq_getElem hlt,ht]
  have l1:=hm.tx t (by rw[ht];exact List.getElem_mem _)
  simp only[a7t ea,oD,lsE,List.getElem?_cons_zero,lnS,s8]
  rw[show IntKind.i64.wrap (q+t.length)=_ from j8 (by omega) (by omega),show IntKind.i64.wrap ((i:Int)+1)=_ from j8 (by omega) (by omega)]
  exact⟨n - 1,by omega,by trivial,by trivial,by trivial,i+1,_,rfl,rfl,by omega,by omega,by omega⟩
 clear hge hi
 refine c6g (I:=fun n x1 x2 x5 x6 S'=>S3.le S'∧x1= .int .i64 (N:Int)∧x2= .ptr k 0∧∃(i:Nat) (p:Int),x6= .int .i64 (i:Int)∧x5= .int .i64 p∧i+n=m.funcs.length∧q≤p∧p<2^50∧∀r∈m.funcs.take i,(r.params.length:Int)≤p∧r.results.length≤p∧r.code.length≤p) ?_ (n:=m.funcs.length)
  ⟨b9.le_refl _,rfl,rfl,0,_,rfl,rfl,by omega,by omega,by omega,by simp⟩
 rintro n _ _ _ _ S4 ⟨hle4,rfl,rfl,i,p,rfl,rfl,hi,p1,p2,hp⟩
 have h04:=hle4 _ _ h0
 unfold b4e
 simp only[u5,oD,D5 h04,Nat.zero_add,xa2,I9,A5]
 refine c1e ?_
 rw[←Bool.decide_and,B3]
 refine⟨fun⟨hlt,hsN⟩=> ?_,fun hge=> ?_⟩
 ·have hlt:i<m.funcs.length:=by omega
  obtain⟨r,hr⟩:∃r,r=m.funcs[i]:=⟨_,rfl⟩
  have ea:m.funcs[i]? =some r:=by rw[List.getElem?_eq_getElem hlt,hr]
  have hrk:=hm.ro r (by rw[hr];exact List.getElem_mem _)
  have l1:=hrk.name;have l2:=hrk.params;have l3:=hrk.results;have l4:=hrk.code
  simp only[a1k ea,oD,d0n]
  intro k5 a5 n5
  refine stP (ds:=F9 r) (b9.set_same _ _ _) (J5 _) ⟨rfl,by decide,by simp[F9]⟩ fun a6=> ?_
  rw[b9.set_set]
  have h5:∀j,b8 (S4.set k5 ⟨[D.str [], .nilSlc, .nilSlc, .int .i64 0, .int .i64 0, .nilSlc].length,[o0 [D.str [], .nilSlc, .nilSlc, .int .i64 0, .int .i64 0, .nilSlc] 0 (F9 r)],a6⟩) (.ptr k5 j)=(F9 r)[j]? :=fun j=>D5 (b9.set_same _ _ _)
  simp only[u5,oD,h5,Nat.zero_add,show(F9 r)[0]? =some (.str r.name) from rfl,show(F9 r)[1]? =some (iD r.params) from rfl,show(F9 r)[2]? =some (iD r.results) from rfl,show(F9 r)[5]? =some (bD r.code) from rfl,lnS,M5,I8,s8]
  rw[show IntKind.i64.wrap (p+r.name.length)=_ from j8 (by omega) (by omega),show IntKind.i64.wrap (p+r.name.length+r.params.length)=_ from j8 (by omega) (by omega),show IntKind.i64.wrap (p+r.name.length+r.params.length+r.results.length)=_ from j8 (by omega) (by omega),show IntKind.i64.wrap (p+r.name.length+r.params.length+r.results.length+r.code.length)=_ from j8 (by omega) (by omega),show IntKind.i64.wrap ((i:Int)+1)=_ from j8 (by omega) (by omega)]
  refine⟨n - 1,by omega,b9.le_trans hle4 (b9.le_new n5),by trivial,by trivial,i+1,_,rfl,rfl,by omega,by omega,by omega,fun r' hr'=> ?_⟩
  rw[List.take_add_one,ea,Option.toList_some]at hr'
  rcases List.mem_append.1 hr' with h|h
  ·have:=hp r' h;omega
  ·rw[List.mem_singleton.1 h];omega
 ·refine i9.less (b9.le_trans hle hle4) (i9.here ⟨rfl,p,rfl,fun hpN=> ?_⟩)
  have:i=m.funcs.length:=by
   by_cases c:i<m.funcs.length
   ·exact(hge ⟨by omega,hpN⟩).elim
   ·omega
  rw[this,List.take_length]at hp
  exact⟨by omega,by omega,by omega,fun t ht=>by have:=hs (by omega) t ht;omega,fun r hr=>by have:=hp r hr;omega⟩
end
end
section
abbrev a1o:Tx:=[109,97,114,107]
def d1o(fs:List (Tx×Int)):D:= .ext (fs.map O1) [O1 (a1o,0)] 2
def b5q(t:Ty):List D:=[.int .u8 t.kind, .str t.name,d1o t.fields, .int .i64 t.elem, .int .i64 t.len]
def b1G:List D:=[.int .u8 0, .str a1o, .nilSlc, .int .i64 0, .int .i64 0]
def a3J(l:List Ty):D:= .ext (l.map b5q) [b1G] 5
def b3z(l:List Tx):D:= .ext (y9 (l.map D.str)) [[.str a1o]] 1
def a5X(r:Ro):List D:=[.str r.name,iX r.params,iX r.results, .int .i64 r.locals, .int .i64 r.stack,bX r.code]
def b1t:List D:=[.str a1o, .nilSlc, .nilSlc, .int .i64 0, .int .i64 0, .nilSlc]
def c9O(l:List Ro):D:= .ext (l.map a5X) [b1t] 6
def moX(m:Mo):D:= .agg [a3J m.types,b3z m.texts,c9O m.funcs]
theorem d8t(l:List (Tx×Int)):Wk (d1o l) (O9 l):=Wk.ext _ _ _
theorem d9Q(l:List Ty):Wk (a3J l) (b1E l):=(Wk.ext _ _ _).trans (Wk.lst (WkR.map (f:=b5q) (g:=B9) (fun t=>⟨⟨Wk.refl _,Wk.refl _,d8t _,Wk.refl _,Wk.refl _,trivial⟩,rfl⟩) l) 5)
theorem e0r(l:List Tx):Wk (b3z l) (a6A l):=Wk.ext _ _ _
theorem e0j(l:List Ro):Wk (c9O l) (b1r l):=(Wk.ext _ _ _).trans (Wk.lst (WkR.map (f:=a5X) (g:=F9) (fun t=>⟨⟨Wk.refl _,d8B _,d8B _,Wk.refl _,Wk.refl _,e2c _,trivial⟩,rfl⟩) l) 6)
theorem d1C(m:Mo):Wk (moX m) (Z0 m):=Wk.agg ⟨d9Q _,e0r _,e0j _,trivial⟩
@[simp] theorem d5p(S:b9)(l:List (Tx×Int)):rowsS S 2 (O9 l)=some (l.map O1):=by simp[O9,rowsS,L2]
@[simp] theorem d7V(S:b9)(l:List Tx):rowsS S 1 (a6A l)=some (y9 (l.map D.str)):=by simp[a6A,rowsS,L2]
theorem Grw.cells{S0 S:b9}{t:D}{rows:List (List D)}{sz:Nat}(g:Grw S0 t rows sz S):q6 t=some [t]:=by rcases g with ⟨rfl,_⟩|⟨_,_,_,rfl,_⟩<;>rfl
structure Mo.Fits (m:Mo):Prop where
 ok:m.Ok
 types:m.types.length<2^30
 texts:m.texts.length<2^30
 funcs:m.funcs.length<2^30
 fields:∀t∈m.types,t.fields.length<2^30
 params:∀r∈m.funcs,r.params.length<2^30∧r.results.length<2^30∧r.code.length<2^30
section
variable{E:j6}{w0:World}
theorem c1r{m:Mo}(hm:m.Fits):L1 Tryz.prog E w0 a5s [Z0 m] (moX m):=fun x S=>by
 refine b7G ?_
 unfold b1H
 rw[Z0,J5,oD]
 intro k c n
 intro k2 c2 n2
 intro k3 c3 n3
 obtain⟨ne2,n2'⟩:=b9.fresh n2
 obtain⟨ne3,n3'⟩:=b9.fresh n3
 obtain⟨ne3',n3''⟩:=b9.fresh n3'
 obtain⟨xa0,xa1,xa2⟩:=b9N m
 have b1:=hm.types;have b2:=hm.texts;have b3:=hm.funcs
 have base:∃B,B=(((S.set k ⟨3,[F8 m],c⟩).set k2 ⟨3,[[.nilSlc, .nilSlc, .nilSlc]],c2⟩).set k3 ⟨3,[[.nilSlc, .nilSlc, .nilSlc]],c3⟩)∧S.le B∧B k=some ⟨3,[F8 m],c⟩∧B k2=some ⟨3,[[.nilSlc, .nilSlc, .nilSlc]],c2⟩∧B k3=some ⟨3,[[.nilSlc, .nilSlc, .nilSlc]],c3⟩:=
  ⟨_,rfl,b9.le_set (b9.le_set (b9.le_new n) n2') n3'',by rw[b9.set_ne _ _ _ (Ne.symm ne3'),b9.set_ne _ _ _ (Ne.symm ne2)];exact b9.set_same _ _ _,by rw[b9.set_ne _ _ _ (Ne.symm ne3)];exact b9.set_same _ _ _,b9.set_same _ _ _⟩
 obtain⟨B,hB,hle,h0,h2,h3⟩:=base
 show j0 Tryz.prog E w0 x _ _ (((S.set k ⟨3,[F8 m],c⟩).set k2 ⟨3,[[.nilSlc, .nilSlc, .nilSlc]],c2⟩).set k3 ⟨3,[[.nilSlc, .nilSlc, .nilSlc]],c3⟩) _
 rw[←hB]
 clear hB n2 n3 n3'
 have up:∀ {B:b9} {o:K8},S.le B→S.le (B.set k3 o):=fun h=>b9.le_set h n3''
 have b7T:∀ {B:b9} {o:K8},B k=some ⟨3,[F8 m],c⟩→(B.set k3 o) k=some ⟨3,[F8 m],c⟩:=fun h=>by rw[b9.set_ne _ _ _ (Ne.symm ne3')];exact h
 have keep2:∀ {B:b9} {o:K8},B k2=some ⟨3,[[.nilSlc, .nilSlc, .nilSlc]],c2⟩→(B.set k3 o) k2=some ⟨3,[[.nilSlc, .nilSlc, .nilSlc]],c2⟩:=fun h=>by rw[b9.set_ne _ _ _ (Ne.symm ne3)];exact h
 refine b4O (I:=fun n x1 x2 x3 x4 S'=>x1= .ptr k 0∧x2= .ptr k2 0∧x3= .ptr k3 0∧∃(i:Nat) (B:b9) (t:D) (c3:List AV),x4= .int .i64 (i:Int)∧i+n=m.types.length∧S.le B∧B k=some ⟨3,[F8 m],c⟩∧B k2=some ⟨3,[[.nilSlc, .nilSlc, .nilSlc]],c2⟩∧B k3=some ⟨3,[[t, .nilSlc, .nilSlc]],c3⟩∧Grw B t ((m.types.take i).map b5q) 5 S') ?_ (n:=m.types.length)
  ⟨rfl,rfl,rfl,0,B, .nilSlc,c3,rfl,by omega,hle,h0,h2,h3,Grw.nil _ _⟩
 clear hle h0 h2 h3 B c3
 rintro n' _ _ _ _ S1 ⟨rfl,rfl,rfl,i,B,t,c3,rfl,hi,hle,h0,h2,h3,g⟩
 have g0:=g.le _ _ h0
 have g3:=g.le _ _ h3
 unfold a2M
 simp only[u5,oD,D5 g0,Nat.zero_add,xa0,G6,A5]
 rw[B3]
 refine⟨fun hlt=> ?_,fun hge=> ?_⟩
 ·have hlt:i<m.types.length:=by omega
  obtain⟨y,hy⟩:∃y,y=m.types[i]:=⟨_,rfl⟩
  have ea:m.types[i]? =some y:=by rw[List.getElem?_eq_getElem hlt,hy]
  have hf:=hm.fields y (by rw[hy];exact List.getElem_mem _)
  simp only[a0l ea,oD,d0l]
  intro k5 a5 n5
  refine stP (ds:=B9 y) (b9.set_same _ _ _) (J5 _) ⟨rfl,by decide,by simp[B9]⟩ fun a5=> ?_
  simp only[u5,oD,Nat.zero_add]
  rw[b9.set_set,D5 (b9.set_same _ _ _),show(o0 [D.int .u8 0, .str [], .nilSlc, .int .i64 0, .int .i64 0] 0 (B9 y))=B9 y from rfl,show(B9 y)[2]? =some (O9 y.fields) from rfl,oD]
  refine(Grw.nil _ 2).push (d5p _ _) (by simp;omega) fun t2 S2 q=> ?_
  rw[show B8 (s5 [(.str []),(.int .i64 0)] [(0,1,(.str a1o))])=some (.agg (O1 (a1o,0))) from rfl,oD,show m9 2 (List.replicate 1 [(.str []),(.int .i64 0)]) [(0, .agg (O1 (a1o,0)))]=some [O1 (a1o,0)]from rfl]
  refine F5 rfl ?_
  refine q.last (news:=[O1 (a1o,0)]) rfl (by simp) (by simp;omega) ?_
  rw[D5 (b9.set_same _ _ _),show(B9 y)[2]? =some (O9 y.fields) from rfl,oD,B0,oD,List.nil_append,d7z (by simp),oD,List.take_left' (by simp),List.drop_left' (by simp)]
  refine stP (ds:=[d1o y.fields]) (b9.set_same _ _ _) (clE _ _ _) ⟨rfl,by decide,by simp[B9]⟩ fun a6=> ?_
  rw[b9.set_set,show o0 (B9 y) 2 [d1o y.fields]=b5q y from rfl]
  have ne5:k5≠k3:=fun e=>by rw[e,g3]at n5;cases n5
  rw[D5 (by rw[b9.set_ne _ _ _ (Ne.symm ne5)];exact g3),List.getElem?_cons_zero,oD,laP (b9.set_same _ _ _) (by simp[b5q]),oD]
  rw[show m9 5 (List.replicate 1 [(.int .u8 0),(.str []), .nilSlc,(.int .i64 0),(.int .i64 0)]) [(0, .agg (((b5q y).drop 0).take 5))]=some [b5q y]from rfl]
  refine F5 rfl ?_
  have gu:=g.under (o:=⟨[D.int .u8 0, .str [], .nilSlc, .int .i64 0, .int .i64 0].length,[b5q y],a6⟩) n5
  refine gu.push (news:=[b5q y]) rfl (by simp;omega) fun t' S3 g'=> ?_
  have hB3:(B.set k5 ⟨[D.int .u8 0, .str [], .nilSlc, .int .i64 0, .int .i64 0].length,[b5q y],a6⟩) k3=some ⟨3,[[t, .nilSlc, .nilSlc]],c3⟩:=by rw[b9.set_ne _ _ _ (Ne.symm ne5)];exact h3
  refine stP (ds:=[t']) (g'.le _ _ hB3) (Grw.cells g') ⟨rfl,by decide,by simp⟩ fun a7=> ?_
  rw[s8,oD,j8 (by omega) (by omega)]
  have z5:B k5=none:=by
   cases e:B k5 with
   |none=>rfl
   |some o=>rw[g.le _ _ e]at n5;cases n5
  have zS:S k5=none:=by
   cases e:S k5 with
   |none=>rfl
   |some o=>rw[hle _ _ e]at z5;cases z5
  have nk:k5≠k:=fun e=>by rw[e,h0]at z5;cases z5
  have nk2:k5≠k2:=fun e=>by rw[e,h2]at z5;cases z5
  refine⟨n' - 1,by omega,by trivial,by trivial,by trivial,i+1,(B.set k5 ⟨[D.int .u8 0, .str [], .nilSlc, .int .i64 0, .int .i64 0].length,[b5q y],a6⟩).set k3 ⟨3,[[t', .nilSlc, .nilSlc]],a7⟩,t',a7,rfl,by omega,up (b9.le_set hle zS),b7T (by rw[b9.set_ne _ _ _ (Ne.symm nk)];exact h0),keep2 (by rw[b9.set_ne _ _ _ (Ne.symm nk2)];exact h2),b9.set_same _ _ _, ?_⟩
  rw[List.take_add_one,ea,Option.toList_some,List.map_append]
  exact g'.upd hB3
 have hi:i=m.types.length:=by omega
 subst hi
 rw[List.take_length]at g
 rw[D5 g3,List.getElem?_cons_zero,oD]
 rw[show B8 (s5 [(.int .u8 0),(.str []), .nilSlc,(.int .i64 0),(.int .i64 0)] [(1,1,(.str a1o))])=some (.agg b1G) from rfl,oD,show m9 5 (List.replicate 1 [(.int .u8 0),(.str []), .nilSlc,(.int .i64 0),(.int .i64 0)]) [(0, .agg b1G)]=some [b1G]from rfl]
 refine F5 rfl ?_
 refine g.last (news:=[b1G]) rfl (by simp) (by simp;omega) ?_
 refine stP (ds:=[.lst (m.types.map b5q++[b1G]) 5]) h3 (clL _ _) ⟨rfl,by decide,by simp⟩ fun a7=> ?_
 rw[D5 (b9.set_same _ _ _),show(o0 [t,D.nilSlc, .nilSlc] 0 [.lst (m.types.map b5q++[b1G]) 5])[0]? =some (.lst (m.types.map b5q++[b1G]) 5) from rfl,oD,D5 (b7T h0),xa0,oD,G6,oD,d7z (by simp),oD,List.take_left' (by simp),List.drop_left' (by simp)]
 refine stP (ds:=[a3J m.types]) (b9.set_same _ _ _) (clE _ _ _) ⟨rfl,by decide,by simp[o0]⟩ fun a8=> ?_
 rw[b9.set_set,show o0 (o0 [t,D.nilSlc, .nilSlc] 0 [.lst (m.types.map b5q++[b1G]) 5]) 0 [a3J m.types]=[a3J m.types, .nilSlc, .nilSlc]from rfl]
 rw[D5 (b9.set_same _ _ _),show([a3J m.types,D.nilSlc, .nilSlc])[1]? =some .nilSlc from rfl,oD,D5 (b7T h0),xa1,oD]
 refine(Grw.nil _ 1).push (d7V _ _) (by simp;omega) fun t2 S2 q=> ?_
 refine stP (ds:=[t2]) (q.le _ _ (b9.set_same _ _ _)) (Grw.cells q) ⟨rfl,by decide,by simp⟩ fun a9=> ?_
 have q:=q.upd (o:=⟨3,[[a3J m.types,t2, .nilSlc]],a9⟩) (b9.set_same _ _ _)
 rw[b9.set_set]at q
 rw[show o0 [a3J m.types,D.nilSlc, .nilSlc] 1 [t2]=[a3J m.types,t2, .nilSlc]from rfl,D5 (b9.set_same _ _ _),show([a3J m.types,t2,D.nilSlc])[1]? =some t2 from rfl,oD]
 rw[show m9 1 (List.replicate 1 [(.str [])]) [(0,D.str a1o)]=some [[.str a1o]]from rfl]
 refine F5 rfl ?_
 refine q.last (news:=[[.str a1o]]) rfl (by simp) (by simp;omega) ?_
 rw[List.nil_append]
 refine stP (ds:=[.lst (y9 (m.texts.map D.str)++[[.str a1o]]) 1]) (b9.set_same _ _ _) (clL _ _) ⟨rfl,by decide,by simp⟩ fun a10=> ?_
 rw[b9.set_set,show o0 [a3J m.types,t2, .nilSlc] 1 [D.lst (y9 (m.texts.map D.str)++[[.str a1o]]) 1]=[a3J m.types, .lst (y9 (m.texts.map D.str)++[[.str a1o]]) 1, .nilSlc]from rfl,D5 (b9.set_same _ _ _),show([a3J m.types, .lst (y9 (m.texts.map D.str)++[[.str a1o]]) 1,D.nilSlc])[1]? =some (.lst (y9 (m.texts.map D.str)++[[.str a1o]]) 1) from rfl,oD,D5 (b7T h0),xa1,oD,J9,oD,d7z (by simp),oD,List.take_left' (by simp),List.drop_left' (by simp)]
 refine stP (ds:=[b3z m.texts]) (b9.set_same _ _ _) (clE _ _ _) ⟨rfl,by decide,by simp[o0]⟩ fun a11=> ?_
 rw[b9.set_set,show o0 [a3J m.types, .lst (y9 (m.texts.map D.str)++[[.str a1o]]) 1,D.nilSlc] 1 [b3z m.texts]=[a3J m.types,b3z m.texts, .nilSlc]from rfl]
 have hB1:∃B1,B1=B.set k3 ⟨3,[[a3J m.types,b3z m.texts, .nilSlc]],a11⟩∧S.le B1∧B1 k=some ⟨3,[F8 m],c⟩∧B1 k2=some ⟨3,[[.nilSlc, .nilSlc, .nilSlc]],c2⟩∧B1 k3=some ⟨3,[[a3J m.types,b3z m.texts, .nilSlc]],a11⟩:=
  ⟨_,rfl,up hle,b7T h0,keep2 h2,b9.set_same _ _ _⟩
 clear g g0 g3 q hge hle h0 h2 h3
 obtain⟨B1,hB1,hle,h0,h2,h3⟩:=hB1
 rw[←hB1]
 clear hB1
 refine b4J (I:=fun n x1 x2 x3 x4 S'=>x1= .ptr k 0∧x2= .ptr k2 0∧x3= .ptr k3 0∧∃(i:Nat) (B:b9) (t:D) (c3:List AV),x4= .int .i64 (i:Int)∧i+n=m.funcs.length∧S.le B∧B k=some ⟨3,[F8 m],c⟩∧B k2=some ⟨3,[[.nilSlc, .nilSlc, .nilSlc]],c2⟩∧B k3=some ⟨3,[[a3J m.types,b3z m.texts,t]],c3⟩∧Grw B t ((m.funcs.take i).map a5X) 6 S') ?_ (n:=m.funcs.length)
  ⟨rfl,rfl,rfl,0,B1, .nilSlc,a11,rfl,by omega,hle,h0,h2,h3,Grw.nil _ _⟩
 clear hle h0 h2 h3 B1
 rintro n' _ _ _ _ S1 ⟨rfl,rfl,rfl,i,B,t,c3,rfl,hi,hle,h0,h2,h3,g⟩
 have g0:=g.le _ _ h0
 have g3:=g.le _ _ h3
 unfold a2R
 simp only[u5,oD,D5 g0,Nat.zero_add,xa2,I9,A5]
 rw[B3]
 refine⟨fun hlt=> ?_,fun hge=> ?_⟩
 ·have hlt:i<m.funcs.length:=by omega
  obtain⟨y,hy⟩:∃y,y=m.funcs[i]:=⟨_,rfl⟩
  have ea:m.funcs[i]? =some y:=by rw[List.getElem?_eq_getElem hlt,hy]
  obtain⟨hf1,hf2,hf3⟩:=hm.params y (by rw[hy];exact List.getElem_mem _)
  simp only[a1k ea,oD,d0n]
  intro k5 a5 n5
  refine stP (ds:=F9 y) (b9.set_same _ _ _) (J5 _) ⟨rfl,by decide,by simp[F9]⟩ fun a5=> ?_
  simp only[u5,oD,Nat.zero_add]
  rw[b9.set_set,D5 (b9.set_same _ _ _),show(o0 [D.str [], .nilSlc, .nilSlc, .int .i64 0, .int .i64 0, .nilSlc] 0 (F9 y))=F9 y from rfl,show(F9 y)[1]? =some (iD y.params) from rfl,oD]
  refine(b4u hf1).use ?_
  refine stP (ds:=[iX y.params]) (b9.set_same _ _ _) (clE _ _ _) ⟨rfl,by decide,by simp[F9]⟩ fun a6=> ?_
  rw[b9.set_set,D5 (b9.set_same _ _ _),show(o0 (F9 y) 1 [iX y.params])[2]? =some (iD y.results) from rfl,oD]
  refine(b4u hf2).use ?_
  refine stP (ds:=[iX y.results]) (b9.set_same _ _ _) (clE _ _ _) ⟨rfl,by decide,by simp[F9,o0]⟩ fun a7=> ?_
  rw[b9.set_set,D5 (b9.set_same _ _ _),show(o0 (o0 (F9 y) 1 [iX y.params]) 2 [iX y.results])[5]? =some (bD y.code) from rfl,oD]
  refine(c5A hf3).use ?_
  refine stP (ds:=[bX y.code]) (b9.set_same _ _ _) (clE _ _ _) ⟨rfl,by decide,by simp[F9,o0]⟩ fun a8=> ?_
  rw[b9.set_set,show o0 (o0 (o0 (F9 y) 1 [iX y.params]) 2 [iX y.results]) 5 [bX y.code]=a5X y from rfl]
  have ne5:k5≠k3:=fun e=>by rw[e,g3]at n5;cases n5
  rw[D5 (by rw[b9.set_ne _ _ _ (Ne.symm ne5)];exact g3),show([a3J m.types,b3z m.texts,t])[2]? =some t from rfl,oD,laP (b9.set_same _ _ _) (by simp[a5X]),oD]
  rw[show m9 6 (List.replicate 1 [(.str []), .nilSlc, .nilSlc,(.int .i64 0),(.int .i64 0), .nilSlc]) [(0, .agg (((a5X y).drop 0).take 6))]=some [a5X y]from rfl]
  refine F5 rfl ?_
  have gu:=g.under (o:=⟨[D.str [], .nilSlc, .nilSlc, .int .i64 0, .int .i64 0, .nilSlc].length,[a5X y],a8⟩) n5
  refine gu.push (news:=[a5X y]) rfl (by simp;omega) fun t' S3 g'=> ?_
  have hB3:(B.set k5 ⟨[D.str [], .nilSlc, .nilSlc, .int .i64 0, .int .i64 0, .nilSlc].length,[a5X y],a8⟩) k3=some ⟨3,[[a3J m.types,b3z m.texts,t]],c3⟩:=by rw[b9.set_ne _ _ _ (Ne.symm ne5)];exact h3
  refine stP (ds:=[t']) (g'.le _ _ hB3) (Grw.cells g') ⟨rfl,by decide,by simp⟩ fun a9=> ?_
  rw[s8,oD,j8 (by omega) (by omega)]
  have z5:B k5=none:=by
   cases e:B k5 with
   |none=>rfl
   |some o=>rw[g.le _ _ e]at n5;cases n5
  have zS:S k5=none:=by
   cases e:S k5 with
   |none=>rfl
   |some o=>rw[hle _ _ e]at z5;cases z5
  have nk:k5≠k:=fun e=>by rw[e,h0]at z5;cases z5
  have nk2:k5≠k2:=fun e=>by rw[e,h2]at z5;cases z5
  refine⟨n' - 1,by omega,by trivial,by trivial,by trivial,i+1,(B.set k5 ⟨[D.str [], .nilSlc, .nilSlc, .int .i64 0, .int .i64 0, .nilSlc].length,[a5X y],a8⟩).set k3 ⟨3,[[a3J m.types,b3z m.texts,t']],a9⟩,t',a9,rfl,by omega,up (b9.le_set hle zS),b7T (by rw[b9.set_ne _ _ _ (Ne.symm nk)];exact h0),keep2 (by rw[b9.set_ne _ _ _ (Ne.symm nk2)];exact h2),b9.set_same _ _ _, ?_⟩
  rw[List.take_add_one,ea,Option.toList_some,List.map_append]
  exact g'.upd hB3
 have hi:i=m.funcs.length:=by omega
 subst hi
 rw[List.take_length]at g
 rw[D5 g3,show([a3J m.types,b3z m.texts,t])[2]? =some t from rfl,oD]
 rw[show B8 (s5 [(.str []), .nilSlc, .nilSlc,(.int .i64 0),(.int .i64 0), .nilSlc] [(0,1,(.str a1o))])=some (.agg b1t) from rfl,oD,show m9 6 (List.replicate 1 [(.str []), .nilSlc, .nilSlc,(.int .i64 0),(.int .i64 0), .nilSlc]) [(0, .agg b1t)]=some [b1t]from rfl]
 refine F5 rfl ?_
 refine g.last (news:=[b1t]) rfl (by simp) (by simp;omega) ?_
 refine stP (ds:=[.lst (m.funcs.map a5X++[b1t]) 6]) h3 (clL _ _) ⟨rfl,by decide,by simp⟩ fun a7=> ?_
 rw[D5 (b9.set_same _ _ _),show(o0 [a3J m.types,b3z m.texts,t] 2 [.lst (m.funcs.map a5X++[b1t]) 6])[2]? =some (.lst (m.funcs.map a5X++[b1t]) 6) from rfl,oD,D5 (b7T h0),xa2,oD,I9,oD,d7z (by simp),oD,List.take_left' (by simp),List.drop_left' (by simp)]
 refine stP (ds:=[c9O m.funcs]) (b9.set_same _ _ _) (clE _ _ _) ⟨rfl,by decide,by simp[o0]⟩ fun a8=> ?_
 rw[b9.set_set,show o0 (o0 [a3J m.types,b3z m.texts,t] 2 [D.lst (m.funcs.map a5X++[b1t]) 6]) 2 [c9O m.funcs]=[a3J m.types,b3z m.texts,c9O m.funcs]from rfl]
 rw[laP (b9.set_same _ _ _) (by simp),oD]
 refine stP (ds:=[a3J m.types,b3z m.texts,c9O m.funcs]) (keep2 h2) (J5 _) ⟨rfl,by decide,by simp⟩ fun a9=> ?_
 rw[laP (b9.set_same _ _ _) (by simp[o0]),oD]
 exact i9.less (b9.le_set (up hle) n2') i9.pure
end
end
section
theorem Mo.Small.fits{m:Mo}{N:Nat}(hm:m.Ok)(h:m.Small N)(hN:N<2^30):m.Fits:=
 ⟨hm,by have:=h.types;omega,by have:=h.texts;omega,by have:=h.funcs;omega,fun t ht=>by have:=h.fields t ht;omega,fun r hr=>by have:=h.params r hr;omega⟩
end
end Go.Proofs.YtchnpgddpaonhaaGreat.d
end
section
namespace Go.Am
theorem b9.set_self{S:b9}{k:Nat}{o:K8}(h:S k=some o):S.set k o=S:=by
 funext j;unfold b9.set
 by_cases e:j=k
 ·subst e;rw[if_pos rfl,h]
 ·rw[if_neg e]
theorem b9.ne_of{S:b9}{k l:Nat}{o:K8}(h:S k=some o)(n:S l=Option.none):k≠l:=fun e=>by rw[e,n]at h;cases h
theorem b9.none_of{S S':b9}(h:S.le S'){k:Nat}(hk:S' k=Option.none):S k=Option.none:=by
 cases e:S k with
 |none=>rfl
 |some o=>rw[h _ _ e]at hk;cases hk
def w9(S:b9)(k sz:Nat)(c:List D):Prop:=∃a,S k=some ⟨sz,[c],a⟩
section
variable{S S':b9}{k l sz sz':Nat}{c c':List D}
theorem w9.new{a:List AV}:w9 (S.set k ⟨sz,[c],a⟩) k sz c:=⟨a,b9.set_same _ _ _⟩
theorem w9.set_ne(h:w9 S k sz c){o:K8}(hn:k≠l):w9 (S.set l o) k sz c:=by
 obtain⟨a,h⟩:=h;exact⟨a,by rw[b9.set_ne _ _ _ hn];exact h⟩
theorem w9.none(h:w9 S k sz c)(hn:S l=Option.none):k≠l:=by
 obtain⟨a,h⟩:=h;exact b9.ne_of h hn
theorem w9.set(h:w9 S k sz c){o:K8}(hn:S l=Option.none):w9 (S.set l o) k sz c:=h.set_ne (h.none hn)
theorem w9.of(h:w9 S k sz c)(e:S' k=S k):w9 S' k sz c:=by
 obtain⟨a,h⟩:=h;exact⟨a,by rw[e];exact h⟩
theorem w9.le(h:w9 S k sz c)(hl:S.le S'):w9 S' k sz c:=by
 obtain⟨a,h⟩:=h;exact⟨a,hl _ _ h⟩
theorem w9.ne(h:w9 S k sz c)(h':w9 S l sz' c')(hs:sz≠sz'):k≠l:=fun e=>by
 obtain⟨a,h⟩:=h;obtain⟨b,h'⟩:=h';subst e;rw[h]at h';cases h';exact hs rfl
theorem w9.there(h:w9 S k sz c):S k≠Option.none:=by
 obtain⟨a,h⟩:=h;rw[h];simp
theorem w9.ld(h:w9 S k sz c)(i:Nat):b8 S (.ptr k i)=c[i]? :=by obtain⟨a,h⟩:=h;exact D5 h
theorem w9.la(h:w9 S k sz c){i n:Nat}(hn:0<n∧i+n≤c.length):j2 S n (.ptr k i)=some (.agg ((c.drop i).take n)):=by obtain⟨a,h⟩:=h;exact laP h hn
theorem w9.all(h:w9 S k sz c){n:Nat}(hn:0<n)(hl:n=c.length):j2 S n (.ptr k 0)=Option.some (.agg c):=by
 rw[h.la ⟨hn,by omega⟩,List.drop_zero,List.take_of_length_le (by omega)]
theorem w9.st(h:w9 S k sz c){i n:Nat}{v:D}{ds:List D}{K:D→b9→Prop}(hv:q6 v=Option.some ds)(hn:ds.length=n∧0<n∧i+n≤c.length)(hK:∀a,K d9 (S.set k ⟨sz,[o0 c i ds],a⟩)):j7 S n (.ptr k i) v K:=by
 obtain⟨a,h⟩:=h;exact stP h hv hn hK
end
def GrA(S0:b9)(av:List Nat)(t:D)(rows:List (List D))(sz:Nat)(S:b9):Prop:=
 (t= .nilSlc∧rows=[])∨∃k acs,S0 k=Option.none∧k ∉ av∧t= .raw k 0 rows.length rows.length false sz∧S k=some ⟨sz,rows,acs⟩
section
variable{S0 S:b9}{av:List Nat}{t:D}{rows:List (List D)}{sz:Nat}
theorem GrA.nil:GrA S0 av .nilSlc [] sz S:= .inl ⟨rfl,rfl⟩
theorem GrA.of(h:GrA S0 av t rows sz S){S':b9}(e:∀k o,k ∉ av→S k=some o→S' k=some o):GrA S0 av t rows sz S':=by
 rcases h with h|⟨k,acs,h0,h1,h2,h3⟩
 ·exact .inl h
 ·exact .inr ⟨k,acs,h0,h1,h2,e _ _ h1 h3⟩
theorem GrA.set(h:GrA S0 av t rows sz S){l:Nat}{o:K8}(hl:l∈av∨S l=Option.none):GrA S0 av t rows sz (S.set l o):=h.of fun k o' hk e=>by
 rw[b9.set_ne]
 ·exact e
 ·rintro rfl
  rcases hl with hl|hl
  ·exact hk hl
  ·rw[hl]at e;cases e
theorem GrA.le(h:GrA S0 av t rows sz S){S':b9}(hl:S.le S'):GrA S0 av t rows sz S':=h.of fun k o _ e=>hl _ _ e
theorem GrA.push(h:GrA S0 av t rows sz S)(hle:S0.le S)(hav:∀j∈av,S j≠Option.none){bytes:Nat}{v:D}{news:List (List D)}(hv:rowsS S sz v=some news)(hn:news≠[])(hb:0<bytes∧(2*(rows.length+news.length)+768)*bytes≤2^47){K:D→b9→Prop}
  (hK:∀t' S',S0.le S'→(∀j∈av,S' j=S j)→GrA S0 av t' (rows++news) sz S'→K t' S'):r6 S sz bytes t v K:=by
 simp only[r6,hv]
 rcases h with ⟨rfl,rfl⟩|⟨k,acs,h0,h1,rfl,h3⟩
 ·simp only[a7T]
  rw[if_neg hn]
  refine⟨⟨hb.1,by simpa using hb.2⟩, .inr fun k acs hk=>hK _ _ (b9.le_set hle (b9.none_of hle hk)) (fun j hj=>b9.set_ne _ _ _ fun e=>hav j hj (by rw[e];exact hk)) (.inr ⟨k,acs,b9.none_of hle hk,fun hm=>hav k hm hk,by simp,by simpa using b9.set_same _ _ _⟩)⟩
 ·simp only[a7T]
  rw[if_neg hn,h3]
  simp only
  rw[if_pos ⟨by trivial,by trivial,by omega⟩]
  have hke:∀j∈av,(S.erase k) j=S j:=fun j hj=>b9.erase_ne _ _ fun e=>h1 (e▸hj)
  refine⟨hb, .inr fun k' acs' hk'=> ?_⟩
  have hle':=b9.le_erase hle h0
  refine hK _ _ (b9.le_set hle' (b9.none_of hle' hk')) (fun j hj=> ?_) (.inr ⟨k',acs',b9.none_of hle' hk',fun hm=>hav k' hm (by rw[←hke k' hm];exact hk'),by simp, ?_⟩)
  ·rw[b9.set_ne,hke j hj]
   rintro rfl
   exact hav j hj (by rw[←hke j hj];exact hk')
  ·rw[b9.set_same];simp
theorem GrA.grw(h:GrA S0 av t rows sz S)(hle:S0.le S):∃S',S'.le S∧Grw S0 t rows sz S':=by
 rcases h with ⟨rfl,rfl⟩|⟨k,acs,h0,h1,rfl,h3⟩
 ·exact⟨S0,hle, .inl ⟨rfl,rfl,rfl⟩⟩
 ·refine⟨S0.set k ⟨sz,rows,acs⟩,fun j o e=> ?_, .inr ⟨k,acs,h0,rfl,rfl⟩⟩
  unfold b9.set at e
  split at e
  ·rename_i hj;subst hj;cases e;exact h3
  ·exact hle _ _ e
theorem GrA.len(h:GrA S0 av t rows sz S):l9 t=some (.int .i64 rows.length):=by
 rcases h with ⟨rfl,rfl⟩|⟨k,acs,_,_,rfl,_⟩<;>rfl
theorem GrA.cells(h:GrA S0 av t rows sz S):q6 t=some [t]:=by
 rcases h with ⟨rfl,rfl⟩|⟨k,acs,_,_,rfl,_⟩<;>rfl
end
theorem o9.fin{P:Program}{E:j6}{w0:World}{x:Bool}{f:FuncId}{ds:List D}{S:b9}{Q Q':D→b9→Prop}(h:o9 P E w0 x f ds S Q)(hq:∀d S',Q d S'→i9 E Q' d S'):o9 P E w0 x f ds S Q':=fun R H avs hF hC ha=>by
 refine d4t _ _ _ _ _ (h R H avs hF hC ha) fun v H' ⟨F',R',S',d,a,b,c,e⟩=> ?_
 obtain⟨R2,S2,d2,a2,b2,c2,e2⟩:=hq _ _ e R' H' v b c
 exact⟨F',R2,S2,d2,Fz.le_trans a a2,b2,c2,e2⟩
theorem i9.grwT{E:j6}{Q:D→b9→Prop}{S0 S:b9}{t:D}{rows:List (List D)}{sz:Nat}(h:Grw S0 t rows sz S){pre post:List D}(hQ:i9 E Q (.tup (pre++ .lst rows sz::post)) S0):i9 E Q (.tup (pre++t::post)) S:=by
 rcases h with ⟨rfl,rfl,rfl⟩|⟨k,acs,h0,rfl,rfl⟩
 ·exact i9.nilT hQ
 ·refine i9.freezeT (b9.set_same _ _ _) rfl (by simp) (Nat.le_refl _) ?_
  rw[b9.erase_set _ _ _ h0]
  simpa using hQ
end Go.Am
end
