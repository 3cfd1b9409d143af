/- A part of the proof of ImageWrites. -/
import Derived.Test.YtchnpgddpaonhaaGreatWaw
import Derived.Test.YtchnpgddpaonhaaGreatWay
import Derived.Test.YtchnpgddpaonhaaGreatRows
import Derived.Test.YtchnpgddpaonhaaGreatWap
import Derived.KernelRfl
set_option linter.unusedVariables false
set_option linter.unusedSimpArgs false
set_option maxRecDepth 100000
section
open Go.Proofs Go Go.Am Go.Op
namespace Go.Proofs.YtchnpgddpaonhaaGreat.d
section
def B5(m:Mo)(t:Int):Bool:=decide (1≤t∧t≤5)||decide (16≤t∧t - 16<m.types.length)
def b8A(m:Mo)(t:Ty):Bool:=decide (t.name=[])&&decide (t.fields.length=0)&&B5 m t.elem
def K7(m:Mo)(t:Ty):Bool:=
 if t.kind=6 then decide (t.elem=0)&&decide (t.len=0)&&t.fields.all fun f=>B5 m f.2
 else if t.kind=7 then b8A m t&&decide (0≤t.len∧t.len≤65536)
 else if t.kind=8 then b8A m t&&decide (t.len=0) else false
def a0X(m:Mo)(r:Ro)(y:In):Bool:=decide ((I7 y m).2.2=0)&& !(decide (y.op=7∨y.op=8)&&decide (r.locals≤y.a))
def Q6(m:Mo)(r:Ro):Bool:=
 r.params.all (B5 m)&&r.results.all (B5 m)&& !decide (r.locals<r.params.length)&& !decide (r.stack<0)&&
  decide ((b1N (b3T r.code)).2.2=0)&&(b1N (b3T r.code)).1.all (a0X m r)
section
variable{E:j6}{w0:World}{x:Bool}
def a7g(E:j6)(w0:World)(x:Bool)(S:b9)(fv d:D)(b:Bool):Prop:=∀K:D→b9→Prop,K (.bool b) S→a3b Tryz.prog (o9 Tryz.prog E w0 x) S fv [d] K
theorem a5l{f:FuncId}(hf:b2X Tryz.prog f=true){cs:List D}{d:D}{b:Bool}{S:b9}(h:o9 Tryz.prog E w0 x f (d::cs) S fun d' S'=>d'= .bool b∧S'=S):a7g E w0 x S (.fn (.func f) [] cs) d b:=fun K hK=>by
 simp only[a3b,b5S,hf,List.nil_append,List.singleton_append,if_true]
 refine h.use fun d' S' ⟨h1,h2⟩=> ?_
 subst h1 h2
 exact hK
def c8J{α:Type}(p:α→Bool)(l:List α):Int:=match l.findIdx? p with
 |some i=>(i:Int)
 |none=> -1
theorem d2z{α:Type}{p:α→Bool}{l:List α}{i:Nat}(h:(l.take i).any p=false)(hi:i≤l.length):l.findIdx? p=((l.drop i).findIdx? p).map (· +i):=by
 induction l generalizing i with
 |nil=>simp
 |cons a l ih=>
  cases i with
  |zero=>simp
  |succ i=>
   simp only[List.take_succ_cons,List.any_cons,Bool.or_eq_false_iff]at h
   rw[List.drop_succ_cons,List.findIdx?_cons,h.1]
   simp only[Bool.false_eq_true,if_false,ih h.2 (by simpa using hi),Option.map_map]
   cases (l.drop i).findIdx? p<;>simp[Function.comp];omega
theorem c6R{α:Type}{p:α→Bool}{l:List α}:decide (c8J p l≥0)=l.any p:=by
 unfold c8J
 cases h:l.findIdx? p with
 |none=>
  have:∀a∈l,p a=false:=by simpa [List.findIdx?_eq_none_iff]using h
  have:l.any p=false:=by rw[List.any_eq_false];intro a ha;simp[this a ha]
  rw[this];rfl
 |some i=>
  have hi:=List.findIdx?_eq_some_iff_getElem.1 h
  obtain⟨h1,h2,_⟩:=hi
  have:l.any p=true:=List.any_eq_true.2 ⟨_,List.getElem_mem h1,h2⟩
  rw[this]
  exact decide_eq_true (by simp)
theorem c0B{α:Type}{p:α→Bool}{l:List α}{i:Nat}(h:(l.take i).any p=false)(hi:i<l.length):(p l[i]=true→c8J p l=(i:Int))∧(p l[i]=false→(l.take (i+1)).any p=false):=by
 constructor
 ·intro hp
  unfold c8J
  rw[d2z h (by omega),List.drop_eq_getElem_cons hi,List.findIdx?_cons,hp]
  simp
 ·intro hp
  rw[List.take_add_one,List.getElem?_eq_getElem hi,List.any_append,h]
  simpa using hp
theorem c6L{α:Type}{p:α→Bool}{l:List α}(h:l.any p=false):c8J p l= -1:=by
 unfold c8J
 have:l.findIdx? p=none:=by
  rw[List.findIdx?_eq_none_iff]
  intro a ha
  have:=List.any_eq_false.1 h a ha
  simpa using this
 rw[this]
theorem d4N{l:List (Tx×Int)}{p:Tx×Int→Bool}{fv:D}(hl:l.length<2^60){S:b9}(hp:∀y∈l,a7g E w0 x S fv (.agg (O1 y)) (p y)):o9 Tryz.prog E w0 x P1 [O9 l,fv] S fun d S'=>d= .int .i64 (c8J p l)∧S'=S:=by
 refine a4L ?_
 unfold a0E
 rw[B0,oD]
 refine a3K (I:=fun n x0 x1 x7 x8 T=>S=T∧x0=O9 l∧fv=x1∧x7= .int .i64 (l.length:Int)∧∃i:Nat,x8= .int .i64 (i:Int)∧i+n=l.length∧(l.take i).any p=false) ?_ (n:=l.length) ⟨rfl,rfl,rfl,rfl,0,rfl,by omega,rfl⟩
 rintro n _ _ _ _ _ ⟨rfl,rfl,rfl,rfl,i,rfl,hi,ht⟩
 unfold M1
 rw[A5,oD,B3]
 refine⟨fun hlt=> ?_,fun hge=> ?_⟩
 ·have hlt:i<l.length:=by omega
  obtain⟨s1,s2⟩:=c0B ht hlt
  rw[V2 (List.getElem?_eq_getElem hlt),oD,d6V,oD]
  refine hp _ (List.getElem_mem _) _ ?_
  rw[cdB]
  refine⟨fun h=>i9.here ⟨by rw[s1 h],rfl⟩,fun h=> ?_⟩
  rw[s8,oD,j8 (by omega) (by omega)]
  exact⟨n - 1,by omega,rfl,rfl,rfl,rfl,i+1,rfl,by omega,s2 h⟩
 ·rw[List.take_of_length_le (by omega)]at ht
  exact i9.here ⟨by rw[c6L ht],rfl⟩
theorem d3O{l:List Tx}{p:Tx→Bool}{fv:D}(hl:l.length<2^60){S:b9}(hp:∀y∈l,a7g E w0 x S fv (.str y) (p y)):o9 Tryz.prog E w0 x V5 [a6A l,fv] S fun d S'=>d= .int .i64 (c8J p l)∧S'=S:=by
 refine a6B ?_
 unfold a2b
 rw[J9,oD]
 refine a5u (I:=fun n x0 x1 x7 x8 T=>S=T∧x0=a6A l∧fv=x1∧x7= .int .i64 (l.length:Int)∧∃i:Nat,x8= .int .i64 (i:Int)∧i+n=l.length∧(l.take i).any p=false) ?_ (n:=l.length) ⟨rfl,rfl,rfl,rfl,0,rfl,by omega,rfl⟩
 rintro n _ _ _ _ _ ⟨rfl,rfl,rfl,rfl,i,rfl,hi,ht⟩
 unfold Q9
 rw[A5,oD,B3]
 refine⟨fun hlt=> ?_,fun hge=> ?_⟩
 ·have hlt:i<l.length:=by omega
  obtain⟨s1,s2⟩:=c0B ht hlt
  rw[a7t (List.getElem?_eq_getElem hlt),oD,lsE,List.getElem?_cons_zero,oD]
  refine hp _ (List.getElem_mem _) _ ?_
  rw[cdB]
  refine⟨fun h=>i9.here ⟨by rw[s1 h],rfl⟩,fun h=> ?_⟩
  rw[s8,oD,j8 (by omega) (by omega)]
  exact⟨n - 1,by omega,rfl,rfl,rfl,rfl,i+1,rfl,by omega,s2 h⟩
 ·rw[List.take_of_length_le (by omega)]at ht
  exact i9.here ⟨by rw[c6L ht],rfl⟩
theorem d4a{l:List Int}{p:Int→Bool}{fv:D}(hl:l.length<2^60){S:b9}(hp:∀y∈l,a7g E w0 x S fv (.int .i64 y) (p y)):o9 Tryz.prog E w0 x a0v [iD l,fv] S fun d S'=>d= .int .i64 (c8J p l)∧S'=S:=by
 refine b0c ?_
 unfold a4C
 rw[M5,oD]
 refine a7m (I:=fun n x0 x1 x7 x8 T=>S=T∧x0=iD l∧fv=x1∧x7= .int .i64 (l.length:Int)∧∃i:Nat,x8= .int .i64 (i:Int)∧i+n=l.length∧(l.take i).any p=false) ?_ (n:=l.length) ⟨rfl,rfl,rfl,rfl,0,rfl,by omega,rfl⟩
 rintro n _ _ _ _ _ ⟨rfl,rfl,rfl,rfl,i,rfl,hi,ht⟩
 unfold X3
 rw[A5,oD,B3]
 refine⟨fun hlt=> ?_,fun hge=> ?_⟩
 ·have hlt:i<l.length:=by omega
  obtain⟨s1,s2⟩:=c0B ht hlt
  rw[c0L (List.getElem?_eq_getElem hlt),oD,lsE,List.getElem?_cons_zero,oD]
  refine hp _ (List.getElem_mem _) _ ?_
  rw[cdB]
  refine⟨fun h=>i9.here ⟨by rw[s1 h],rfl⟩,fun h=> ?_⟩
  rw[s8,oD,j8 (by omega) (by omega)]
  exact⟨n - 1,by omega,rfl,rfl,rfl,rfl,i+1,rfl,by omega,s2 h⟩
 ·rw[List.take_of_length_le (by omega)]at ht
  exact i9.here ⟨by rw[c6L ht],rfl⟩
theorem e2v(S:b9)(y:In):j2 S 4 (.elt (J2 y) 0)=some (.agg (J2 y)):=rfl
theorem b2k{l:List In}{i:Nat}{y:In}(h:l[i]? =some y):p6 4 (b4T l) (.int .i64 (i:Int))=some (.elt (J2 y) 0):=b9k (by rw[List.getElem?_map,h];rfl)
theorem d4Z{l:List In}{p:In→Bool}{fv:D}(hl:l.length<2^60){S:b9}(hp:∀y∈l,a7g E w0 x S fv (inD y) (p y)):o9 Tryz.prog E w0 x P2 [b4T l,fv] S fun d S'=>d= .int .i64 (c8J p l)∧S'=S:=by
 refine a4K ?_
 unfold a0G
 rw[show l9 (b4T l)=some (.int .i64 (l.length:Int)) by simp[b4T],oD]
 refine a3N (I:=fun n x0 x1 x7 x8 T=>S=T∧x0=b4T l∧fv=x1∧x7= .int .i64 (l.length:Int)∧∃i:Nat,x8= .int .i64 (i:Int)∧i+n=l.length∧(l.take i).any p=false) ?_ (n:=l.length) ⟨rfl,rfl,rfl,rfl,0,rfl,by omega,rfl⟩
 rintro n _ _ _ _ _ ⟨rfl,rfl,rfl,rfl,i,rfl,hi,ht⟩
 unfold M4
 rw[A5,oD,B3]
 refine⟨fun hlt=> ?_,fun hge=> ?_⟩
 ·have hlt:i<l.length:=by omega
  obtain⟨s1,s2⟩:=c0B ht hlt
  rw[b2k (List.getElem?_eq_getElem hlt),oD,e2v,oD]
  refine hp _ (List.getElem_mem _) _ ?_
  rw[cdB]
  refine⟨fun h=>i9.here ⟨by rw[s1 h],rfl⟩,fun h=> ?_⟩
  rw[s8,oD,j8 (by omega) (by omega)]
  exact⟨n - 1,by omega,rfl,rfl,rfl,rfl,i+1,rfl,by omega,s2 h⟩
 ·rw[List.take_of_length_le (by omega)]at ht
  exact i9.here ⟨by rw[c6L ht],rfl⟩
theorem d0O{l:List (Tx×Int)}{p:Tx×Int→Bool}{fv:D}(hl:l.length<2^60){S:b9}(hp:∀y∈l,a7g E w0 x S fv (.agg (O1 y)) (p y)):o9 Tryz.prog E w0 x C4 [O9 l,fv] S fun d S'=>d= .bool (l.any p)∧S'=S:=by
 refine a3h ?_
 unfold Y7
 refine(d4N hl hp).use fun d S' ⟨h1,h2⟩=> ?_
 subst h1 h2
 rw[a3H,oD,c6R];exact i9.here ⟨rfl,rfl⟩
theorem d7A{l:List Tx}{p:Tx→Bool}{fv:D}(hl:l.length<2^60){S:b9}(hp:∀y∈l,a7g E w0 x S fv (.str y) (p y)):o9 Tryz.prog E w0 x P5 [a6A l,fv] S fun d S'=>d= .bool (l.any p)∧S'=S:=by
 refine a4H ?_
 unfold a0C
 refine(d3O hl hp).use fun d S' ⟨h1,h2⟩=> ?_
 subst h1 h2
 rw[a3H,oD,c6R];exact i9.here ⟨rfl,rfl⟩
theorem d0M{l:List Int}{p:Int→Bool}{fv:D}(hl:l.length<2^60){S:b9}(hp:∀y∈l,a7g E w0 x S fv (.int .i64 y) (p y)):o9 Tryz.prog E w0 x L4 [iD l,fv] S fun d S'=>d= .bool (l.any p)∧S'=S:=by
 refine a6w ?_
 unfold a2c
 refine(d4a hl hp).use fun d S' ⟨h1,h2⟩=> ?_
 subst h1 h2
 rw[a3H,oD,c6R];exact i9.here ⟨rfl,rfl⟩
theorem d8V{l:List In}{p:In→Bool}{fv:D}(hl:l.length<2^60){S:b9}(hp:∀y∈l,a7g E w0 x S fv (inD y) (p y)):o9 Tryz.prog E w0 x L3 [b4T l,fv] S fun d S'=>d= .bool (l.any p)∧S'=S:=by
 refine a3i ?_
 unfold Y6
 refine(d4Z hl hp).use fun d S' ⟨h1,h2⟩=> ?_
 subst h1 h2
 rw[a3H,oD,c6R];exact i9.here ⟨rfl,rfl⟩
theorem t1':(true==false)=false:=rfl
theorem t2':(false==false)=true:=rfl
theorem t3':(false==true)=false:=rfl
theorem t4':(true==true)=true:=rfl
theorem a7F{m:Mo}(hm:m.Ok){t:Int}(ht:I64 t):L1 Tryz.prog E w0 Y5 [Z0 m, .int .i64 t] (.bool (B5 m t)):=fun x S=>by
 refine c3x ?_
 unfold b8h
 rw[Z0,J5,oD]
 intro k a n
 have h0:w9 (S.set k ⟨3,[F8 m],a⟩) k 3 (F8 m):=w9.new
 rw[show(F8 m).length=3 from rfl]
 have h2:=hm.types
 obtain⟨i1,i2⟩:=ht
 have ld:b8 (S.set k ⟨3,[F8 m],a⟩) (.ptr k 0)=some (b1E m.types):=h0.ld 0
 have fin:∀b:Bool,B5 m t=b→i9 E (fun d' S'=>d'= .bool (B5 m t)∧S'=S) (.bool b) (S.set k ⟨3,[F8 m],a⟩):=fun b h=>by rw[h];exact i9.drop n i9.pure
 rw[c5w,oD]
 by_cases c1:1≤t
 ·simp only[decide_eq_true c1,C5,t4',P7,oD,C3,if_true,c5w]
  by_cases c2:t≤5
  ·simp only[decide_eq_true c2,C5,t1',vdF,oD,C3,if_true]
   exact fin true (by unfold B5;rw[decide_eq_true ⟨c1,c2⟩];rfl)
  ·simp only[decide_eq_false c2,C5,t2',P7,oD,C3,Bool.false_eq_true,if_false,a3H]
   by_cases c3:t≥16
   ·simp only[decide_eq_true c3,C5,t4',P7,oD,C3,if_true,a4S,u5,Nat.zero_add,ld,G6,A5]
    rw[j8 (by omega) (by omega)]
    refine fin _ ?_
    unfold B5
    rw[decide_eq_false (fun h=>c2 h.2),Bool.false_or]
    exact decide_eq_decide.2 ⟨fun h=>h.2,fun h=>⟨c3,h⟩⟩
   ·simp only[decide_eq_false c3,C5,t3',vdF,oD,C3,Bool.false_eq_true,if_false]
    exact fin false (by unfold B5;rw[decide_eq_false (fun h=>c2 h.2),decide_eq_false (fun h=>c3 h.1)];rfl)
 ·have c3:¬t≥16:=by omega
  simp only[decide_eq_false c1,C5,t3',t2',P7,vdF,oD,C3,Bool.false_eq_true,if_false,a3H,decide_eq_false c3]
  exact fin false (by unfold B5;rw[decide_eq_false (fun h=>c1 h.1),decide_eq_false (fun h=>c3 h.1)];rfl)
end
end
section
def a2K(t:Ty):Bool:=decide (t.fields.length>32)||decide (t.name.length>65536)||t.fields.any fun f=>decide (f.1.length>65536)
def O8(r:Ro):Bool:=decide (r.params.length>32)||decide (r.results.length>8)||decide (r.locals>256)||decide (r.stack>4096)||decide (r.code.length>65536)||decide (r.name.length>65536)
def W1(m:Mo)(t:Ty):Int:=if a2K t=true then 3 else if K7 m t=true then 0 else 130
def a1l(m:Mo)(r:Ro):Int:=if O8 r=true then 3 else if Q6 m r=true then 0 else 130
def H4{α:Type}(f:α→Int):List α→Int
 | []=>0
 |a::l=>if f a=0 then H4 f l else f a
theorem b0L{α:Type}{f:α→Int}{l:List α}{i:Nat}(hi:i<l.length):H4 f (l.drop i)=if f l[i]=0 then H4 f (l.drop (i+1)) else f l[i]:=by
 rw[List.drop_eq_getElem_cons hi,H4]
def F4(m:Mo):Int:=
 if m.types.length>256∨m.texts.length>32768∨m.funcs.length>256 then 3
 else if H4 (W1 m) m.types≠0 then H4 (W1 m) m.types
 else if m.texts.any (fun t=>decide (t.length>65536))=true then 3 else H4 (a1l m) m.funcs
theorem d6x{α:Type}{p:α→Bool}(l:List α):(!l.any fun a=> !p a)=l.all p:=by
 induction l with
 |nil=>rfl
 |cons a l ih=>rw[List.any_cons,List.all_cons, ←ih];cases p a<;>simp
section
variable{E:j6}{w0:World}
theorem d2d{x:Bool}{m:Mo}(hm:m.Ok){f:Tx×Int}(hf:I64 f.2){S:b9}{k:Nat}(hk:w9 S k 3 (F8 m)):o9 Tryz.prog E w0 x a1j [.agg (O1 f), .ptr k 0] S fun d S'=>d= .bool (!B5 m f.2)∧S'=S:=by
 refine b6Y ?_
 unfold b0E
 rw[J5,oD]
 intro k0 a0 n0
 have c0:w9 (S.set k0 ⟨2,[O1 f],a0⟩) k0 2 (O1 f):=w9.new
 rw[show(O1 f).length=2 from rfl,(hk.set n0).all (n:=3) (by decide) rfl,oD,u5,oD,c0.ld,show(O1 f)[0+1]? =some (.int .i64 f.2) from rfl,oD]
 refine(a7F hm hf).use ?_
 rw[unN,oD]
 exact i9.drop n0 (i9.here ⟨rfl,rfl⟩)
theorem a7n{m:Mo}{t:Ty}:b8A m t=(decide (t.name=[])&&decide (t.fields.length=0)&&B5 m t.elem):=rfl
theorem c3c{m:Mo}(hm:m.Ok){t:Ty}(ht:t.Ok):L1 Tryz.prog E w0 a2L [Z0 m, .agg (B9 t)] (.bool (K7 m t)):=fun x S=>by
 refine b9F ?_
 unfold b4q
 rw[Z0,J5,oD]
 intro k a n
 rw[J5,oD]
 intro k2 a2 n2
 obtain⟨ne2,n2'⟩:=b9.fresh n2
 generalize hS3:(S.set k _).set k2 _=S3
 have h2:w9 S3 k2 5 (B9 t):=by rw[←hS3];exact w9.new
 have h0:w9 S3 k 3 (F8 m):=by rw[←hS3];exact(w9.new).set n2
 have hle:S.le S3:=by rw[←hS3];exact b9.le_set (b9.le_new n) n2'
 have q0:(B9 t)[0]? =some (.int .u8 t.kind):=rfl
 have q1:(B9 t)[1]? =some (.str t.name):=rfl
 have q2:(B9 t)[2]? =some (O9 t.fields):=rfl
 have q3:(B9 t)[3]? =some (.int .i64 t.elem):=rfl
 have q4:(B9 t)[4]? =some (.int .i64 t.len):=rfl
 have fin:∀b:Bool,K7 m t=b→i9 E (fun d' S'=>d'= .bool (K7 m t)∧S'=S) (.bool b) S3:=fun b h=>by rw[h];exact i9.less hle i9.pure
 have hfl:=ht.fields
 have beqN:∀a:Tx,a3I .eql (.str a) (.str [])=some (.bool (decide (a=[]))):=fun a=>by rw[d5q,d3F]
 have lc:decide ((t.fields.length:Int)=0)=decide (t.fields.length=0):=decide_eq_decide.2 (by omega)
 simp only[u5,oD,Nat.zero_add,h2.ld,q1,beqN]
 have rest:∀(b:Bool),b=b8A m t→
   (b7 (b8 S3 (.ptr k2 0)) fun v19=>b7 (i6 .eql v19 (.int .u8 6)) fun v20=>j1 v20
    (b7 (b8 S3 (.ptr k2 3)) fun v22=>b7 (i6 .eql v22 (.int .i64 0)) fun v23=>b7 (i4 (i0 v23 true) (i5 4 (.ptr k2 0))) fun v24=>b7 (i4 (i0 v23 true) (b8 S3 v24)) fun v25=>b7 (i4 (i0 v23 true) (i6 .eql v25 (.int .i64 0))) fun v26=>b7 (o7 v23 v26 (.bool false)) fun v27=>
     b7 (i4 (i0 v27 true) (i5 2 (.ptr k2 0))) fun v28=>b7 (i4 (i0 v27 true) (b8 S3 v28)) fun v29=>b7 (i4 (i0 v27 true) (some (.fn (.func a1j) [] [.ptr k 0]))) fun v30=>
     F7 (i0 v27 true) (fun K=>o9 Tryz.prog E w0 x C4 [v29,v30] S3 K) S3 fun v31 S32=>b7 (i4 (i0 v27 true) (unD .not v31)) fun v33=>b7 (o7 v27 v33 (.bool false)) fun v34=>i9 E (fun d' S'=>d'= .bool (K7 m t)∧S'=S) v34 S32)
    (b7 (i6 .eql v19 (.int .u8 7)) fun v35=>j1 v35
     (b7 (i4 (i0 (.bool b) true) (i5 4 (.ptr k2 0))) fun v36=>b7 (i4 (i0 (.bool b) true) (b8 S3 v36)) fun v37=>b7 (i4 (i0 (.bool b) true) (i6 .geq v37 (.int .i64 0))) fun v38=>b7 (o7 (.bool b) v38 (.bool false)) fun v39=>
      b7 (i4 (i0 v39 true) (i5 4 (.ptr k2 0))) fun v40=>b7 (i4 (i0 v39 true) (b8 S3 v40)) fun v41=>b7 (i4 (i0 v39 true) (i6 .leq v41 (.int .i64 65536))) fun v42=>b7 (o7 v39 v42 (.bool false)) fun v43=>i9 E (fun d' S'=>d'= .bool (K7 m t)∧S'=S) v43 S3)
     (b7 (i6 .eql v19 (.int .u8 8)) fun v44=>j1 v44
      (b7 (i4 (i0 (.bool b) true) (i5 4 (.ptr k2 0))) fun v45=>b7 (i4 (i0 (.bool b) true) (b8 S3 v45)) fun v46=>b7 (i4 (i0 (.bool b) true) (i6 .eql v46 (.int .i64 0))) fun v47=>b7 (o7 (.bool b) v47 (.bool false)) fun v48=>i9 E (fun d' S'=>d'= .bool (K7 m t)∧S'=S) v48 S3)
      (i9 E (fun d' S'=>d'= .bool (K7 m t)∧S'=S) (.bool false) S3)))):=fun b hb=>by
  rw[h2.ld,q0,oD,a0i,oD,B3]
  refine⟨fun k6=> ?_,fun k6=> ?_⟩
  ·have e6:K7 m t=(decide (t.elem=0)&&decide (t.len=0)&&t.fields.all fun f=>B5 m f.2):=by unfold K7;rw[if_pos k6]
   simp only[h2.ld,q3,oD,a0i]
   by_cases c1:t.elem=0
   case neg=>simp only[decide_eq_false c1,C5,t3',vdF,gdF,oD,C3,Bool.false_eq_true,if_false];exact fin false (by rw[e6,decide_eq_false c1];rfl)
   simp only[decide_eq_true c1,C5,t4',P7,oD,C3,if_true,u5,Nat.zero_add,h2.ld,q4,a0i]
   by_cases c2:t.len=0
   case neg=>simp only[decide_eq_false c2,C5,t3',vdF,gdF,oD,C3,Bool.false_eq_true,if_false];exact fin false (by rw[e6,decide_eq_false c2,Bool.and_false];rfl)
   simp only[decide_eq_true c2,C5,t4',P7,gdT,oD,C3,if_true,u5,Nat.zero_add,h2.ld,q2]
   refine(d0O (p:=fun f=> !B5 m f.2) (by omega) fun f hf=>a5l (cs:=[.ptr k 0]) (by kernel_rfl) (d2d hm (ht.names f hf).2 h0)).use fun d S' ⟨h1,h2⟩=> ?_
   subst h1 h2
   simp only[unN,oD,P7,C3,if_true]
   refine fin _ ?_
   rw[e6,decide_eq_true c1,decide_eq_true c2,d6x];rfl
  rw[a0i,oD,B3]
  refine⟨fun k7=> ?_,fun k7=> ?_⟩
  ·have e7:K7 m t=(b8A m t&&decide (0≤t.len∧t.len≤65536)):=by unfold K7;rw[if_neg k6,if_pos k7]
   rw[←hb]at e7
   cases b with
   |false=>simp only[C5,t3',vdF,gdF,oD,C3,Bool.false_eq_true,if_false];exact fin false (by rw[e7];rfl)
   |true=>
    simp only[C5,t4',P7,oD,C3,if_true,u5,Nat.zero_add,h2.ld,q4,a3H]
    by_cases c1:t.len≥0
    ·simp only[decide_eq_true c1,C5,t4',P7,oD,C3,if_true,u5,Nat.zero_add,h2.ld,q4,c5w]
     exact fin _ (by rw[e7,Bool.true_and];exact decide_eq_decide.2 ⟨fun h=>h.2,fun h=>⟨c1,h⟩⟩)
    ·simp only[decide_eq_false c1,C5,t3',vdF,oD,C3,Bool.false_eq_true,if_false]
     exact fin false (by rw[e7,decide_eq_false (fun h=>c1 h.1)];rfl)
  rw[a0i,oD,B3]
  refine⟨fun k8=> ?_,fun k8=>fin false (by unfold K7;rw[if_neg k6,if_neg k7,if_neg k8])⟩
  have e8:K7 m t=(b8A m t&&decide (t.len=0)):=by unfold K7;rw[if_neg k6,if_neg k7,if_pos k8]
  rw[←hb]at e8
  cases b with
  |false=>simp only[C5,t3',vdF,gdF,oD,C3,Bool.false_eq_true,if_false];exact fin false (by rw[e8];rfl)
  |true=>
   simp only[C5,t4',P7,oD,C3,if_true,u5,Nat.zero_add,h2.ld,q4,a0i]
   exact fin _ (by rw[e8,Bool.true_and])
 by_cases c1:t.name=[]
 case neg=>
  simp only[decide_eq_false c1,C5,t3',vdF,gdF,oD,C3,Bool.false_eq_true,if_false]
  exact rest false (by rw[a7n,decide_eq_false c1];rfl)
 simp only[decide_eq_true c1,C5,t4',P7,oD,C3,if_true,h2.ld,q2,B0,a0i,lc]
 by_cases c2:t.fields.length=0
 case neg=>
  simp only[decide_eq_false c2,C5,t3',vdF,gdF,oD,C3,Bool.false_eq_true,if_false]
  exact rest false (by rw[a7n,decide_eq_false c2,Bool.and_false];rfl)
 simp only[decide_eq_true c2,C5,t4',P7,gdT,oD,C3,if_true,h2.ld,q3]
 rw[h0.all (n:=3) (by decide) rfl,oD]
 refine(show o9 Tryz.prog E w0 x Y5 [Z0 m, .int .i64 t.elem] S3 _ from(a7F hm ht.elem).use ?_)
 exact rest _ (by rw[a7n,decide_eq_true c1,decide_eq_true c2];rfl)
theorem c0r{x:Bool}{m:Mo}(hm:m.Ok){t:Int}(ht:I64 t){S:b9}{k:Nat}(hk:w9 S k 3 (F8 m)):o9 Tryz.prog E w0 x a3V [.int .i64 t, .ptr k 0] S fun d S'=>d= .bool (!B5 m t)∧S'=S:=by
 refine b5U ?_
 unfold b0i
 rw[hk.all (n:=3) (by decide) rfl,oD]
 refine(show o9 Tryz.prog E w0 x Y5 [Z0 m, .int .i64 t] S _ from(a7F hm ht).use ?_)
 rw[unN,oD]
 exact i9.here ⟨rfl,rfl⟩
theorem d2j{m:Mo}(hm:m.Fits){r:Ro}{y:In}(hy:y.Ok){S:b9}{k k2:Nat}(hk:w9 S k 3 (F8 m))(hk2:w9 S k2 6 (F9 r)):o9 Tryz.prog E w0 false a4c [inD y, .ptr k 0, .ptr k2 0] S fun d S'=>d= .bool (!a0X m r y)∧S'=S:=by
 refine b5R ?_
 unfold b0k
 rw[inD,J5,oD]
 intro k0 a0 n0
 have c0:w9 (S.set k0 ⟨4,[J2 y],a0⟩) k0 4 (J2 y):=w9.new
 rw[show(J2 y).length=4 from rfl,c0.all (n:=4) (by decide) rfl,oD,(hk.set n0).all (n:=3) (by decide) rfl,oD]
 refine(show o9 Tryz.prog E w0 false b0m [inD y,Z0 m] _ _ from(d1X hy hm).use ?_)
 rintro v S' ⟨p,q,rfl,g⟩
 have hle:=(Two.le g)
 have c0:=c0.le hle
 have c2:=(hk2.set (o:=⟨4,[J2 y],a0⟩) n0).le hle
 have l0:(J2 y)[0]? =some (.int .u8 y.op):=rfl
 have l1:(J2 y)[1]? =some (.int .i64 y.a):=rfl
 have l3:(F9 r)[3]? =some (.int .i64 r.locals):=rfl
 have hS:S.le S':=b9.le_trans (b9.le_new n0) hle
 have fin:∀b:Bool,a0X m r y= !b→i9 E (fun d S'=>d= .bool (!a0X m r y)∧S'=S) (.bool b) S':=fun b h=>by rw[h,Bool.not_not];exact i9.less hS (i9.here ⟨rfl,rfl⟩)
 simp only[exD,List.getElem?_cons_zero,List.getElem?_cons_succ,oD,c7c]
 by_cases c1:(I7 y m).2.2=0
 case neg=>
  simp only[decide_eq_true c1,ne_eq,not_false_eq_true,decide_true,C5,t1',vdF,oD,C3,if_true]
  exact fin true (by unfold a0X;rw[decide_eq_false c1];rfl)
 have c1':decide ((I7 y m).2.2≠0)=false:=decide_eq_false (fun h=>h c1)
 have em:a0X m r y= !(decide (y.op=7∨y.op=8)&&decide (r.locals≤y.a)):=by unfold a0X;rw[decide_eq_true c1,Bool.true_and]
 simp only[c1',C5,t2',P7,oD,C3,Bool.false_eq_true,if_false,u5,Nat.zero_add,c0.ld,l0,a0i]
 by_cases c7:y.op=7
 ·simp only[decide_eq_true c7,C5,t1',t4',vdF,P7,oD,C3,if_true,u5,Nat.zero_add,c0.ld,c2.ld,l1,l3,a3H]
  refine fin _ ?_
  rw[em,decide_eq_true (.inl c7),Bool.true_and]
 simp only[decide_eq_false c7,C5,t2',P7,oD,C3,Bool.false_eq_true,if_false,u5,Nat.zero_add,c0.ld,l0,a0i]
 by_cases c8:y.op=8
 ·simp only[decide_eq_true c8,C5,t4',P7,oD,C3,if_true,u5,Nat.zero_add,c0.ld,c2.ld,l1,l3,a3H]
  refine fin _ ?_
  rw[em,decide_eq_true (.inr c8),Bool.true_and]
 ·simp only[decide_eq_false c8,C5,t3',vdF,oD,C3,Bool.false_eq_true,if_false]
  exact fin false (by rw[em,decide_eq_false (fun h=>h.elim c7 c8)];rfl)
end
end
section
theorem d5i{α:Type}{p:α→Bool}(l:List α):(l.any fun a=> !p a)= !l.all p:=by rw[←d6x,Bool.not_not]
section
variable{E:j6}{w0:World}
theorem c3u{m:Mo}(hm:m.Fits){r:Ro}(hr:r.Ok)(hc:r.code.length<2^30):a6Z Tryz.prog E w0 a2E [Z0 m, .agg (F9 r)] (.bool (Q6 m r)):=fun S=>by
 refine b9c ?_
 unfold b4k
 rw[Z0,J5,oD]
 intro k a n
 rw[J5,oD]
 intro k2 a2 n2
 obtain⟨ne2,n2'⟩:=b9.fresh n2
 generalize hS3:(S.set k _).set k2 _=S3
 have h2:w9 S3 k2 6 (F9 r):=by rw[←hS3];exact w9.new
 have h0:w9 S3 k 3 (F8 m):=by rw[←hS3];exact(w9.new).set n2
 have hle:S.le S3:=by rw[←hS3];exact b9.le_set (b9.le_new n) n2'
 have q1:(F9 r)[1]? =some (iD r.params):=rfl
 have q2:(F9 r)[2]? =some (iD r.results):=rfl
 have q3:(F9 r)[3]? =some (.int .i64 r.locals):=rfl
 have q4:(F9 r)[4]? =some (.int .i64 r.stack):=rfl
 have q5:(F9 r)[5]? =some (bD r.code):=rfl
 have fin:∀b:Bool,Q6 m r=b→i9 E (fun d' S'=>d'= .bool (Q6 m r)∧S'=S) (.bool b) S3:=fun b h=>by rw[h];exact i9.less hle i9.pure
 have hp:=hr.params
 have hq:=hr.results
 have hmo:=hm.ok
 simp only[oD,u5,Nat.zero_add,h2.ld,q1]
 refine(d0M (p:=fun t=> !B5 m t) (by omega) fun t ht=>a5l (cs:=[.ptr k 0]) (by kernel_rfl) (c0r hmo (hr.ints t (List.mem_append_left _ ht)) h0)).use fun d S' ⟨g1,g2⟩=> ?_
 subst g1 g2
 rw[d5i]
 cases c1:r.params.all (B5 m) with
 |false=>
  simp only[Bool.not_false,C5,t1',vdF,gdF,oD,C3,if_true,cdT]
  exact fin false (by unfold Q6;rw[c1];rfl)
 |true=>
 simp only[Bool.not_true,C5,t2',P7,gdT,oD,h2.ld,u5,Nat.zero_add,q2]
 refine(d0M (p:=fun t=> !B5 m t) (by omega) fun t ht=>a5l (cs:=[.ptr k 0]) (by kernel_rfl) (c0r hmo (hr.ints t (List.mem_append_right _ ht)) h0)).use fun d S' ⟨g1,g2⟩=> ?_
 subst g1 g2
 rw[d5i]
 cases c2:r.results.all (B5 m) with
 |false=>
  simp only[Bool.not_false,C5,t1',vdF,gdF,oD,C3,Bool.false_eq_true,if_false,if_true,cdT]
  exact fin false (by unfold Q6;rw[c1,c2];rfl)
 |true=>
 simp only[Bool.not_true,C5,t2',P7,gdT,oD,C3,Bool.false_eq_true,if_false,h2.ld,u5,Nat.zero_add,q3,q1,M5,A5]
 by_cases c3:r.locals<(r.params.length:Int)
 ·simp only[decide_eq_true c3,C5,t1',vdF,gdF,oD,C3,if_true,cdT]
  exact fin false (by unfold Q6;rw[c1,c2,decide_eq_true c3];rfl)
 simp only[decide_eq_false c3,C5,t2',P7,gdT,oD,C3,Bool.false_eq_true,if_false,h2.ld,u5,Nat.zero_add,q4,A5]
 rw[B3]
 refine⟨fun c4=>fin false (by unfold Q6;rw[c1,c2,decide_eq_false c3,decide_eq_true c4];rfl),fun c4=> ?_⟩
 rw[q5,oD]
 refine(d4Y hr.bytes hc).use ?_
 rw[d6M]
 simp only[exD,List.getElem?_cons_zero,List.getElem?_cons_succ,oD,a0i]
 obtain⟨i1,i2,i3⟩:=d6q (bs:=r.code) hr.bytes
 have e0:Q6 m r=(decide ((b1N (b3T r.code)).2.2=0)&&(b1N (b3T r.code)).1.all (a0X m r)):=by unfold Q6;rw[c1,c2,decide_eq_false c3,decide_eq_false c4];rfl
 by_cases c5:(b1N (b3T r.code)).2.2=0
 ·simp only[decide_eq_true c5,C5,t4',P7,gdT,oD,C3,if_true]
  refine(d8V (p:=fun y=> !a0X m r y) (by omega) fun y hy=>a5l (cs:=[.ptr k 0, .ptr k2 0]) (by kernel_rfl) (d2j hm (i1 y hy) h0 h2)).use fun d S' ⟨g1,g2⟩=> ?_
  subst g1 g2
  rw[d5i]
  simp only[unN,oD,P7,C3,if_true,Bool.not_not]
  exact fin _ (by rw[e0,decide_eq_true c5,Bool.true_and])
 ·simp only[decide_eq_false c5,C5,t3',vdF,gdF,oD,C3,Bool.false_eq_true,if_false]
  exact fin false (by rw[e0,decide_eq_false c5,Bool.false_and])
theorem c8A{x:Bool}{f:Tx×Int}{S:b9}:o9 Tryz.prog E w0 x a2h [.agg (O1 f)] S fun d S'=>d= .bool (decide (f.1.length>65536))∧S'=S:=by
 refine b2T ?_
 unfold a7d
 rw[J5,oD]
 intro k0 a0 n0
 have c0:w9 (S.set k0 ⟨2,[O1 f],a0⟩) k0 2 (O1 f):=w9.new
 rw[show(O1 f).length=2 from rfl,u5,oD,c0.ld,show(O1 f)[0+0]? =some (.str f.1) from rfl,oD,lnS,oD,a4I,oD]
 exact i9.drop n0 (i9.here ⟨by rw[decide_eq_decide.2 (show(f.1.length:Int)>65536↔f.1.length>65536 by omega)],rfl⟩)
theorem c8s{x:Bool}{t:Tx}{S:b9}:o9 Tryz.prog E w0 x a2g [.str t] S fun d S'=>d= .bool (decide (t.length>65536))∧S'=S:=by
 refine b3i ?_
 unfold a6X
 rw[lnS,oD,a4I,oD]
 exact i9.here ⟨by rw[decide_eq_decide.2 (show(t.length:Int)>65536↔t.length>65536 by omega)],rfl⟩
theorem gtN(a b:Nat):i6 .gtr (.int .i64 (a:Int)) (.int .i64 (b:Int))=some (.bool (decide (a>b))):=by
 rw[a4I,decide_eq_decide.2 (show(a:Int)>(b:Int)↔a>b by omega)]
theorem b8U{m:Mo}(hm:m.Fits):a6Z Tryz.prog E w0 a4i [Z0 m] (.int .i64 (F4 m)):=fun S=>by
 refine b6B ?_
 unfold b0A
 rw[Z0,J5,oD]
 intro k a n
 have h0:w9 (S.set k ⟨3,[F8 m],a⟩) k 3 (F8 m):=w9.new
 have hle:S.le (S.set k ⟨3,[F8 m],a⟩):=b9.le_new n
 rw[show(F8 m).length=3 from rfl]
 generalize S.set k ⟨3,[F8 m],a⟩=S1 at*
 have hmo:=hm.ok
 have q0:(F8 m)[0]? =some (b1E m.types):=rfl
 have q1:(F8 m)[1]? =some (a6A m.texts):=rfl
 have q2:(F8 m)[2]? =some (b1r m.funcs):=rfl
 have t0:=hm.types
 have t1:=hm.texts
 have t2:=hm.funcs
 have fin:∀ {T:b9} {e:Int},S.le T→F4 m=e→i9 E (fun d' S'=>d'= .int .i64 (F4 m)∧S'=S) (.int .i64 e) T:=fun{T e} hl h=>by rw[h];exact i9.less hl i9.pure
 have g256:∀a:Nat,i6 .gtr (.int .i64 (a:Int)) (.int .i64 256)=some (.bool (decide (a>256))):=fun a=>gtN a 256
 have g32768:∀a:Nat,i6 .gtr (.int .i64 (a:Int)) (.int .i64 32768)=some (.bool (decide (a>32768))):=fun a=>gtN a 32768
 have g65536:∀a:Nat,i6 .gtr (.int .i64 (a:Int)) (.int .i64 65536)=some (.bool (decide (a>65536))):=fun a=>gtN a 65536
 have g32:∀a:Nat,i6 .gtr (.int .i64 (a:Int)) (.int .i64 32)=some (.bool (decide (a>32))):=fun a=>gtN a 32
 have g8:∀a:Nat,i6 .gtr (.int .i64 (a:Int)) (.int .i64 8)=some (.bool (decide (a>8))):=fun a=>gtN a 8
 simp only[u5,oD,Nat.zero_add,h0.ld,q0,G6,g256]
 by_cases c0:m.types.length>256
 ·simp only[decide_eq_true c0,C5,t1',vdF,oD,C3,if_true,cdT]
  exact fin hle (by unfold F4;rw[if_pos (.inl c0)])
 simp only[decide_eq_false c0,C5,t2',P7,oD,h0.ld,q1,u5,Nat.zero_add,J9,g32768,C3,Bool.false_eq_true,if_false]
 by_cases c1:m.texts.length>32768
 ·simp only[decide_eq_true c1,C5,t1',vdF,oD,C3,if_true,cdT]
  exact fin hle (by unfold F4;rw[if_pos (.inr (.inl c1))])
 simp only[decide_eq_false c1,C5,t2',P7,oD,h0.ld,q2,u5,Nat.zero_add,I9,g256,C3,Bool.false_eq_true,if_false]
 by_cases c2:m.funcs.length>256
 ·simp only[decide_eq_true c2,cdT]
  exact fin hle (by unfold F4;rw[if_pos (.inr (.inr c2))])
 simp only[decide_eq_false c2,cdF]
 have e0:F4 m=if H4 (W1 m) m.types≠0 then H4 (W1 m) m.types else if m.texts.any (fun t=>decide (t.length>65536))=true then 3 else H4 (a1l m) m.funcs:=by
  unfold F4;rw[if_neg (by omega)]
 refine b3w (I:=fun n x1 x24 x25 x26 T=>x1= .ptr k 0∧x24=b1E m.types∧x25= .int .i64 (m.types.length:Int)∧S.le T∧w9 T k 3 (F8 m)∧∃i:Nat,x26= .int .i64 (i:Int)∧i+n=m.types.length∧H4 (W1 m) m.types=H4 (W1 m) (m.types.drop i)) ?_ (n:=m.types.length)
  ⟨rfl,rfl,rfl,hle,h0,0,rfl,by omega,rfl⟩
 rintro n _ _ _ _ T ⟨rfl,rfl,rfl,hT,cT,i,rfl,hi,hfi⟩
 unfold a2e
 rw[A5,oD,B3]
 refine⟨fun hlt=> ?_,fun hge=> ?_⟩
 ·have hlt:i<m.types.length:=by omega
  obtain⟨t,ht⟩:∃t,t=m.types[i]:=⟨_,rfl⟩
  have et:m.types[i]? =some t:=by rw[List.getElem?_eq_getElem hlt,ht]
  have htm:t∈m.types:=by rw[ht];exact List.getElem_mem _
  have htok:=hmo.ty t htm
  rw[b0L hlt, ←ht]at hfi
  rw[a0l et,oD,d0l,oD]
  intro k2 a2 n2
  refine(w9.new (sz:=5) (c:=[(.int .u8 0),(.str []), .nilSlc,(.int .i64 0),(.int .i64 0)])).st (ds:=B9 t) (J5 _) ⟨rfl,by decide,by decide⟩ fun a2=> ?_
  rw[b9.set_set,show o0 [(D.int .u8 0),(.str []), .nilSlc,(.int .i64 0),(.int .i64 0)] 0 (B9 t)=B9 t from rfl]
  have c5:w9 (T.set k2 ⟨5,[B9 t],a2⟩) k2 5 (B9 t):=w9.new
  have hT2:S.le (T.set k2 ⟨5,[B9 t],a2⟩):=b9.le_set hT (b9.none_of hT n2)
  have cT2:=cT.set (o:=⟨5,[B9 t],a2⟩) n2
  generalize T.set k2 ⟨5,[B9 t],a2⟩=T2 at*
  have p1:(B9 t)[1]? =some (.str t.name):=rfl
  have p2:(B9 t)[2]? =some (O9 t.fields):=rfl
  have hend:∀b:Bool,a2K t=b→O2 E w0 false (fun x1 x24 x25 x26 S_1=>∃m_1,m_1<n∧x1= .ptr k 0∧x24=b1E m.types∧x25= .int .i64 (m.types.length:Int)∧S.le S_1∧w9 S_1 k 3 (F8 m)∧∃i:Nat,x26= .int .i64 (i:Int)∧i+m_1=m.types.length∧H4 (W1 m) m.types=H4 (W1 m) (m.types.drop i))
    (i9 E fun d' S'=>d'= .int .i64 (F4 m)∧S'=S) (.ptr k 0) (.ptr k2 0) (b1E m.types) (.int .i64 (m.types.length:Int)) (.int .i64 (i:Int)) (.bool b) T2:=fun b hb=>by
   refine b1P ?_
   unfold a6e
   cases b with
   |true=>
    rw[cdT]
    have:W1 m t=3:=by unfold W1;rw[if_pos hb]
    rw[this,if_neg (by decide)]at hfi
    exact fin hT2 (by rw[e0,hfi,if_pos (by decide)])
   |false=>
    rw[cdF,cT2.all (n:=3) (by decide) rfl,oD,c5.all (n:=5) (by decide) rfl,oD]
    refine(show o9 Tryz.prog E w0 false a2L [Z0 m, .agg (B9 t)] T2 _ from(c3c hmo htok).use ?_)
    rw[unN,oD,cdB]
    refine⟨fun h=> ?_,fun h=> ?_⟩
    ·have h:K7 m t=false:=by simpa using h
     have:W1 m t=130:=by unfold W1;rw[if_neg (by rw[hb];simp),if_neg (by rw[h];simp)]
     rw[this,if_neg (by decide)]at hfi
     exact fin hT2 (by rw[e0,hfi,if_pos (by decide)])
    ·have h:K7 m t=true:=by simpa using h
     have:W1 m t=0:=by unfold W1;rw[if_neg (by rw[hb];simp),if_pos h]
     rw[this,if_pos rfl]at hfi
     rw[s8,oD,j8 (by omega) (by omega)]
     exact⟨n - 1,by omega,rfl,rfl,rfl,hT2,cT2,i+1,rfl,by omega,hfi⟩
  simp only[u5,oD,Nat.zero_add,c5.ld,p2,B0,g32]
  by_cases d1:t.fields.length>32
  ·rw[decide_eq_true d1,cdT]
   exact hend true (by unfold a2K;rw[decide_eq_true d1];rfl)
  rw[decide_eq_false d1,cdF]
  simp only[p1,lnS,oD,g65536]
  by_cases d2:t.name.length>65536
  ·rw[decide_eq_true d2,cdT]
   exact hend true (by unfold a2K;rw[decide_eq_true d2];simp)
  rw[decide_eq_false d2,cdF]
  have hfl:=htok.fields
  refine(d0O (p:=fun f=>decide (f.1.length>65536)) (by omega) fun f hf=>a5l (cs:=[]) (by kernel_rfl) c8A).use fun d S' ⟨g1,g2⟩=> ?_
  subst g1 g2
  exact hend _ (by unfold a2K;rw[decide_eq_false d1,decide_eq_false d2];rfl)
 have hi:i=m.types.length:=by omega
 subst hi
 rw[List.drop_length,H4]at hfi
 rw[hfi,if_neg (by simp)]at e0
 simp only[u5,oD,cT.ld,q1]
 refine(d7A (p:=fun t=>decide (t.length>65536)) (by omega) fun t ht=>a5l (cs:=[]) (by kernel_rfl) c8s).use fun d S' ⟨g1,g2⟩=> ?_
 subst g1 g2
 rw[cdB]
 refine⟨fun h=>fin hT (by rw[e0,if_pos h]),fun h=> ?_⟩
 rw[if_neg (by rw[h];simp)]at e0
 simp only[u5,oD,cT.ld,q2,I9]
 refine b3r (I:=fun n x1 x52 x53 x54 T=>x1= .ptr k 0∧x52=b1r m.funcs∧x53= .int .i64 (m.funcs.length:Int)∧S.le T∧w9 T k 3 (F8 m)∧∃i:Nat,x54= .int .i64 (i:Int)∧i+n=m.funcs.length∧H4 (a1l m) m.funcs=H4 (a1l m) (m.funcs.drop i)) ?_ (n:=m.funcs.length)
  ⟨rfl,rfl,rfl,hT,cT,0,rfl,by omega,rfl⟩
 rintro n _ _ _ _ T ⟨rfl,rfl,rfl,hT,cT,i,rfl,hi,hfi⟩
 unfold a2k
 rw[A5,oD,B3]
 refine⟨fun hlt=> ?_,fun hge=> ?_⟩
 ·have hlt:i<m.funcs.length:=by omega
  obtain⟨t,ht⟩:∃t,t=m.funcs[i]:=⟨_,rfl⟩
  have et:m.funcs[i]? =some t:=by rw[List.getElem?_eq_getElem hlt,ht]
  have htm:t∈m.funcs:=by rw[ht];exact List.getElem_mem _
  have htok:=hmo.ro t htm
  obtain⟨b1,b2,b3⟩:=hm.params t htm
  rw[b0L hlt, ←ht]at hfi
  rw[a1k et,oD,d0n,oD]
  intro k2 a2 n2
  refine(w9.new (sz:=6) (c:=[(.str []), .nilSlc, .nilSlc,(.int .i64 0),(.int .i64 0), .nilSlc])).st (ds:=F9 t) (J5 _) ⟨rfl,by decide,by decide⟩ fun a2=> ?_
  rw[b9.set_set,show o0 [(D.str []), .nilSlc, .nilSlc,(.int .i64 0),(.int .i64 0), .nilSlc] 0 (F9 t)=F9 t from rfl]
  have c6:w9 (T.set k2 ⟨6,[F9 t],a2⟩) k2 6 (F9 t):=w9.new
  have hT2:S.le (T.set k2 ⟨6,[F9 t],a2⟩):=b9.le_set hT (b9.none_of hT n2)
  have cT2:=cT.set (o:=⟨6,[F9 t],a2⟩) n2
  generalize T.set k2 ⟨6,[F9 t],a2⟩=T2 at*
  have p0:(F9 t)[0]? =some (.str t.name):=rfl
  have p1:(F9 t)[1]? =some (iD t.params):=rfl
  have p2:(F9 t)[2]? =some (iD t.results):=rfl
  have p3:(F9 t)[3]? =some (.int .i64 t.locals):=rfl
  have p4:(F9 t)[4]? =some (.int .i64 t.stack):=rfl
  have p5:(F9 t)[5]? =some (bD t.code):=rfl
  have hend:∀b:Bool,O8 t=b→D3 E w0 false (fun x1 x52 x53 x54 S_1=>∃m_1,m_1<n∧x1= .ptr k 0∧x52=b1r m.funcs∧x53= .int .i64 (m.funcs.length:Int)∧S.le S_1∧w9 S_1 k 3 (F8 m)∧∃i:Nat,x54= .int .i64 (i:Int)∧i+m_1=m.funcs.length∧H4 (a1l m) m.funcs=H4 (a1l m) (m.funcs.drop i))
    (i9 E fun d' S'=>d'= .int .i64 (F4 m)∧S'=S) (.ptr k 0) (.ptr k2 0) (b1r m.funcs) (.int .i64 (m.funcs.length:Int)) (.int .i64 (i:Int)) (.bool b) T2:=fun b hb=>by
   refine b2f ?_
   unfold a5R
   cases b with
   |true=>
    rw[cdT]
    have:a1l m t=3:=by unfold a1l;rw[if_pos hb]
    rw[this,if_neg (by decide)]at hfi
    exact fin hT2 (by rw[e0,hfi])
   |false=>
    rw[cdF,cT2.all (n:=3) (by decide) rfl,oD,c6.all (n:=6) (by decide) rfl,oD]
    refine(show o9 Tryz.prog E w0 false a2E [Z0 m, .agg (F9 t)] T2 _ from(c3u hm htok b3).use ?_)
    rw[unN,oD,cdB]
    refine⟨fun h=> ?_,fun h=> ?_⟩
    ·have h:Q6 m t=false:=by simpa using h
     have:a1l m t=130:=by unfold a1l;rw[if_neg (by rw[hb];simp),if_neg (by rw[h];simp)]
     rw[this,if_neg (by decide)]at hfi
     exact fin hT2 (by rw[e0,hfi])
    ·have h:Q6 m t=true:=by simpa using h
     have:a1l m t=0:=by unfold a1l;rw[if_neg (by rw[hb];simp),if_pos h]
     rw[this,if_pos rfl]at hfi
     rw[s8,oD,j8 (by omega) (by omega)]
     exact⟨n - 1,by omega,rfl,rfl,rfl,hT2,cT2,i+1,rfl,by omega,hfi⟩
  simp only[u5,oD,Nat.zero_add,c6.ld,p1,M5,g32]
  by_cases d1:t.params.length>32
  ·rw[decide_eq_true d1,cdT]
   exact hend true (by unfold O8;rw[decide_eq_true d1];simp)
  rw[decide_eq_false d1,cdF]
  simp only[p2,M5,oD,g8]
  by_cases d2:t.results.length>8
  ·rw[decide_eq_true d2,cdT]
   exact hend true (by unfold O8;rw[decide_eq_true d2];simp)
  rw[decide_eq_false d2,cdF]
  simp only[p3,oD,a4I]
  by_cases d3:t.locals>256
  ·rw[decide_eq_true d3,cdT]
   exact hend true (by unfold O8;rw[decide_eq_true d3];simp)
  rw[decide_eq_false d3,cdF]
  simp only[p4,oD,a4I]
  by_cases d4:t.stack>4096
  ·rw[decide_eq_true d4,cdT]
   exact hend true (by unfold O8;rw[decide_eq_true d4];simp)
  rw[decide_eq_false d4,cdF]
  simp only[p5,I8,oD,g65536]
  by_cases d5:t.code.length>65536
  ·rw[decide_eq_true d5,cdT]
   exact hend true (by unfold O8;rw[decide_eq_true d5];simp)
  rw[decide_eq_false d5,cdF]
  simp only[p0,lnS,oD,g65536]
  exact hend _ (by unfold O8;rw[decide_eq_false d1,decide_eq_false d2,decide_eq_false d3,decide_eq_false d4,decide_eq_false d5];rfl)
 ·have hi:i=m.funcs.length:=by omega
  subst hi
  rw[List.drop_length,H4]at hfi
  exact fin hT (by rw[e0,hfi])
end
end
end Go.Proofs.YtchnpgddpaonhaaGreat.d
end
section
open Go.Proofs Go Go.Am
namespace Go.Proofs.YtchnpgddpaonhaaGreat.d
variable{E:j6}{w0:World}{x:Bool}{Q:D→b9→Prop}
def b6o:List (Nat×List Nat):=[(4,[0,3])]
def b6g:List (Nat×List Nat):=[]
noncomputable def b4a:Code:=(j4 [1,1,0,0,0] (Tryz.f87.body.getD .skip))
def b3h(E:j6)(w0:World)(x:Bool)(Q:D→b9→Prop):o6→List D→b9→Prop:=
 (o8 0 (w6 Tryz.prog E w0 x b6o b6g (j4 [1,1,1] (Tryz.f87.body.getD .skip)) (z7 Tryz.prog Tryz.f87 Q)))
def b2V(E:j6)(w0:World)(x:Bool)(N0:D→D→b9→Prop)(Q:D→b9→Prop)(x0 x3:D)(S:b9):Prop:=
 b7 (i6 .geq x0 (.int .u64 128)) fun v2=>
 j1 v2
 (b7 (E7 .u8 x0) fun v3=>
 b7 (i6 .or v3 (.int .u8 128)) fun v4=>
 q7 S 1 (m9 1 (List.replicate 1 [(.int .u8 0)]) [(0,v4)]) 1 fun v5 S6=>
 r6 S6 1 1 x3 v5 fun v7 S8=>
 b7 (i6 .shr x0 (.int .u64 7)) fun v9=>
 N0 v9 v7 S8)
 (b7 (E7 .u8 x0) fun v10=>
 q7 S 1 (m9 1 (List.replicate 1 [(.int .u8 0)]) [(0,v10)]) 1 fun v11 S12=>
 r6 S12 1 1 x3 v11 fun v13 S14=>
 Q v13 S14)
theorem c6v{N0:D→D→b9→Prop}{Q:D→b9→Prop}{x0 x3:D}{S:b9}(h:b2V E w0 x N0 Q x0 x3 S):
  j0 Tryz.prog E w0 x b4a (j9 20 [0,3] [x0,x3]) S (q8 (fun T S=>N0 (T.getD 0 d9) (T.getD 3 d9) S) (b3h E w0 x Q)):=j3 b6o b6g m7 (by kernel_rfl) h
theorem c5J(I:Nat→D→D→b9→Prop)
  (step:∀n x0 x3 S,I n x0 x3 S→b2V E w0 x (fun x0 x3 S=>∃m,m<n∧I m x0 x3 S) Q x0 x3 S)
  {n:Nat} {x0 x3:D} {S:b9} (h:I n x0 x3 S):j0 Tryz.prog E w0 x (.loop b4a) (j9 20 [0,3] [x0,x3]) S (b3h E w0 x Q):=
 o3 (k:=20) (n:=n) (I:=fun n T S=>I n (T.getD 0 d9) (T.getD 3 d9) S) (fun n T S hl hI=>o5 [0,3] hl (j0.mono (c6v (step n _ _ S hI)) fun ex T' S' _ hq=>by cases ex<;>exact hq)) (l8 ..) (Eq.mp (by kernel_rfl) h)
def c7x(E:j6)(w0:World)(x:Bool)(Q:D→b9→Prop)(a0:D)(S:b9):Prop:=
 b8O S 1 1 [(.int .u8 0)] (.int .i64 0) (.int .i64 10) fun v0 S1=>
 j0 Tryz.prog E w0 x (.loop b4a) (j9 20 [0,3] [a0,v0]) S1 (b3h E w0 x Q)
theorem d0B{a0:D}{S:b9}(h:c7x E w0 x (i9 E Q) a0 S):o9 Tryz.prog E w0 x b8S [a0] S Q:=
 l7 b6o b6g (fn:=Tryz.f87) (c:=Tryz.f87.body.getD .skip) m7 Tryz.func87 (by kernel_rfl) (by kernel_rfl) h
def a3x:List (Nat×List Nat):=[(6,[3,6,7,8]),(14,[3,6,7,8,16])]
def a3v:List (Nat×List Nat):=[]
noncomputable def b2E:Code:=(j4 [1,1,0,1,0,0,1,1,0,0,1,1,1,0,0] (Tryz.f27.body.getD .skip))
def b3f(E:j6)(w0:World)(x:Bool)(N0:D→D→D→D→b9→Prop)(Q:D→b9→Prop):o6→List D→b9→Prop:=
 (o8 2 (o8 1 (w6 Tryz.prog E w0 x a3x a3v (j4 [1,1,0,1,0,0,1,1,1] (Tryz.f27.body.getD .skip)) (q8 (fun T S=>N0 (T.getD 3 d9) (T.getD 6 d9) (T.getD 7 d9) (T.getD 8 d9) S) (o8 0 (w6 Tryz.prog E w0 x a3x a3v (j4 [1,1,1] (Tryz.f27.body.getD .skip)) (z7 Tryz.prog Tryz.f27 Q)))))))
def b3v(E:j6)(w0:World)(x:Bool)(N0:D→D→D→D→b9→Prop)(N1:D→D→D→D→D→b9→Prop)(Q:D→b9→Prop)(x3 x6 x7 x8 x16:D)(S:b9):Prop:=
 b7 (i6 .lss x16 (.int .i64 8)) fun v6=>
 j1 v6
 (b7 (i6 .shr x3 (.int .u64 1)) fun v7=>
 b7 (i6 .and x3 (.int .u32 1)) fun v8=>
 b7 (unD .neg v8) fun v9=>
 b7 (i6 .and (.int .u32 3988292384) v9) fun v10=>
 b7 (i6 .xor v7 v10) fun v11=>
 b7 (i6 .add x16 (.int .i64 1)) fun v12=>
 N1 v11 x6 x7 x8 v12 S)
 (b7 (i6 .add x8 (.int .i64 1)) fun v13=>
 N0 x3 x6 x7 v13 S)
theorem c5Z{N0:D→D→D→D→b9→Prop}{N1:D→D→D→D→D→b9→Prop}{Q:D→b9→Prop}{x3 x6 x7 x8 x16:D}{S:b9}(h:b3v E w0 x N0 N1 Q x3 x6 x7 x8 x16 S):
  j0 Tryz.prog E w0 x b2E (j9 29 [3,6,7,8,16] [x3,x6,x7,x8,x16]) S (q8 (fun T S=>N1 (T.getD 3 d9) (T.getD 6 d9) (T.getD 7 d9) (T.getD 8 d9) (T.getD 16 d9) S) (b3f E w0 x N0 Q)):=j3 a3x a3v m7 (by kernel_rfl) h
theorem c5v{N0:D→D→D→D→b9→Prop}{Q:D→b9→Prop}(I:Nat→D→D→D→D→D→b9→Prop)
  (step:∀n x3 x6 x7 x8 x16 S,I n x3 x6 x7 x8 x16 S→b3v E w0 x N0 (fun x3 x6 x7 x8 x16 S=>∃m,m<n∧I m x3 x6 x7 x8 x16 S) Q x3 x6 x7 x8 x16 S)
  {n:Nat} {x3 x6 x7 x8 x16:D} {S:b9} (h:I n x3 x6 x7 x8 x16 S):j0 Tryz.prog E w0 x (.loop b2E) (j9 29 [3,6,7,8,16] [x3,x6,x7,x8,x16]) S (b3f E w0 x N0 Q):=
 o3 (k:=29) (n:=n) (I:=fun n T S=>I n (T.getD 3 d9) (T.getD 6 d9) (T.getD 7 d9) (T.getD 8 d9) (T.getD 16 d9) S) (fun n T S hl hI=>o5 [3,6,7,8,16] hl (j0.mono (c5Z (step n _ _ _ _ _ S hI)) fun ex T' S' _ hq=>by cases ex<;>exact hq)) (l8 ..) (Eq.mp (by kernel_rfl) h)
noncomputable def b3N:Code:=(j4 [1,1,0,1,0,0] (Tryz.f27.body.getD .skip))
def b3U(E:j6)(w0:World)(x:Bool)(Q:D→b9→Prop):o6→List D→b9→Prop:=
 (o8 0 (w6 Tryz.prog E w0 x a3x a3v (j4 [1,1,1] (Tryz.f27.body.getD .skip)) (z7 Tryz.prog Tryz.f27 Q)))
def b3u(E:j6)(w0:World)(x:Bool)(N0:D→D→D→D→b9→Prop)(Q:D→b9→Prop)(x3 x6 x7 x8:D)(S:b9):Prop:=
 b7 (i6 .lss x8 x7) fun v1=>
 j1 v1
 (b7 (p6 1 x6 x8) fun v2=>
 b7 (b8 S v2) fun v3=>
 b7 (E7 .u32 v3) fun v4=>
 b7 (i6 .xor x3 v4) fun v5=>
 j0 Tryz.prog E w0 x (.loop b2E) (j9 29 [3,6,7,8,16] [v5,x6,x7,x8,(.int .i64 0)]) S (b3f E w0 x N0 Q))
 (b7 (unD .xor x3) fun v14=>
 Q v14 S)
theorem c6b{N0:D→D→D→D→b9→Prop}{Q:D→b9→Prop}{x3 x6 x7 x8:D}{S:b9}(h:b3u E w0 x N0 Q x3 x6 x7 x8 S):
  j0 Tryz.prog E w0 x b3N (j9 29 [3,6,7,8] [x3,x6,x7,x8]) S (q8 (fun T S=>N0 (T.getD 3 d9) (T.getD 6 d9) (T.getD 7 d9) (T.getD 8 d9) S) (b3U E w0 x Q)):=j3 a3x a3v m7 (by kernel_rfl) h
theorem c6F(I:Nat→D→D→D→D→b9→Prop)
  (step:∀n x3 x6 x7 x8 S,I n x3 x6 x7 x8 S→b3u E w0 x (fun x3 x6 x7 x8 S=>∃m,m<n∧I m x3 x6 x7 x8 S) Q x3 x6 x7 x8 S)
  {n:Nat} {x3 x6 x7 x8:D} {S:b9} (h:I n x3 x6 x7 x8 S):j0 Tryz.prog E w0 x (.loop b3N) (j9 29 [3,6,7,8] [x3,x6,x7,x8]) S (b3U E w0 x Q):=
 o3 (k:=29) (n:=n) (I:=fun n T S=>I n (T.getD 3 d9) (T.getD 6 d9) (T.getD 7 d9) (T.getD 8 d9) S) (fun n T S hl hI=>o5 [3,6,7,8] hl (j0.mono (c6b (step n _ _ _ _ S hI)) fun ex T' S' _ hq=>by cases ex<;>exact hq)) (l8 ..) (Eq.mp (by kernel_rfl) h)
def c6U(E:j6)(w0:World)(x:Bool)(Q:D→b9→Prop)(a0:D)(S:b9):Prop:=
 b7 (l9 a0) fun v0=>
 j0 Tryz.prog E w0 x (.loop b3N) (j9 29 [3,6,7,8] [(.int .u32 4294967295),a0,v0,(.int .i64 0)]) S (b3U E w0 x Q)
theorem d0c{a0:D}{S:b9}(h:c6U E w0 x (i9 E Q) a0 S):o9 Tryz.prog E w0 x b9o [a0] S Q:=
 l7 a3x a3v (fn:=Tryz.f27) (c:=Tryz.f27.body.getD .skip) m7 Tryz.func27 (by kernel_rfl) (by kernel_rfl) h
def a6P:List (Nat×List Nat):=[]
def a6Y:List (Nat×List Nat):=[(6,[0,1])]
noncomputable def b6C:Code:=(j4 [1,1] (Tryz.f53.body.getD .skip))
def b4V(E:j6)(w0:World)(x:Bool)(Q:D→b9→Prop):o6→List D→b9→Prop:=
 (z7 Tryz.prog Tryz.f53 Q)
def a5W(E:j6)(w0:World)(x:Bool)(Q:D→b9→Prop)(x0 x1:D)(S:b9):Prop:=
 b7 (d4j x0) fun v0=>
 b7 (l9 x0) fun v1=>
 b7 (i6 .sub v0 v1) fun v2=>
 b7 (i6 .sub x1 v2) fun v3=>
 b7 (i6 .gtr v3 (.int .i64 0)) fun v4=>
 j1 v4
 (b7 (d4j x0) fun v5=>
 b7 (J1 1 x0 none (some v5) none) fun v6=>
 b5v S 1 1 [(.int .u8 0)] v6 v3 fun v7 S8=>
 b7 (l9 x0) fun v9=>
 b7 (J1 1 v7 none (some v9) none) fun v10=>
 Q v10 S8)
 (Q x0 S)
def a5Y(E:j6)(w0:World)(x:Bool)(Q:D→b9→Prop)(x0 x1:D)(S:b9):Prop:=j0 Tryz.prog E w0 x b6C (j9 27 [0,1] [x0,x1]) S (b4V E w0 x Q)
theorem b2a{x0 x1:D}{S:b9}(h:a5W E w0 x Q x0 x1 S):a5Y E w0 x Q x0 x1 S:=j3 a6P a6Y m7 (by kernel_rfl) h
def a9L(E:j6)(w0:World)(x:Bool)(Q:D→b9→Prop)(a0 a1:D)(S:b9):Prop:=
 b7 (i6 .lss a1 (.int .i64 0)) fun v11=>
 j1 v11
 (b7 (some (D.ifc 9 (.str [99,97,110,110,111,116,32,98,101,32,110,101,103,97,116,105,118,101]))) fun v12=>
 False)
 (a5Y E w0 x Q a0 a1 S)
theorem b4P{a0 a1:D}{S:b9}(h:a9L E w0 x (i9 E Q) a0 a1 S):o9 Tryz.prog E w0 x a2X [a0,a1] S Q:=
 l7 a6P a6Y (fn:=Tryz.f53) (c:=Tryz.f53.body.getD .skip) m7 Tryz.func53 (by kernel_rfl) (by kernel_rfl) h
def L6:List (Nat×List Nat):=[(6,[0,3,9,10,11]),(22,[6,25,26,27])]
def L8:List (Nat×List Nat):=[]
noncomputable def a0B:Code:=(j4 [1,1,1,1,0,1,0,0] (Tryz.f25.body.getD .skip))
def a0n(E:j6)(w0:World)(x:Bool)(Q:D→b9→Prop):o6→List D→b9→Prop:=
 (o8 2 (w6 Tryz.prog E w0 x L6 L8 (j4 [1,1,1,1,1] (Tryz.f25.body.getD .skip)) (z7 Tryz.prog Tryz.f25 Q)))
def a0x(E:j6)(w0:World)(x:Bool)(N1:D→D→D→D→b9→Prop)(Q:D→b9→Prop)(x6 x25 x26 x27:D)(S:b9):Prop:=
 b7 (i6 .lss x27 x26) fun v15=>
 j1 v15
 (b7 (p6 1 x25 x27) fun v16=>
 b7 (b8 S v16) fun v17=>
 r6 S 1 1 x6 v17 fun v18 S19=>
 b7 (i6 .add x27 (.int .i64 1)) fun v20=>
 N1 v18 x25 x26 v20 S19)
 (Q x6 S)
theorem a9W{N1:D→D→D→D→b9→Prop}{Q:D→b9→Prop}{x6 x25 x26 x27:D}{S:b9}(h:a0x E w0 x N1 Q x6 x25 x26 x27 S):
  j0 Tryz.prog E w0 x a0B (j9 36 [6,25,26,27] [x6,x25,x26,x27]) S (q8 (fun T S=>N1 (T.getD 6 d9) (T.getD 25 d9) (T.getD 26 d9) (T.getD 27 d9) S) (a0n E w0 x Q)):=j3 L6 L8 m7 (by kernel_rfl) h
theorem b0f(I:Nat→D→D→D→D→b9→Prop)
  (step:∀n x6 x25 x26 x27 S,I n x6 x25 x26 x27 S→a0x E w0 x (fun x6 x25 x26 x27 S=>∃m,m<n∧I m x6 x25 x26 x27 S) Q x6 x25 x26 x27 S)
  {n:Nat} {x6 x25 x26 x27:D} {S:b9} (h:I n x6 x25 x26 x27 S):j0 Tryz.prog E w0 x (.loop a0B) (j9 36 [6,25,26,27] [x6,x25,x26,x27]) S (a0n E w0 x Q):=
 o3 (k:=36) (n:=n) (I:=fun n T S=>I n (T.getD 6 d9) (T.getD 25 d9) (T.getD 26 d9) (T.getD 27 d9) S) (fun n T S hl hI=>o5 [6,25,26,27] hl (j0.mono (a9W (step n _ _ _ _ S hI)) fun ex T' S' _ hq=>by cases ex<;>exact hq)) (l8 ..) (Eq.mp (by kernel_rfl) h)
noncomputable def a0z:Code:=(j4 [1,1,0,1,0,0] (Tryz.f25.body.getD .skip))
def a0A(E:j6)(w0:World)(x:Bool)(Q:D→b9→Prop):o6→List D→b9→Prop:=
 (o8 0 (w6 Tryz.prog E w0 x L6 L8 (j4 [1,1,1] (Tryz.f25.body.getD .skip)) (z7 Tryz.prog Tryz.f25 Q)))
def a0p(E:j6)(w0:World)(x:Bool)(N0:D→D→D→D→D→b9→Prop)(Q:D→b9→Prop)(x0 x3 x9 x10 x11:D)(S:b9):Prop:=
 b7 (i6 .lss x11 x10) fun v1=>
 j1 v1
 (b7 (p6 1 x9 x11) fun v2=>
 b7 (b8 S v2) fun v3=>
 b7 (l9 v3) fun v4=>
 b7 (i6 .add x3 v4) fun v5=>
 b7 (i6 .lss v5 (.int .i64 0)) fun v6=>
 j1 v6
 (b7 (some (D.ifc 9 (.str [108,101,110,32,111,117,116,32,111,102,32,114,97,110,103,101]))) fun v7=>
 False)
 (b7 (i6 .add x11 (.int .i64 1)) fun v11=>
 N0 x0 v5 x9 x10 v11 S))
 (o9 Tryz.prog E w0 x a2X [.nilSlc,x3] S fun v12 S13=>
 b7 (l9 x0) fun v14=>
 j0 Tryz.prog E w0 x (.loop a0B) (j9 36 [6,25,26,27] [v12,x0,v14,(.int .i64 0)]) S13 (a0n E w0 x Q))
theorem a9V{N0:D→D→D→D→D→b9→Prop}{Q:D→b9→Prop}{x0 x3 x9 x10 x11:D}{S:b9}(h:a0p E w0 x N0 Q x0 x3 x9 x10 x11 S):
  j0 Tryz.prog E w0 x a0z (j9 36 [0,3,9,10,11] [x0,x3,x9,x10,x11]) S (q8 (fun T S=>N0 (T.getD 0 d9) (T.getD 3 d9) (T.getD 9 d9) (T.getD 10 d9) (T.getD 11 d9) S) (a0A E w0 x Q)):=j3 L6 L8 m7 (by kernel_rfl) h
theorem b0b(I:Nat→D→D→D→D→D→b9→Prop)
  (step:∀n x0 x3 x9 x10 x11 S,I n x0 x3 x9 x10 x11 S→a0p E w0 x (fun x0 x3 x9 x10 x11 S=>∃m,m<n∧I m x0 x3 x9 x10 x11 S) Q x0 x3 x9 x10 x11 S)
  {n:Nat} {x0 x3 x9 x10 x11:D} {S:b9} (h:I n x0 x3 x9 x10 x11 S):j0 Tryz.prog E w0 x (.loop a0z) (j9 36 [0,3,9,10,11] [x0,x3,x9,x10,x11]) S (a0A E w0 x Q):=
 o3 (k:=36) (n:=n) (I:=fun n T S=>I n (T.getD 0 d9) (T.getD 3 d9) (T.getD 9 d9) (T.getD 10 d9) (T.getD 11 d9) S) (fun n T S hl hI=>o5 [0,3,9,10,11] hl (j0.mono (a9V (step n _ _ _ _ _ S hI)) fun ex T' S' _ hq=>by cases ex<;>exact hq)) (l8 ..) (Eq.mp (by kernel_rfl) h)
def a6b(E:j6)(w0:World)(x:Bool)(Q:D→b9→Prop)(a0:D)(S:b9):Prop:=
 b7 (l9 a0) fun v0=>
 j0 Tryz.prog E w0 x (.loop a0z) (j9 36 [0,3,9,10,11] [a0,(.int .i64 0),a0,v0,(.int .i64 0)]) S (a0A E w0 x Q)
theorem b2x{a0:D}{S:b9}(h:a6b E w0 x (i9 E Q) a0 S):o9 Tryz.prog E w0 x N9 [a0] S Q:=
 l7 L6 L8 (fn:=Tryz.f25) (c:=Tryz.f25.body.getD .skip) m7 Tryz.func25 (by kernel_rfl) (by kernel_rfl) h
def a7a:List (Nat×List Nat):=[]
def a7b:List (Nat×List Nat):=[(4,[0,1])]
noncomputable def b5n:Code:=(j4 [1] (Tryz.f50.body.getD .skip))
def b5i(E:j6)(w0:World)(x:Bool)(Q:D→b9→Prop):o6→List D→b9→Prop:=
 (z7 Tryz.prog Tryz.f50 Q)
def a6c(E:j6)(w0:World)(x:Bool)(Q:D→b9→Prop)(x0 x1:D)(S:b9):Prop:=
 b7 (a1v x0) fun v0=>
 b7 (i5 0 v0) fun v1=>
 b7 (b8 S v1) fun v2=>
 r6 S 1 1 v2 x1 fun v3 S4=>
 b7 (a1v x0) fun v5=>
 b7 (i5 0 v5) fun v6=>
 j7 S4 1 v6 v3 fun v7 S8=>
 Q d9 S8
def W6(E:j6)(w0:World)(x:Bool)(Q:D→b9→Prop)(x0 x1:D)(S:b9):Prop:=j0 Tryz.prog E w0 x b5n (j9 29 [0,1] [x0,x1]) S (b5i E w0 x Q)
theorem b2w{x0 x1:D}{S:b9}(h:a6c E w0 x Q x0 x1 S):W6 E w0 x Q x0 x1 S:=j3 a7a a7b m7 (by kernel_rfl) h
def a8L(E:j6)(w0:World)(x:Bool)(Q:D→b9→Prop)(a0 a1:D)(S:b9):Prop:=
 b7 (l9 a1) fun v9=>
 b7 (a1v a0) fun v10=>
 b7 (i5 0 v10) fun v11=>
 b7 (b8 S v11) fun v12=>
 b7 (l9 v12) fun v13=>
 b7 (i6 .sub (.int .i64 2097153) v13) fun v14=>
 b7 (i6 .gtr v9 v14) fun v15=>
 j1 v15
 (b7 (a1v a0) fun v16=>
 b7 (i5 0 v16) fun v17=>
 b7 (b8 S v17) fun v18=>
 b7 (l9 v18) fun v19=>
 b7 (i6 .sub (.int .i64 2097153) v19) fun v20=>
 b8O S 1 1 [(.int .u8 0)] v20 v20 fun v21 S22=>
 W6 E w0 x Q a0 v21 S22)
 (W6 E w0 x Q a0 a1 S)
theorem b5a{a0 a1:D}{S:b9}(h:a8L E w0 x (i9 E Q) a0 a1 S):o9 Tryz.prog E w0 x M6 [a0,a1] S Q:=
 l7 a7a a7b (fn:=Tryz.f50) (c:=Tryz.f50.body.getD .skip) m7 Tryz.func50 (by kernel_rfl) (by kernel_rfl) h
def b3O:List (Nat×List Nat):=[]
def b2L:List (Nat×List Nat):=[]
def a4M(E:j6)(w0:World)(x:Bool)(Q:D→b9→Prop)(a0 a1:D)(S:b9):Prop:=
 b7 (E7 .u64 a1) fun v0=>
 o9 Tryz.prog E w0 x b8S [v0] S fun v1 S2=>
 o9 Tryz.prog E w0 x M6 [a0,v1] S2 fun v3 S4=>
 Q d9 S4
theorem b0Y{a0 a1:D}{S:b9}(h:a4M E w0 x (i9 E Q) a0 a1 S):o9 Tryz.prog E w0 x s6 [a0,a1] S Q:=
 l7 b3O b2L (fn:=Tryz.f49) (c:=Tryz.f49.body.getD .skip) m7 Tryz.func49 (by kernel_rfl) (by kernel_rfl) h
def a5Z:List (Nat×List Nat):=[]
def a6d:List (Nat×List Nat):=[(6,[0,1])]
noncomputable def b5b:Code:=(j4 [1,1] (Tryz.f51.body.getD .skip))
def b2z(E:j6)(w0:World)(x:Bool)(Q:D→b9→Prop):o6→List D→b9→Prop:=
 (z7 Tryz.prog Tryz.f51 Q)
def a4Q(E:j6)(w0:World)(x:Bool)(Q:D→b9→Prop)(x0 x1:D)(S:b9):Prop:=
 c8Y S x1 fun v3 S4=>
 o9 Tryz.prog E w0 x M6 [x0,v3] S4 fun v5 S6=>
 Q d9 S6
def a0V(E:j6)(w0:World)(x:Bool)(Q:D→b9→Prop)(x0 x1:D)(S:b9):Prop:=j0 Tryz.prog E w0 x b5b (j9 17 [0,1] [x0,x1]) S (b2z E w0 x Q)
theorem b1g{x0 x1:D}{S:b9}(h:a4Q E w0 x Q x0 x1 S):a0V E w0 x Q x0 x1 S:=j3 a5Z a6d m7 (by kernel_rfl) h
def a6R(E:j6)(w0:World)(x:Bool)(Q:D→b9→Prop)(a0 a1:D)(S:b9):Prop:=
 b7 (J3 a1) fun v0=>
 o9 Tryz.prog E w0 x s6 [a0,v0] S fun v1 S2=>
 b7 (J3 a1) fun v7=>
 b7 (i6 .gtr v7 (.int .i64 2097152)) fun v8=>
 j1 v8
 (b7 (c8o a1 none (some (.int .i64 2097152))) fun v9=>
 a0V E w0 x Q a0 v9 S2)
 (a0V E w0 x Q a0 a1 S2)
theorem b3V{a0 a1:D}{S:b9}(h:a6R E w0 x (i9 E Q) a0 a1 S):o9 Tryz.prog E w0 x H5 [a0,a1] S Q:=
 l7 a5Z a6d (fn:=Tryz.f51) (c:=Tryz.f51.body.getD .skip) m7 Tryz.func51 (by kernel_rfl) (by kernel_rfl) h
def a3C:List (Nat×List Nat):=[(4,[0,10,11,12])]
def a3z:List (Nat×List Nat):=[]
noncomputable def X5:Code:=(j4 [1,1,0,0] (Tryz.f52.body.getD .skip))
def X4(E:j6)(w0:World)(x:Bool)(Q:D→b9→Prop):o6→List D→b9→Prop:=
 (o8 0 (z7 Tryz.prog Tryz.f52 Q))
def Y0(E:j6)(w0:World)(x:Bool)(N0:D→D→D→D→b9→Prop)(Q:D→b9→Prop)(x0 x10 x11 x12:D)(S:b9):Prop:=
 b7 (i6 .lss x12 x11) fun v4=>
 j1 v4
 (b7 (p6 1 x10 x12) fun v5=>
 b7 (b8 S v5) fun v6=>
 o9 Tryz.prog E w0 x s6 [x0,v6] S fun v7 S8=>
 b7 (i6 .add x12 (.int .i64 1)) fun v9=>
 N0 x0 x10 x11 v9 S8)
 (Q d9 S)
theorem a7o{N0:D→D→D→D→b9→Prop}{Q:D→b9→Prop}{x0 x10 x11 x12:D}{S:b9}(h:Y0 E w0 x N0 Q x0 x10 x11 x12 S):
  j0 Tryz.prog E w0 x X5 (j9 20 [0,10,11,12] [x0,x10,x11,x12]) S (q8 (fun T S=>N0 (T.getD 0 d9) (T.getD 10 d9) (T.getD 11 d9) (T.getD 12 d9) S) (X4 E w0 x Q)):=j3 a3C a3z m7 (by kernel_rfl) h
theorem a7y(I:Nat→D→D→D→D→b9→Prop)
  (step:∀n x0 x10 x11 x12 S,I n x0 x10 x11 x12 S→Y0 E w0 x (fun x0 x10 x11 x12 S=>∃m,m<n∧I m x0 x10 x11 x12 S) Q x0 x10 x11 x12 S)
  {n:Nat} {x0 x10 x11 x12:D} {S:b9} (h:I n x0 x10 x11 x12 S):j0 Tryz.prog E w0 x (.loop X5) (j9 20 [0,10,11,12] [x0,x10,x11,x12]) S (X4 E w0 x Q):=
 o3 (k:=20) (n:=n) (I:=fun n T S=>I n (T.getD 0 d9) (T.getD 10 d9) (T.getD 11 d9) (T.getD 12 d9) S) (fun n T S hl hI=>o5 [0,10,11,12] hl (j0.mono (a7o (step n _ _ _ _ S hI)) fun ex T' S' _ hq=>by cases ex<;>exact hq)) (l8 ..) (Eq.mp (by kernel_rfl) h)
def a4m(E:j6)(w0:World)(x:Bool)(Q:D→b9→Prop)(a0 a1:D)(S:b9):Prop:=
 b7 (l9 a1) fun v0=>
 o9 Tryz.prog E w0 x s6 [a0,v0] S fun v1 S2=>
 b7 (l9 a1) fun v3=>
 j0 Tryz.prog E w0 x (.loop X5) (j9 20 [0,10,11,12] [a0,a1,v3,(.int .i64 0)]) S2 (X4 E w0 x Q)
theorem a9Z{a0 a1:D}{S:b9}(h:a4m E w0 x (i9 E Q) a0 a1 S):o9 Tryz.prog E w0 x Q7 [a0,a1] S Q:=
 l7 a3C a3z (fn:=Tryz.f52) (c:=Tryz.f52.body.getD .skip) m7 Tryz.func52 (by kernel_rfl) (by kernel_rfl) h
def G8:List (Nat×List Nat):=[(8,[1,3,19,20,21]),(22,[1,3,19,20,21,43,44,45]),(44,[1,3,76,77,78]),(56,[3,92,93,94])]
def G7:List (Nat×List Nat):=[]
noncomputable def a9E:Code:=(j4 [1,1,1,0,1,0,0,1,1,0,0,1,1,0,1,0,1,1,0,1,0,0] (Tryz.f24.body.getD .skip))
def a8I(E:j6)(w0:World)(x:Bool)(N0:D→D→D→D→D→b9→Prop)(Q:D→b9→Prop):o6→List D→b9→Prop:=
 (o8 2 (w6 Tryz.prog E w0 x G8 G7 (j4 [1,1,1,0,1,0,0,1,1,0,0,1,1,0,1,0,1,1,1] (Tryz.f24.body.getD .skip)) (w6 Tryz.prog E w0 x G8 G7 (j4 [1,1,1,0,1,0,0,1,1,0,0,1,1,1] (Tryz.f24.body.getD .skip)) (o8 1 (w6 Tryz.prog E w0 x G8 G7 (j4 [1,1,1,0,1,0,0,1,1,1] (Tryz.f24.body.getD .skip)) (q8 (fun T S=>N0 (T.getD 1 d9) (T.getD 3 d9) (T.getD 19 d9) (T.getD 20 d9) (T.getD 21 d9) S) (o8 0 (w6 Tryz.prog E w0 x G8 G7 (j4 [1,1,1,1] (Tryz.f24.body.getD .skip)) (z7 Tryz.prog Tryz.f24 Q)))))))))
def a9e(E:j6)(w0:World)(x:Bool)(N0:D→D→D→D→D→b9→Prop)(N1:D→D→D→D→D→D→D→D→b9→Prop)(Q:D→b9→Prop)(x1 x3 x19 x20 x21 x43 x44 x45:D)(S:b9):Prop:=
 b7 (i6 .lss x45 x44) fun v40=>
 j1 v40
 (b7 (p6 2 x43 x45) fun v41=>
 b7 (j2 S 2 v41) fun v42=>
 m8 S [(.str []),(.int .i64 0)] fun v43 S44=>
 j7 S44 2 v43 v42 fun v45 S46=>
 b7 (i5 0 v43) fun v47=>
 b7 (b8 S46 v47) fun v48=>
 o9 Tryz.prog E w0 x H5 [x3,v48] S46 fun v49 S50=>
 b7 (i5 1 v43) fun v51=>
 b7 (b8 S50 v51) fun v52=>
 o9 Tryz.prog E w0 x s6 [x3,v52] S50 fun v53 S54=>
 b7 (i6 .add x45 (.int .i64 1)) fun v55=>
 N1 x1 x3 x19 x20 x21 x43 x44 v55 S54)
 (b7 (i6 .add x21 (.int .i64 1)) fun v56=>
 N0 x1 x3 x19 x20 v56 S)
theorem c1U{N0:D→D→D→D→D→b9→Prop}{N1:D→D→D→D→D→D→D→D→b9→Prop}{Q:D→b9→Prop}{x1 x3 x19 x20 x21 x43 x44 x45:D}{S:b9}(h:a9e E w0 x N0 N1 Q x1 x3 x19 x20 x21 x43 x44 x45 S):
  j0 Tryz.prog E w0 x a9E (j9 128 [1,3,19,20,21,43,44,45] [x1,x3,x19,x20,x21,x43,x44,x45]) S (q8 (fun T S=>N1 (T.getD 1 d9) (T.getD 3 d9) (T.getD 19 d9) (T.getD 20 d9) (T.getD 21 d9) (T.getD 43 d9) (T.getD 44 d9) (T.getD 45 d9) S) (a8I E w0 x N0 Q)):=j3 G8 G7 m7 (by kernel_rfl) h
theorem c2j{N0:D→D→D→D→D→b9→Prop}{Q:D→b9→Prop}(I:Nat→D→D→D→D→D→D→D→D→b9→Prop)
  (step:∀n x1 x3 x19 x20 x21 x43 x44 x45 S,I n x1 x3 x19 x20 x21 x43 x44 x45 S→a9e E w0 x N0 (fun x1 x3 x19 x20 x21 x43 x44 x45 S=>∃m,m<n∧I m x1 x3 x19 x20 x21 x43 x44 x45 S) Q x1 x3 x19 x20 x21 x43 x44 x45 S)
  {n:Nat} {x1 x3 x19 x20 x21 x43 x44 x45:D} {S:b9} (h:I n x1 x3 x19 x20 x21 x43 x44 x45 S):j0 Tryz.prog E w0 x (.loop a9E) (j9 128 [1,3,19,20,21,43,44,45] [x1,x3,x19,x20,x21,x43,x44,x45]) S (a8I E w0 x N0 Q):=
 o3 (k:=128) (n:=n) (I:=fun n T S=>I n (T.getD 1 d9) (T.getD 3 d9) (T.getD 19 d9) (T.getD 20 d9) (T.getD 21 d9) (T.getD 43 d9) (T.getD 44 d9) (T.getD 45 d9) S) (fun n T S hl hI=>o5 [1,3,19,20,21,43,44,45] hl (j0.mono (c1U (step n _ _ _ _ _ _ _ _ S hI)) fun ex T' S' _ hq=>by cases ex<;>exact hq)) (l8 ..) (Eq.mp (by kernel_rfl) h)
noncomputable def a7S:Code:=(j4 [1,1,1,1,1,1,1,0,1,0,0] (Tryz.f24.body.getD .skip))
def a9c(E:j6)(w0:World)(x:Bool)(Q:D→b9→Prop):o6→List D→b9→Prop:=
 (o8 6 (w6 Tryz.prog E w0 x G8 G7 (j4 [1,1,1,1,1,1,1,1] (Tryz.f24.body.getD .skip)) (z7 Tryz.prog Tryz.f24 Q)))
def a7V(E:j6)(w0:World)(x:Bool)(N3:D→D→D→D→b9→Prop)(Q:D→b9→Prop)(x3 x92 x93 x94:D)(S:b9):Prop:=
 b7 (i6 .lss x94 x93) fun v92=>
 j1 v92
 (b7 (p6 6 x92 x94) fun v93=>
 b7 (j2 S 6 v93) fun v94=>
 m8 S [(.str []), .nilSlc, .nilSlc,(.int .i64 0),(.int .i64 0), .nilSlc] fun v95 S96=>
 j7 S96 6 v95 v94 fun v97 S98=>
 b7 (i5 0 v95) fun v99=>
 b7 (b8 S98 v99) fun v100=>
 o9 Tryz.prog E w0 x H5 [x3,v100] S98 fun v101 S102=>
 b7 (i5 1 v95) fun v103=>
 b7 (b8 S102 v103) fun v104=>
 o9 Tryz.prog E w0 x Q7 [x3,v104] S102 fun v105 S106=>
 b7 (i5 2 v95) fun v107=>
 b7 (b8 S106 v107) fun v108=>
 o9 Tryz.prog E w0 x Q7 [x3,v108] S106 fun v109 S110=>
 b7 (i5 3 v95) fun v111=>
 b7 (b8 S110 v111) fun v112=>
 o9 Tryz.prog E w0 x s6 [x3,v112] S110 fun v113 S114=>
 b7 (i5 4 v95) fun v115=>
 b7 (b8 S114 v115) fun v116=>
 o9 Tryz.prog E w0 x s6 [x3,v116] S114 fun v117 S118=>
 b7 (i5 5 v95) fun v119=>
 b7 (b8 S118 v119) fun v120=>
 b7 (P6 S118 v120) fun v121=>
 o9 Tryz.prog E w0 x H5 [x3,v121] S118 fun v122 S123=>
 b7 (i6 .add x94 (.int .i64 1)) fun v124=>
 N3 x3 x92 x93 v124 S123)
 (b7 (a1v x3) fun v125=>
 b7 (i5 0 v125) fun v126=>
 b7 (b8 S v126) fun v127=>
 Q v127 S)
theorem c2I{N3:D→D→D→D→b9→Prop}{Q:D→b9→Prop}{x3 x92 x93 x94:D}{S:b9}(h:a7V E w0 x N3 Q x3 x92 x93 x94 S):
  j0 Tryz.prog E w0 x a7S (j9 128 [3,92,93,94] [x3,x92,x93,x94]) S (q8 (fun T S=>N3 (T.getD 3 d9) (T.getD 92 d9) (T.getD 93 d9) (T.getD 94 d9) S) (a9c E w0 x Q)):=j3 G8 G7 m7 (by kernel_rfl) h
theorem c1N(I:Nat→D→D→D→D→b9→Prop)
  (step:∀n x3 x92 x93 x94 S,I n x3 x92 x93 x94 S→a7V E w0 x (fun x3 x92 x93 x94 S=>∃m,m<n∧I m x3 x92 x93 x94 S) Q x3 x92 x93 x94 S)
  {n:Nat} {x3 x92 x93 x94:D} {S:b9} (h:I n x3 x92 x93 x94 S):j0 Tryz.prog E w0 x (.loop a7S) (j9 128 [3,92,93,94] [x3,x92,x93,x94]) S (a9c E w0 x Q):=
 o3 (k:=128) (n:=n) (I:=fun n T S=>I n (T.getD 3 d9) (T.getD 92 d9) (T.getD 93 d9) (T.getD 94 d9) S) (fun n T S hl hI=>o5 [3,92,93,94] hl (j0.mono (c2I (step n _ _ _ _ S hI)) fun ex T' S' _ hq=>by cases ex<;>exact hq)) (l8 ..) (Eq.mp (by kernel_rfl) h)
noncomputable def a8v:Code:=(j4 [1,1,1,1,1,0,1,0,0] (Tryz.f24.body.getD .skip))
def a7L(E:j6)(w0:World)(x:Bool)(Q:D→b9→Prop):o6→List D→b9→Prop:=
 (o8 4 (w6 Tryz.prog E w0 x G8 G7 (j4 [1,1,1,1,1,1] (Tryz.f24.body.getD .skip)) (z7 Tryz.prog Tryz.f24 Q)))
def a8y(E:j6)(w0:World)(x:Bool)(N2:D→D→D→D→D→b9→Prop)(Q:D→b9→Prop)(x1 x3 x76 x77 x78:D)(S:b9):Prop:=
 b7 (i6 .lss x78 x77) fun v78=>
 j1 v78
 (b7 (p6 1 x76 x78) fun v79=>
 b7 (b8 S v79) fun v80=>
 o9 Tryz.prog E w0 x H5 [x3,v80] S fun v81 S82=>
 b7 (i6 .add x78 (.int .i64 1)) fun v83=>
 N2 x1 x3 x76 x77 v83 S82)
 (b7 (i5 2 x1) fun v84=>
 b7 (b8 S v84) fun v85=>
 b7 (l9 v85) fun v86=>
 o9 Tryz.prog E w0 x s6 [x3,v86] S fun v87 S88=>
 b7 (i5 2 x1) fun v89=>
 b7 (b8 S88 v89) fun v90=>
 b7 (l9 v90) fun v91=>
 j0 Tryz.prog E w0 x (.loop a7S) (j9 128 [3,92,93,94] [x3,v90,v91,(.int .i64 0)]) S88 (a9c E w0 x Q))
theorem c2H{N2:D→D→D→D→D→b9→Prop}{Q:D→b9→Prop}{x1 x3 x76 x77 x78:D}{S:b9}(h:a8y E w0 x N2 Q x1 x3 x76 x77 x78 S):
  j0 Tryz.prog E w0 x a8v (j9 128 [1,3,76,77,78] [x1,x3,x76,x77,x78]) S (q8 (fun T S=>N2 (T.getD 1 d9) (T.getD 3 d9) (T.getD 76 d9) (T.getD 77 d9) (T.getD 78 d9) S) (a7L E w0 x Q)):=j3 G8 G7 m7 (by kernel_rfl) h
theorem c1k(I:Nat→D→D→D→D→D→b9→Prop)
  (step:∀n x1 x3 x76 x77 x78 S,I n x1 x3 x76 x77 x78 S→a8y E w0 x (fun x1 x3 x76 x77 x78 S=>∃m,m<n∧I m x1 x3 x76 x77 x78 S) Q x1 x3 x76 x77 x78 S)
  {n:Nat} {x1 x3 x76 x77 x78:D} {S:b9} (h:I n x1 x3 x76 x77 x78 S):j0 Tryz.prog E w0 x (.loop a8v) (j9 128 [1,3,76,77,78] [x1,x3,x76,x77,x78]) S (a7L E w0 x Q):=
 o3 (k:=128) (n:=n) (I:=fun n T S=>I n (T.getD 1 d9) (T.getD 3 d9) (T.getD 76 d9) (T.getD 77 d9) (T.getD 78 d9) S) (fun n T S hl hI=>o5 [1,3,76,77,78] hl (j0.mono (c2H (step n _ _ _ _ _ S hI)) fun ex T' S' _ hq=>by cases ex<;>exact hq)) (l8 ..) (Eq.mp (by kernel_rfl) h)
noncomputable def a7P:Code:=(j4 [1,1,1,0,1,0,0] (Tryz.f24.body.getD .skip))
def a8d(E:j6)(w0:World)(x:Bool)(Q:D→b9→Prop):o6→List D→b9→Prop:=
 (o8 0 (w6 Tryz.prog E w0 x G8 G7 (j4 [1,1,1,1] (Tryz.f24.body.getD .skip)) (z7 Tryz.prog Tryz.f24 Q)))
def a8K(E:j6)(w0:World)(x:Bool)(N0:D→D→D→D→D→b9→Prop)(Q:D→b9→Prop)(x1 x3 x19 x20 x21:D)(S:b9):Prop:=
 b7 (i6 .lss x21 x20) fun v12=>
 j1 v12
 (b7 (p6 5 x19 x21) fun v13=>
 b7 (j2 S 5 v13) fun v14=>
 m8 S [(.int .u8 0),(.str []), .nilSlc,(.int .i64 0),(.int .i64 0)] fun v15 S16=>
 j7 S16 5 v15 v14 fun v17 S18=>
 b7 (i5 0 v15) fun v19=>
 b7 (b8 S18 v19) fun v20=>
 q7 S18 1 (m9 1 (List.replicate 1 [(.int .u8 0)]) [(0,v20)]) 1 fun v21 S22=>
 o9 Tryz.prog E w0 x M6 [x3,v21] S22 fun v23 S24=>
 b7 (i5 0 v15) fun v25=>
 b7 (b8 S24 v25) fun v26=>
 b7 (i6 .eql v26 (.int .u8 6)) fun v27=>
 j1 v27
 (b7 (i5 1 v15) fun v28=>
 b7 (b8 S24 v28) fun v29=>
 o9 Tryz.prog E w0 x H5 [x3,v29] S24 fun v30 S31=>
 b7 (i5 2 v15) fun v32=>
 b7 (b8 S31 v32) fun v33=>
 b7 (l9 v33) fun v34=>
 o9 Tryz.prog E w0 x s6 [x3,v34] S31 fun v35 S36=>
 b7 (i5 2 v15) fun v37=>
 b7 (b8 S36 v37) fun v38=>
 b7 (l9 v38) fun v39=>
 j0 Tryz.prog E w0 x (.loop a9E) (j9 128 [1,3,19,20,21,43,44,45] [x1,x3,x19,x20,x21,v38,v39,(.int .i64 0)]) S36 (a8I E w0 x N0 Q))
 (b7 (i5 3 v15) fun v57=>
 b7 (b8 S24 v57) fun v58=>
 o9 Tryz.prog E w0 x s6 [x3,v58] S24 fun v59 S60=>
 b7 (i5 0 v15) fun v61=>
 b7 (b8 S60 v61) fun v62=>
 b7 (i6 .eql v62 (.int .u8 7)) fun v63=>
 j1 v63
 (b7 (i5 4 v15) fun v64=>
 b7 (b8 S60 v64) fun v65=>
 o9 Tryz.prog E w0 x s6 [x3,v65] S60 fun v66 S67=>
 b7 (i6 .add x21 (.int .i64 1)) fun v68=>
 N0 x1 x3 x19 x20 v68 S67)
 (b7 (i6 .add x21 (.int .i64 1)) fun v69=>
 N0 x1 x3 x19 x20 v69 S60)))
 (b7 (i5 1 x1) fun v70=>
 b7 (b8 S v70) fun v71=>
 b7 (l9 v71) fun v72=>
 o9 Tryz.prog E w0 x s6 [x3,v72] S fun v73 S74=>
 b7 (i5 1 x1) fun v75=>
 b7 (b8 S74 v75) fun v76=>
 b7 (l9 v76) fun v77=>
 j0 Tryz.prog E w0 x (.loop a8v) (j9 128 [1,3,76,77,78] [x1,x3,v76,v77,(.int .i64 0)]) S74 (a7L E w0 x Q))
theorem c2v{N0:D→D→D→D→D→b9→Prop}{Q:D→b9→Prop}{x1 x3 x19 x20 x21:D}{S:b9}(h:a8K E w0 x N0 Q x1 x3 x19 x20 x21 S):
  j0 Tryz.prog E w0 x a7P (j9 128 [1,3,19,20,21] [x1,x3,x19,x20,x21]) S (q8 (fun T S=>N0 (T.getD 1 d9) (T.getD 3 d9) (T.getD 19 d9) (T.getD 20 d9) (T.getD 21 d9) S) (a8d E w0 x Q)):=j3 G8 G7 m7 (by kernel_rfl) h
theorem c0w(I:Nat→D→D→D→D→D→b9→Prop)
  (step:∀n x1 x3 x19 x20 x21 S,I n x1 x3 x19 x20 x21 S→a8K E w0 x (fun x1 x3 x19 x20 x21 S=>∃m,m<n∧I m x1 x3 x19 x20 x21 S) Q x1 x3 x19 x20 x21 S)
  {n:Nat} {x1 x3 x19 x20 x21:D} {S:b9} (h:I n x1 x3 x19 x20 x21 S):j0 Tryz.prog E w0 x (.loop a7P) (j9 128 [1,3,19,20,21] [x1,x3,x19,x20,x21]) S (a8d E w0 x Q):=
 o3 (k:=128) (n:=n) (I:=fun n T S=>I n (T.getD 1 d9) (T.getD 3 d9) (T.getD 19 d9) (T.getD 20 d9) (T.getD 21 d9) S) (fun n T S hl hI=>o5 [1,3,19,20,21] hl (j0.mono (c2v (step n _ _ _ _ _ S hI)) fun ex T' S' _ hq=>by cases ex<;>exact hq)) (l8 ..) (Eq.mp (by kernel_rfl) h)
def c0t(E:j6)(w0:World)(x:Bool)(Q:D→b9→Prop)(a0:D)(S:b9):Prop:=
 b7 (q6 a0) fun cs=>m8 S cs fun v0 S1=>
 m8 S1 [.nilSlc] fun v2 S3=>
 b7 (i5 0 v0) fun v4=>
 b7 (b8 S3 v4) fun v5=>
 b7 (l9 v5) fun v6=>
 o9 Tryz.prog E w0 x s6 [v2,v6] S3 fun v7 S8=>
 b7 (i5 0 v0) fun v9=>
 b7 (b8 S8 v9) fun v10=>
 b7 (l9 v10) fun v11=>
 j0 Tryz.prog E w0 x (.loop a7P) (j9 128 [1,3,19,20,21] [v0,v2,v10,v11,(.int .i64 0)]) S8 (a8d E w0 x Q)
theorem c5O{a0:D}{S:b9}(h:c0t E w0 x (i9 E Q) a0 S):o9 Tryz.prog E w0 x b3M [a0] S Q:=
 l7 G8 G7 (fn:=Tryz.f24) (c:=Tryz.f24.body.getD .skip) m7 Tryz.func24 (by kernel_rfl) (by kernel_rfl) h
def c6y:List (Nat×List Nat):=[]
def c6u:List (Nat×List Nat):=[]
def b6K(E:j6)(w0:World)(x:Bool)(Q:D→b9→Prop)(a0:D)(S:b9):Prop:=
 b7 (q6 a0) fun cs=>m8 S cs fun v0 S1=>
 b7 (j2 S1 3 v0) fun v2=>
 o9 Tryz.prog E w0 x a4i [v2] S1 fun v3 S4=>
 b7 (i6 .neq v3 (.int .i64 0)) fun v5=>
 j1 v5
 (Q (.tup [.nilSlc,v3]) S4)
 (b7 (j2 S4 3 v0) fun v6=>
 o9 Tryz.prog E w0 x b3M [v6] S4 fun v7 S8=>
 b7 (l9 v7) fun v9=>
 b7 (i6 .gtr v9 (.int .i64 2097140)) fun v10=>
 j1 v10
 (Q (.tup [.nilSlc,(.int .i64 3)]) S8)
 (q7 S8 1 (m9 1 (List.replicate 4 [(.int .u8 0)]) [(0,(.int .u8 84)),(1,(.int .u8 82)),(2,(.int .u8 77)),(3,(.int .u8 1))]) 4 fun v11 S12=>
 d6A S12 v11 fun v13 S14=>
 b7 (l9 v7) fun v15=>
 b7 (E7 .u64 v15) fun v16=>
 o9 Tryz.prog E w0 x a1W [v16,(.int .i64 4)] S14 fun v17 S18=>
 o9 Tryz.prog E w0 x b9o [v7] S18 fun v19 S20=>
 b7 (E7 .u64 v19) fun v21=>
 o9 Tryz.prog E w0 x a1W [v21,(.int .i64 4)] S20 fun v22 S23=>
 q7 S23 1 (m9 1 (List.replicate 4 [.nilSlc]) [(0,v13),(1,v17),(2,v7),(3,v22)]) 4 fun v24 S25=>
 o9 Tryz.prog E w0 x N9 [v24] S25 fun v26 S27=>
 Q (.tup [v26,(.int .i64 0)]) S27))
theorem c2J{a0:D}{S:b9}(h:b6K E w0 x (i9 E Q) a0 S):o9 Tryz.prog E w0 x G5 [a0] S Q:=
 l7 c6y c6u (fn:=Tryz.f9) (c:=Tryz.f9.body.getD .skip) m7 Tryz.func9 (by kernel_rfl) (by kernel_rfl) h
def c9s:List (Nat×List Nat):=[]
def c7A:List (Nat×List Nat):=[]
def b8m(E:j6)(w0:World)(x:Bool)(Q:D→b9→Prop)(a0:D)(S:b9):Prop:=
 b7 (q6 a0) fun cs=>m8 S cs fun v0 S1=>
 b7 (j2 S1 3 v0) fun v2=>
 o9 Tryz.prog E w0 x G5 [v2] S1 fun v3 S4=>
 b7 (o4 v3 0) fun v5=>
 b7 (o4 v3 1) fun v6=>
 Q v6 S4
theorem c3d{a0:D}{S:b9}(h:b8m E w0 x (i9 E Q) a0 S):o9 Tryz.prog E w0 x a2x [a0] S Q:=
 l7 c9s c7A (fn:=Tryz.f10) (c:=Tryz.f10.body.getD .skip) m7 Tryz.func10 (by kernel_rfl) (by kernel_rfl) h
end Go.Proofs.YtchnpgddpaonhaaGreat.d
end
