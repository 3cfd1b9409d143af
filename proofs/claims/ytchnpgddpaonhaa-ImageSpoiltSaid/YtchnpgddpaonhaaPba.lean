/-
  ImageSpoiltSaid: part Pba of its proof.
-/
import Derived.Test.YtchnpgddpaonhaaPaw
import Derived.Test.YtchnpgddpaonhaaPaz
set_option linter.unusedVariables false
set_option linter.unusedSimpArgs false
set_option maxRecDepth 100000
section
open Go.Proofs Go Go.Am Go.Op
namespace Go.Proofs.Ytchnpgddpaonhaa.d
section
def Q5(m:Mo)(t:Int):Bool:=decide (1≤t∧t≤5)||decide (16≤t∧t - 16<m.types.length)
def b7X(m:Mo)(t:Ty):Bool:=decide (t.name=[])&&decide (t.fields.length=0)&&Q5 m t.elem
def W6(m:Mo)(t:Ty):Bool:=
 if t.kind=6 then decide (t.elem=0)&&decide (t.len=0)&&t.fields.all fun f=>Q5 m f.2
 else if t.kind=7 then b7X m t&&decide (0≤t.len∧t.len≤65536)
 else if t.kind=8 then b7X m t&&decide (t.len=0) else false
def a9b(m:Mo)(r:Ro)(y:In):Bool:=decide ((a1l y m).2.2=0)&& !(decide (y.op=7∨y.op=8)&&decide (r.locals≤y.a))
def a2L(m:Mo)(r:Ro):Bool:=
 r.params.all (Q5 m)&&r.results.all (Q5 m)&& !decide (r.locals<r.params.length)&& !decide (r.stack<0)&&
  decide ((b2W (b9i r.code)).2.2=0)&&(b2W (b9i r.code)).1.all (a9b m r)
section
variable{E:m6}{w0:o3}
def a4Z(E:m6)(w0:o3)(S:b7)(fv d:D)(b:Bool):Prop:=∀K:D→b7→Prop,K (.bool b) S→a2f Try.prog (o4 Try.prog E w0) S fv [d] K
theorem a3D{f:FuncId}(hf:a9X Try.prog f=true){cs:List D}{d:D}{b:Bool}{S:b7}(h:o4 Try.prog E w0 f (d::cs) S fun d' S'=>d'= .bool b∧S'=S):a4Z E w0 S (.fn (.func f) [] cs) d b:=fun K hK=>by
 simp only[a2f,b1g,hf,List.nil_append,List.singleton_append,if_true]
 refine h.use fun d' S' ⟨h1,h2⟩=> ?_
 subst h1 h2
 exact hK
def c0p{α:Type}(p:α→Bool)(l:List α):Int:=match l.findIdx? p with
 |some i=>(i:Int)
 |none=> -1
theorem c4o{α:Type}{p:α→Bool}{l:List α}{i:Nat}(h:(l.take i).any p=false)(hi:i≤l.length):l.findIdx? p=((l.drop i).findIdx? p).map (· +i):=by
 induction l generalizing i with
 |nil=>simp
 |cons a l ih=>
  cases i with
  |zero=>simp
  |succ i=>
   simp only[List.take_succ_cons,List.any_cons,Bool.or_eq_false_iff]at h
   rw[List.drop_succ_cons,List.findIdx?_cons,h.1]
   simp only[Bool.false_eq_true,if_false,ih h.2 (by simpa using hi),Option.map_map]
   cases (l.drop i).findIdx? p<;>simp[Function.comp];omega
theorem b9s{α:Type}{p:α→Bool}{l:List α}:decide (c0p p l≥0)=l.any p:=by
 unfold c0p
 cases h:l.findIdx? p with
 |none=>
  have:∀a∈l,p a=false:=by simpa [List.findIdx?_eq_none_iff]using h
  have:l.any p=false:=by rw[List.any_eq_false];intro a ha;simp[this a ha]
  rw[this];rfl
 |some i=>
  have hi:=List.findIdx?_eq_some_iff_getElem.1 h
  obtain⟨h1,h2,_⟩:=hi
  have:l.any p=true:=List.any_eq_true.2 ⟨_,List.getElem_mem h1,h2⟩
  rw[this]
  exact decide_eq_true (by simp)
theorem b4S{α:Type}{p:α→Bool}{l:List α}{i:Nat}(h:(l.take i).any p=false)(hi:i<l.length):(p l[i]=true→c0p p l=(i:Int))∧(p l[i]=false→(l.take (i+1)).any p=false):=by
 constructor
 ·intro hp
  unfold c0p
  rw[c4o h (by omega),List.drop_eq_getElem_cons hi,List.findIdx?_cons,hp]
  simp
 ·intro hp
  rw[List.take_add_one,List.getElem?_eq_getElem hi,List.any_append,h]
  simpa using hp
theorem b9k{α:Type}{p:α→Bool}{l:List α}(h:l.any p=false):c0p p l= -1:=by
 unfold c0p
 have:l.findIdx? p=none:=by
  rw[List.findIdx?_eq_none_iff]
  intro a ha
  have:=List.any_eq_false.1 h a ha
  simpa using this
 rw[this]
theorem c6t{l:List (Tx×Int)}{p:Tx×Int→Bool}{fv:D}(hl:l.length<2^60){S:b7}(hp:∀y∈l,a4Z E w0 S fv (.agg (a0d y)) (p y)):o4 Try.prog E w0 M2 [a3e l,fv] S fun d S'=>d= .int .i64 (c0p p l)∧S'=S:=by
 refine a3i ?_
 unfold a0v
 rw[a1y,oD]
 refine a2y (I:=fun n x0 x1 x7 x8 T=>S=T∧x0=a3e l∧fv=x1∧x7= .int .i64 (l.length:Int)∧∃i:Nat,x8= .int .i64 (i:Int)∧i+n=l.length∧(l.take i).any p=false) ?_ (n:=l.length) ⟨rfl,rfl,rfl,rfl,0,rfl,by omega,rfl⟩
 rintro n _ _ _ _ _ ⟨rfl,rfl,rfl,rfl,i,rfl,hi,ht⟩
 unfold J7
 rw[K3,oD,M6]
 refine⟨fun hlt=> ?_,fun hge=> ?_⟩
 ·have hlt:i<l.length:=by omega
  obtain⟨s1,s2⟩:=b4S ht hlt
  rw[b0Z (List.getElem?_eq_getElem hlt),oD,d1X,oD]
  refine hp _ (List.getElem_mem _) _ ?_
  rw[cdB]
  refine⟨fun h=>d9.here ⟨by rw[s1 h],rfl⟩,fun h=> ?_⟩
  rw[E2,oD,m7 (by omega) (by omega)]
  exact⟨n - 1,by omega,rfl,rfl,rfl,rfl,i+1,rfl,by omega,s2 h⟩
 ·rw[List.take_of_length_le (by omega)]at ht
  exact d9.here ⟨by rw[b9k ht],rfl⟩
theorem c7a{l:List Tx}{p:Tx→Bool}{fv:D}(hl:l.length<2^60){S:b7}(hp:∀y∈l,a4Z E w0 S fv (.str y) (p y)):o4 Try.prog E w0 Q4 [b0L l,fv] S fun d S'=>d= .int .i64 (c0p p l)∧S'=S:=by
 refine a4A ?_
 unfold a1A
 rw[a8d,oD]
 refine a3A (I:=fun n x0 x1 x7 x8 T=>S=T∧x0=b0L l∧fv=x1∧x7= .int .i64 (l.length:Int)∧∃i:Nat,x8= .int .i64 (i:Int)∧i+n=l.length∧(l.take i).any p=false) ?_ (n:=l.length) ⟨rfl,rfl,rfl,rfl,0,rfl,by omega,rfl⟩
 rintro n _ _ _ _ _ ⟨rfl,rfl,rfl,rfl,i,rfl,hi,ht⟩
 unfold N4
 rw[K3,oD,M6]
 refine⟨fun hlt=> ?_,fun hge=> ?_⟩
 ·have hlt:i<l.length:=by omega
  obtain⟨s1,s2⟩:=b4S ht hlt
  rw[c3I (List.getElem?_eq_getElem hlt),oD,lsE,List.getElem?_cons_zero,oD]
  refine hp _ (List.getElem_mem _) _ ?_
  rw[cdB]
  refine⟨fun h=>d9.here ⟨by rw[s1 h],rfl⟩,fun h=> ?_⟩
  rw[E2,oD,m7 (by omega) (by omega)]
  exact⟨n - 1,by omega,rfl,rfl,rfl,rfl,i+1,rfl,by omega,s2 h⟩
 ·rw[List.take_of_length_le (by omega)]at ht
  exact d9.here ⟨by rw[b9k ht],rfl⟩
theorem c6y{l:List Int}{p:Int→Bool}{fv:D}(hl:l.length<2^60){S:b7}(hp:∀y∈l,a4Z E w0 S fv (.int .i64 y) (p y)):o4 Try.prog E w0 a0p [iD l,fv] S fun d S'=>d= .int .i64 (c0p p l)∧S'=S:=by
 refine a6F ?_
 unfold a2X
 rw[b6U,oD]
 refine a5c (I:=fun n x0 x1 x7 x8 T=>S=T∧x0=iD l∧fv=x1∧x7= .int .i64 (l.length:Int)∧∃i:Nat,x8= .int .i64 (i:Int)∧i+n=l.length∧(l.take i).any p=false) ?_ (n:=l.length) ⟨rfl,rfl,rfl,rfl,0,rfl,by omega,rfl⟩
 rintro n _ _ _ _ _ ⟨rfl,rfl,rfl,rfl,i,rfl,hi,ht⟩
 unfold X0
 rw[K3,oD,M6]
 refine⟨fun hlt=> ?_,fun hge=> ?_⟩
 ·have hlt:i<l.length:=by omega
  obtain⟨s1,s2⟩:=b4S ht hlt
  rw[d3J (List.getElem?_eq_getElem hlt),oD,lsE,List.getElem?_cons_zero,oD]
  refine hp _ (List.getElem_mem _) _ ?_
  rw[cdB]
  refine⟨fun h=>d9.here ⟨by rw[s1 h],rfl⟩,fun h=> ?_⟩
  rw[E2,oD,m7 (by omega) (by omega)]
  exact⟨n - 1,by omega,rfl,rfl,rfl,rfl,i+1,rfl,by omega,s2 h⟩
 ·rw[List.take_of_length_le (by omega)]at ht
  exact d9.here ⟨by rw[b9k ht],rfl⟩
theorem d6c(S:b7)(y:In):j0 S 4 (.elt (inC y) 0)=some (.agg (inC y)):=rfl
theorem d2f{l:List In}{i:Nat}{y:In}(h:l[i]? =some y):A7 4 (b9T l) (.int .i64 (i:Int))=some (.elt (inC y) 0):=b5S (by rw[List.getElem?_map,h];rfl)
theorem c7e{l:List In}{p:In→Bool}{fv:D}(hl:l.length<2^60){S:b7}(hp:∀y∈l,a4Z E w0 S fv (inD y) (p y)):o4 Try.prog E w0 M0 [b9T l,fv] S fun d S'=>d= .int .i64 (c0p p l)∧S'=S:=by
 refine a3f ?_
 unfold a0w
 rw[show r6 (b9T l)=some (.int .i64 (l.length:Int)) by simp[b9T],oD]
 refine a2z (I:=fun n x0 x1 x7 x8 T=>S=T∧x0=b9T l∧fv=x1∧x7= .int .i64 (l.length:Int)∧∃i:Nat,x8= .int .i64 (i:Int)∧i+n=l.length∧(l.take i).any p=false) ?_ (n:=l.length) ⟨rfl,rfl,rfl,rfl,0,rfl,by omega,rfl⟩
 rintro n _ _ _ _ _ ⟨rfl,rfl,rfl,rfl,i,rfl,hi,ht⟩
 unfold J4
 rw[K3,oD,M6]
 refine⟨fun hlt=> ?_,fun hge=> ?_⟩
 ·have hlt:i<l.length:=by omega
  obtain⟨s1,s2⟩:=b4S ht hlt
  rw[d2f (List.getElem?_eq_getElem hlt),oD,d6c,oD]
  refine hp _ (List.getElem_mem _) _ ?_
  rw[cdB]
  refine⟨fun h=>d9.here ⟨by rw[s1 h],rfl⟩,fun h=> ?_⟩
  rw[E2,oD,m7 (by omega) (by omega)]
  exact⟨n - 1,by omega,rfl,rfl,rfl,rfl,i+1,rfl,by omega,s2 h⟩
 ·rw[List.take_of_length_le (by omega)]at ht
  exact d9.here ⟨by rw[b9k ht],rfl⟩
theorem c2M{l:List (Tx×Int)}{p:Tx×Int→Bool}{fv:D}(hl:l.length<2^60){S:b7}(hp:∀y∈l,a4Z E w0 S fv (.agg (a0d y)) (p y)):o4 Try.prog E w0 B8 [a3e l,fv] S fun d S'=>d= .bool (l.any p)∧S'=S:=by
 refine a2b ?_
 unfold X2
 refine(c6t hl hp).use fun d S' ⟨h1,h2⟩=> ?_
 subst h1 h2
 rw[b2j,oD,b9s];exact d9.here ⟨rfl,rfl⟩
theorem c9Q{l:List Tx}{p:Tx→Bool}{fv:D}(hl:l.length<2^60){S:b7}(hp:∀y∈l,a4Z E w0 S fv (.str y) (p y)):o4 Try.prog E w0 M3 [b0L l,fv] S fun d S'=>d= .bool (l.any p)∧S'=S:=by
 refine a3g ?_
 unfold a0z
 refine(c7a hl hp).use fun d S' ⟨h1,h2⟩=> ?_
 subst h1 h2
 rw[b2j,oD,b9s];exact d9.here ⟨rfl,rfl⟩
theorem c2S{l:List Int}{p:Int→Bool}{fv:D}(hl:l.length<2^60){S:b7}(hp:∀y∈l,a4Z E w0 S fv (.int .i64 y) (p y)):o4 Try.prog E w0 I8 [iD l,fv] S fun d S'=>d= .bool (l.any p)∧S'=S:=by
 refine a4B ?_
 unfold a1z
 refine(c6y hl hp).use fun d S' ⟨h1,h2⟩=> ?_
 subst h1 h2
 rw[b2j,oD,b9s];exact d9.here ⟨rfl,rfl⟩
theorem d1e{l:List In}{p:In→Bool}{fv:D}(hl:l.length<2^60){S:b7}(hp:∀y∈l,a4Z E w0 S fv (inD y) (p y)):o4 Try.prog E w0 I7 [b9T l,fv] S fun d S'=>d= .bool (l.any p)∧S'=S:=by
 refine a1Z ?_
 unfold X3
 refine(c7e hl hp).use fun d S' ⟨h1,h2⟩=> ?_
 subst h1 h2
 rw[b2j,oD,b9s];exact d9.here ⟨rfl,rfl⟩
theorem t1':(true==false)=false:=rfl
theorem t2':(false==false)=true:=rfl
theorem t3':(false==true)=false:=rfl
theorem t4':(true==true)=true:=rfl
theorem a6z{m:Mo}(hm:m.Ok){t:Int}(ht:I64 t):Y7 Try.prog E w0 W8 [moD m, .int .i64 t] (.bool (Q5 m t)):=fun S=>by
 refine b6W ?_
 unfold b3x
 rw[moD,clA,oD]
 intro k a n
 have h0:w9 (S.set k ⟨3,[moC m],a⟩) k 3 (moC m):=w9.new
 rw[show(moC m).length=3 from rfl]
 have h2:=hm.types
 obtain⟨i1,i2⟩:=ht
 have ld:c9 (S.set k ⟨3,[moC m],a⟩) (.ptr k 0)=some (b2X m.types):=h0.ld 0
 have fin:∀b:Bool,Q5 m t=b→d9 E (fun d' S'=>d'= .bool (Q5 m t)∧S'=S) (.bool b) (S.set k ⟨3,[moC m],a⟩):=fun b h=>by rw[h];exact d9.drop n d9.pure
 rw[d3c,oD]
 by_cases c1:1≤t
 ·simp only[decide_eq_true c1,wdB,t4',vdT,oD,pdB,if_true,d3c]
  by_cases c2:t≤5
  ·simp only[decide_eq_true c2,wdB,t1',vdF,oD,pdB,if_true]
   exact fin true (by unfold Q5;rw[decide_eq_true ⟨c1,c2⟩];rfl)
  ·simp only[decide_eq_false c2,wdB,t2',vdT,oD,pdB,Bool.false_eq_true,if_false,b2j]
   by_cases c3:t≥16
   ·simp only[decide_eq_true c3,wdB,t4',vdT,oD,pdB,if_true,b0s,I3,Nat.zero_add,ld,a5t,K3]
    rw[m7 (by omega) (by omega)]
    refine fin _ ?_
    unfold Q5
    rw[decide_eq_false (fun h=>c2 h.2),Bool.false_or]
    exact decide_eq_decide.2 ⟨fun h=>h.2,fun h=>⟨c3,h⟩⟩
   ·simp only[decide_eq_false c3,wdB,t3',vdF,oD,pdB,Bool.false_eq_true,if_false]
    exact fin false (by unfold Q5;rw[decide_eq_false (fun h=>c2 h.2),decide_eq_false (fun h=>c3 h.1)];rfl)
 ·have c3:¬t≥16:=by omega
  simp only[decide_eq_false c1,wdB,t3',t2',vdT,vdF,oD,pdB,Bool.false_eq_true,if_false,b2j,decide_eq_false c3]
  exact fin false (by unfold Q5;rw[decide_eq_false (fun h=>c1 h.1),decide_eq_false (fun h=>c3 h.1)];rfl)
end
end
section
def a7f(t:Ty):Bool:=decide (t.fields.length>32)||decide (t.name.length>65536)||t.fields.any fun f=>decide (f.1.length>65536)
def a2W(r:Ro):Bool:=decide (r.params.length>32)||decide (r.results.length>8)||decide (r.locals>256)||decide (r.stack>4096)||decide (r.code.length>65536)||decide (r.name.length>65536)
def a4R(m:Mo)(t:Ty):Int:=if a7f t=true then 3 else if W6 m t=true then 0 else 130
def a8n(m:Mo)(r:Ro):Int:=if a2W r=true then 3 else if a2L m r=true then 0 else 130
def P7{α:Type}(f:α→Int):List α→Int
 | []=>0
 |a::l=>if f a=0 then P7 f l else f a
theorem b7U{α:Type}{f:α→Int}{l:List α}{i:Nat}(hi:i<l.length):P7 f (l.drop i)=if f l[i]=0 then P7 f (l.drop (i+1)) else f l[i]:=by
 rw[List.drop_eq_getElem_cons hi,P7]
def C7(m:Mo):Int:=
 if m.types.length>256∨m.texts.length>32768∨m.funcs.length>256 then 3
 else if P7 (a4R m) m.types≠0 then P7 (a4R m) m.types
 else if m.texts.any (fun t=>decide (t.length>65536))=true then 3 else P7 (a8n m) m.funcs
theorem c8X{α:Type}{p:α→Bool}(l:List α):(!l.any fun a=> !p a)=l.all p:=by
 induction l with
 |nil=>rfl
 |cons a l ih=>rw[List.any_cons,List.all_cons, ←ih];cases p a<;>simp
section
variable{E:m6}{w0:o3}
theorem c3V{m:Mo}(hm:m.Ok){f:Tx×Int}(hf:I64 f.2){S:b7}{k:Nat}(hk:w9 S k 3 (moC m)):o4 Try.prog E w0 a0O [.agg (a0d f), .ptr k 0] S fun d S'=>d= .bool (!Q5 m f.2)∧S'=S:=by
 refine b0Y ?_
 unfold a7e
 rw[clA,oD]
 intro k0 a0 n0
 have c0:w9 (S.set k0 ⟨2,[a0d f],a0⟩) k0 2 (a0d f):=w9.new
 rw[show(a0d f).length=2 from rfl,(hk.set n0).all (n:=3) (by decide) rfl,oD,I3,oD,c0.ld,show(a0d f)[0+1]? =some (.int .i64 f.2) from rfl,oD]
 refine(a6z hm hf).use ?_
 rw[unN,oD]
 exact d9.drop n0 (d9.here ⟨rfl,rfl⟩)
theorem c3B{m:Mo}{t:Ty}:b7X m t=(decide (t.name=[])&&decide (t.fields.length=0)&&Q5 m t.elem):=rfl
theorem b6z{m:Mo}(hm:m.Ok){t:Ty}(ht:t.Ok):Y7 Try.prog E w0 a1Y [moD m, .agg (O4 t)] (.bool (W6 m t)):=fun S=>by
 refine b3H ?_
 unfold b0z
 rw[moD,clA,oD]
 intro k a n
 rw[clA,oD]
 intro k2 a2 n2
 obtain⟨ne2,n2'⟩:=b7.fresh n2
 generalize hS3:(S.set k _).set k2 _=S3
 have h2:w9 S3 k2 5 (O4 t):=by rw[←hS3];exact w9.new
 have h0:w9 S3 k 3 (moC m):=by rw[←hS3];exact(w9.new).set n2
 have hle:S.le S3:=by rw[←hS3];exact b7.le_set (b7.le_new n) n2'
 have q0:(O4 t)[0]? =some (.int .u8 t.kind):=rfl
 have q1:(O4 t)[1]? =some (.str t.name):=rfl
 have q2:(O4 t)[2]? =some (a3e t.fields):=rfl
 have q3:(O4 t)[3]? =some (.int .i64 t.elem):=rfl
 have q4:(O4 t)[4]? =some (.int .i64 t.len):=rfl
 have fin:∀b:Bool,W6 m t=b→d9 E (fun d' S'=>d'= .bool (W6 m t)∧S'=S) (.bool b) S3:=fun b h=>by rw[h];exact d9.less hle d9.pure
 have hfl:=ht.fields
 have beqN:∀a:Tx,c2p .eql (.str a) (.str [])=some (.bool (decide (a=[]))):=fun a=>by rw[d6e,d5Z]
 have lc:decide ((t.fields.length:Int)=0)=decide (t.fields.length=0):=decide_eq_decide.2 (by omega)
 simp only[I3,oD,Nat.zero_add,h2.ld,q1,beqN]
 have rest:∀(b:Bool),b=b7X m t→
   (a9 (c9 S3 (.ptr k2 0)) fun v19=>a9 (d8 .eql v19 (.int .u8 6)) fun v20=>i9 v20
    (a9 (c9 S3 (.ptr k2 3)) fun v22=>a9 (d8 .eql v22 (.int .i64 0)) fun v23=>a9 (j9 (d6 v23 true) (m8 4 (.ptr k2 0))) fun v24=>a9 (j9 (d6 v23 true) (c9 S3 v24)) fun v25=>a9 (j9 (d6 v23 true) (d8 .eql v25 (.int .i64 0))) fun v26=>a9 (z2 v23 v26 (.bool false)) fun v27=>
     a9 (j9 (d6 v27 true) (m8 2 (.ptr k2 0))) fun v28=>a9 (j9 (d6 v27 true) (c9 S3 v28)) fun v29=>a9 (j9 (d6 v27 true) (some (.fn (.func a0O) [] [.ptr k 0]))) fun v30=>
     a6e (d6 v27 true) (fun K=>o4 Try.prog E w0 B8 [v29,v30] S3 K) S3 fun v31 S32=>a9 (j9 (d6 v27 true) (unD .not v31)) fun v33=>a9 (z2 v27 v33 (.bool false)) fun v34=>d9 E (fun d' S'=>d'= .bool (W6 m t)∧S'=S) v34 S32)
    (a9 (d8 .eql v19 (.int .u8 7)) fun v35=>i9 v35
     (a9 (j9 (d6 (.bool b) true) (m8 4 (.ptr k2 0))) fun v36=>a9 (j9 (d6 (.bool b) true) (c9 S3 v36)) fun v37=>a9 (j9 (d6 (.bool b) true) (d8 .geq v37 (.int .i64 0))) fun v38=>a9 (z2 (.bool b) v38 (.bool false)) fun v39=>
      a9 (j9 (d6 v39 true) (m8 4 (.ptr k2 0))) fun v40=>a9 (j9 (d6 v39 true) (c9 S3 v40)) fun v41=>a9 (j9 (d6 v39 true) (d8 .leq v41 (.int .i64 65536))) fun v42=>a9 (z2 v39 v42 (.bool false)) fun v43=>d9 E (fun d' S'=>d'= .bool (W6 m t)∧S'=S) v43 S3)
     (a9 (d8 .eql v19 (.int .u8 8)) fun v44=>i9 v44
      (a9 (j9 (d6 (.bool b) true) (m8 4 (.ptr k2 0))) fun v45=>a9 (j9 (d6 (.bool b) true) (c9 S3 v45)) fun v46=>a9 (j9 (d6 (.bool b) true) (d8 .eql v46 (.int .i64 0))) fun v47=>a9 (z2 (.bool b) v47 (.bool false)) fun v48=>d9 E (fun d' S'=>d'= .bool (W6 m t)∧S'=S) v48 S3)
      (d9 E (fun d' S'=>d'= .bool (W6 m t)∧S'=S) (.bool false) S3)))):=fun b hb=>by
  rw[h2.ld,q0,oD,a4M,oD,M6]
  refine⟨fun k6=> ?_,fun k6=> ?_⟩
  ·have e6:W6 m t=(decide (t.elem=0)&&decide (t.len=0)&&t.fields.all fun f=>Q5 m f.2):=by unfold W6;rw[if_pos k6]
   simp only[h2.ld,q3,oD,a4M]
   by_cases c1:t.elem=0
   case neg=>simp only[decide_eq_false c1,wdB,t3',vdF,gdF,oD,pdB,Bool.false_eq_true,if_false];exact fin false (by rw[e6,decide_eq_false c1];rfl)
   simp only[decide_eq_true c1,wdB,t4',vdT,oD,pdB,if_true,I3,Nat.zero_add,h2.ld,q4,a4M]
   by_cases c2:t.len=0
   case neg=>simp only[decide_eq_false c2,wdB,t3',vdF,gdF,oD,pdB,Bool.false_eq_true,if_false];exact fin false (by rw[e6,decide_eq_false c2,Bool.and_false];rfl)
   simp only[decide_eq_true c2,wdB,t4',vdT,gdT,oD,pdB,if_true,I3,Nat.zero_add,h2.ld,q2]
   refine(c2M (p:=fun f=> !Q5 m f.2) (by omega) fun f hf=>a3D (cs:=[.ptr k 0]) (by kernel_rfl) (c3V hm (ht.names f hf).2 h0)).use fun d S' ⟨h1,h2⟩=> ?_
   subst h1 h2
   simp only[unN,oD,vdT,pdB,if_true]
   refine fin _ ?_
   rw[e6,decide_eq_true c1,decide_eq_true c2,c8X];rfl
  rw[a4M,oD,M6]
  refine⟨fun k7=> ?_,fun k7=> ?_⟩
  ·have e7:W6 m t=(b7X m t&&decide (0≤t.len∧t.len≤65536)):=by unfold W6;rw[if_neg k6,if_pos k7]
   rw[←hb]at e7
   cases b with
   |false=>simp only[wdB,t3',vdF,gdF,oD,pdB,Bool.false_eq_true,if_false];exact fin false (by rw[e7];rfl)
   |true=>
    simp only[wdB,t4',vdT,oD,pdB,if_true,I3,Nat.zero_add,h2.ld,q4,b2j]
    by_cases c1:t.len≥0
    ·simp only[decide_eq_true c1,wdB,t4',vdT,oD,pdB,if_true,I3,Nat.zero_add,h2.ld,q4,d3c]
     exact fin _ (by rw[e7,Bool.true_and];exact decide_eq_decide.2 ⟨fun h=>h.2,fun h=>⟨c1,h⟩⟩)
    ·simp only[decide_eq_false c1,wdB,t3',vdF,oD,pdB,Bool.false_eq_true,if_false]
     exact fin false (by rw[e7,decide_eq_false (fun h=>c1 h.1)];rfl)
  rw[a4M,oD,M6]
  refine⟨fun k8=> ?_,fun k8=>fin false (by unfold W6;rw[if_neg k6,if_neg k7,if_neg k8])⟩
  have e8:W6 m t=(b7X m t&&decide (t.len=0)):=by unfold W6;rw[if_neg k6,if_neg k7,if_pos k8]
  rw[←hb]at e8
  cases b with
  |false=>simp only[wdB,t3',vdF,gdF,oD,pdB,Bool.false_eq_true,if_false];exact fin false (by rw[e8];rfl)
  |true=>
   simp only[wdB,t4',vdT,oD,pdB,if_true,I3,Nat.zero_add,h2.ld,q4,a4M]
   exact fin _ (by rw[e8,Bool.true_and])
 by_cases c1:t.name=[]
 case neg=>
  simp only[decide_eq_false c1,wdB,t3',vdF,gdF,oD,pdB,Bool.false_eq_true,if_false]
  exact rest false (by rw[c3B,decide_eq_false c1];rfl)
 simp only[decide_eq_true c1,wdB,t4',vdT,oD,pdB,if_true,h2.ld,q2,a1y,a4M,lc]
 by_cases c2:t.fields.length=0
 case neg=>
  simp only[decide_eq_false c2,wdB,t3',vdF,gdF,oD,pdB,Bool.false_eq_true,if_false]
  exact rest false (by rw[c3B,decide_eq_false c2,Bool.and_false];rfl)
 simp only[decide_eq_true c2,wdB,t4',vdT,gdT,oD,pdB,if_true,h2.ld,q3]
 rw[h0.all (n:=3) (by decide) rfl,oD]
 refine(show o4 Try.prog E w0 W8 [moD m, .int .i64 t.elem] S3 _ from(a6z hm ht.elem).use ?_)
 exact rest _ (by rw[c3B,decide_eq_true c1,decide_eq_true c2];rfl)
theorem b5k{m:Mo}(hm:m.Ok){t:Int}(ht:I64 t){S:b7}{k:Nat}(hk:w9 S k 3 (moC m)):o4 Try.prog E w0 a3c [.int .i64 t, .ptr k 0] S fun d S'=>d= .bool (!Q5 m t)∧S'=S:=by
 refine b2g ?_
 unfold a7i
 rw[hk.all (n:=3) (by decide) rfl,oD]
 refine(show o4 Try.prog E w0 W8 [moD m, .int .i64 t] S _ from(a6z hm ht).use ?_)
 rw[unN,oD]
 exact d9.here ⟨rfl,rfl⟩
theorem c3N{m:Mo}(hm:m.Fits){r:Ro}{y:In}(hy:y.Ok){S:b7}{k k2:Nat}(hk:w9 S k 3 (moC m))(hk2:w9 S k2 6 (roR r)):o4 Try.prog E w0 a2Q [inD y, .ptr k 0, .ptr k2 0] S fun d S'=>d= .bool (!a9b m r y)∧S'=S:=by
 refine b0W ?_
 unfold a6X
 rw[inD,clA,oD]
 intro k0 a0 n0
 have c0:w9 (S.set k0 ⟨4,[inC y],a0⟩) k0 4 (inC y):=w9.new
 rw[show(inC y).length=4 from rfl,c0.all (n:=4) (by decide) rfl,oD,(hk.set n0).all (n:=3) (by decide) rfl,oD]
 refine(show o4 Try.prog E w0 a7h [inD y,moD m] _ _ from(c4b hy hm).use ?_)
 rintro v S' ⟨p,q,rfl,g⟩
 have hle:=(Two.le g)
 have c0:=c0.le hle
 have c2:=(hk2.set (o:=⟨4,[inC y],a0⟩) n0).le hle
 have l0:(inC y)[0]? =some (.int .u8 y.op):=rfl
 have l1:(inC y)[1]? =some (.int .i64 y.a):=rfl
 have l3:(roR r)[3]? =some (.int .i64 r.locals):=rfl
 have hS:S.le S':=b7.le_trans (b7.le_new n0) hle
 have fin:∀b:Bool,a9b m r y= !b→d9 E (fun d S'=>d= .bool (!a9b m r y)∧S'=S) (.bool b) S':=fun b h=>by rw[h,Bool.not_not];exact d9.less hS (d9.here ⟨rfl,rfl⟩)
 simp only[exD,List.getElem?_cons_zero,List.getElem?_cons_succ,oD,c9m]
 by_cases c1:(a1l y m).2.2=0
 case neg=>
  simp only[decide_eq_true c1,ne_eq,not_false_eq_true,decide_true,wdB,t1',vdF,oD,pdB,if_true]
  exact fin true (by unfold a9b;rw[decide_eq_false c1];rfl)
 have c1':decide ((a1l y m).2.2≠0)=false:=decide_eq_false (fun h=>h c1)
 have em:a9b m r y= !(decide (y.op=7∨y.op=8)&&decide (r.locals≤y.a)):=by unfold a9b;rw[decide_eq_true c1,Bool.true_and]
 simp only[c1',wdB,t2',vdT,oD,pdB,Bool.false_eq_true,if_false,I3,Nat.zero_add,c0.ld,l0,a4M]
 by_cases c7:y.op=7
 ·simp only[decide_eq_true c7,wdB,t1',t4',vdF,vdT,oD,pdB,if_true,I3,Nat.zero_add,c0.ld,c2.ld,l1,l3,b2j]
  refine fin _ ?_
  rw[em,decide_eq_true (.inl c7),Bool.true_and]
 simp only[decide_eq_false c7,wdB,t2',vdT,oD,pdB,Bool.false_eq_true,if_false,I3,Nat.zero_add,c0.ld,l0,a4M]
 by_cases c8:y.op=8
 ·simp only[decide_eq_true c8,wdB,t4',vdT,oD,pdB,if_true,I3,Nat.zero_add,c0.ld,c2.ld,l1,l3,b2j]
  refine fin _ ?_
  rw[em,decide_eq_true (.inr c8),Bool.true_and]
 ·simp only[decide_eq_false c8,wdB,t3',vdF,oD,pdB,Bool.false_eq_true,if_false]
  exact fin false (by rw[em,decide_eq_false (fun h=>h.elim c7 c8)];rfl)
end
end
section
theorem c7m{α:Type}{p:α→Bool}(l:List α):(l.any fun a=> !p a)= !l.all p:=by rw[←c8X,Bool.not_not]
section
variable{E:m6}{w0:o3}
theorem b7z{m:Mo}(hm:m.Fits){r:Ro}(hr:r.Ok)(hc:r.code.length<2^30):Y7 Try.prog E w0 a1X [moD m, .agg (roR r)] (.bool (a2L m r)):=fun S=>by
 refine b4r ?_
 unfold b0j
 rw[moD,clA,oD]
 intro k a n
 rw[clA,oD]
 intro k2 a2 n2
 obtain⟨ne2,n2'⟩:=b7.fresh n2
 generalize hS3:(S.set k _).set k2 _=S3
 have h2:w9 S3 k2 6 (roR r):=by rw[←hS3];exact w9.new
 have h0:w9 S3 k 3 (moC m):=by rw[←hS3];exact(w9.new).set n2
 have hle:S.le S3:=by rw[←hS3];exact b7.le_set (b7.le_new n) n2'
 have q1:(roR r)[1]? =some (iD r.params):=rfl
 have q2:(roR r)[2]? =some (iD r.results):=rfl
 have q3:(roR r)[3]? =some (.int .i64 r.locals):=rfl
 have q4:(roR r)[4]? =some (.int .i64 r.stack):=rfl
 have q5:(roR r)[5]? =some (bD r.code):=rfl
 have fin:∀b:Bool,a2L m r=b→d9 E (fun d' S'=>d'= .bool (a2L m r)∧S'=S) (.bool b) S3:=fun b h=>by rw[h];exact d9.less hle d9.pure
 have hp:=hr.params
 have hq:=hr.results
 have hmo:=hm.ok
 simp only[oD,I3,Nat.zero_add,h2.ld,q1]
 refine(c2S (p:=fun t=> !Q5 m t) (by omega) fun t ht=>a3D (cs:=[.ptr k 0]) (by kernel_rfl) (b5k hmo (hr.ints t (List.mem_append_left _ ht)) h0)).use fun d S' ⟨g1,g2⟩=> ?_
 subst g1 g2
 rw[c7m]
 cases c1:r.params.all (Q5 m) with
 |false=>
  simp only[Bool.not_false,wdB,t1',vdF,gdF,oD,pdB,if_true,cdT]
  exact fin false (by unfold a2L;rw[c1];rfl)
 |true=>
 simp only[Bool.not_true,wdB,t2',vdT,gdT,oD,h2.ld,I3,Nat.zero_add,q2]
 refine(c2S (p:=fun t=> !Q5 m t) (by omega) fun t ht=>a3D (cs:=[.ptr k 0]) (by kernel_rfl) (b5k hmo (hr.ints t (List.mem_append_right _ ht)) h0)).use fun d S' ⟨g1,g2⟩=> ?_
 subst g1 g2
 rw[c7m]
 cases c2:r.results.all (Q5 m) with
 |false=>
  simp only[Bool.not_false,wdB,t1',vdF,gdF,oD,pdB,Bool.false_eq_true,if_false,if_true,cdT]
  exact fin false (by unfold a2L;rw[c1,c2];rfl)
 |true=>
 simp only[Bool.not_true,wdB,t2',vdT,gdT,oD,pdB,Bool.false_eq_true,if_false,h2.ld,I3,Nat.zero_add,q3,q1,b6U,K3]
 by_cases c3:r.locals<(r.params.length:Int)
 ·simp only[decide_eq_true c3,wdB,t1',vdF,gdF,oD,pdB,if_true,cdT]
  exact fin false (by unfold a2L;rw[c1,c2,decide_eq_true c3];rfl)
 simp only[decide_eq_false c3,wdB,t2',vdT,gdT,oD,pdB,Bool.false_eq_true,if_false,h2.ld,I3,Nat.zero_add,q4,K3]
 rw[M6]
 refine⟨fun c4=>fin false (by unfold a2L;rw[c1,c2,decide_eq_false c3,decide_eq_true c4];rfl),fun c4=> ?_⟩
 rw[q5,oD]
 refine(c8o hr.bytes hc).use ?_
 rw[d2r]
 simp only[exD,List.getElem?_cons_zero,List.getElem?_cons_succ,oD,a4M]
 obtain⟨i1,i2,i3⟩:=d2u (bs:=r.code) hr.bytes
 have e0:a2L m r=(decide ((b2W (b9i r.code)).2.2=0)&&(b2W (b9i r.code)).1.all (a9b m r)):=by unfold a2L;rw[c1,c2,decide_eq_false c3,decide_eq_false c4];rfl
 by_cases c5:(b2W (b9i r.code)).2.2=0
 ·simp only[decide_eq_true c5,wdB,t4',vdT,gdT,oD,pdB,if_true]
  refine(d1e (p:=fun y=> !a9b m r y) (by omega) fun y hy=>a3D (cs:=[.ptr k 0, .ptr k2 0]) (by kernel_rfl) (c3N hm (i1 y hy) h0 h2)).use fun d S' ⟨g1,g2⟩=> ?_
  subst g1 g2
  rw[c7m]
  simp only[unN,oD,vdT,pdB,if_true,Bool.not_not]
  exact fin _ (by rw[e0,decide_eq_true c5,Bool.true_and])
 ·simp only[decide_eq_false c5,wdB,t3',vdF,gdF,oD,pdB,Bool.false_eq_true,if_false]
  exact fin false (by rw[e0,decide_eq_false c5,Bool.false_and])
theorem c0S{f:Tx×Int}{S:b7}:o4 Try.prog E w0 a1K [.agg (a0d f)] S fun d S'=>d= .bool (decide (f.1.length>65536))∧S'=S:=by
 refine a9H ?_
 unfold a4I
 rw[clA,oD]
 intro k0 a0 n0
 have c0:w9 (S.set k0 ⟨2,[a0d f],a0⟩) k0 2 (a0d f):=w9.new
 rw[show(a0d f).length=2 from rfl,I3,oD,c0.ld,show(a0d f)[0+0]? =some (.str f.1) from rfl,oD,lnS,oD,a3z,oD]
 exact d9.drop n0 (d9.here ⟨by rw[decide_eq_decide.2 (show(f.1.length:Int)>65536↔f.1.length>65536 by omega)],rfl⟩)
theorem c0b{t:Tx}{S:b7}:o4 Try.prog E w0 a1J [.str t] S fun d S'=>d= .bool (decide (t.length>65536))∧S'=S:=by
 refine a8Y ?_
 unfold a4L
 rw[lnS,oD,a3z,oD]
 exact d9.here ⟨by rw[decide_eq_decide.2 (show(t.length:Int)>65536↔t.length>65536 by omega)],rfl⟩
theorem gtN(a b:Nat):d8 .gtr (.int .i64 (a:Int)) (.int .i64 (b:Int))=some (.bool (decide (a>b))):=by
 rw[a3z,decide_eq_decide.2 (show(a:Int)>(b:Int)↔a>b by omega)]
theorem a6d{m:Mo}(hm:m.Fits):Y7 Try.prog E w0 R6 [moD m] (.int .i64 (C7 m)):=fun S=>by
 refine b2v ?_
 unfold a6Y
 rw[moD,clA,oD]
 intro k a n
 have h0:w9 (S.set k ⟨3,[moC m],a⟩) k 3 (moC m):=w9.new
 have hle:S.le (S.set k ⟨3,[moC m],a⟩):=b7.le_new n
 rw[show(moC m).length=3 from rfl]
 generalize S.set k ⟨3,[moC m],a⟩=S1 at*
 have hmo:=hm.ok
 have q0:(moC m)[0]? =some (b2X m.types):=rfl
 have q1:(moC m)[1]? =some (b0L m.texts):=rfl
 have q2:(moC m)[2]? =some (b2O m.funcs):=rfl
 have t0:=hm.types
 have t1:=hm.texts
 have t2:=hm.funcs
 have fin:∀ {T:b7} {e:Int},S.le T→C7 m=e→d9 E (fun d' S'=>d'= .int .i64 (C7 m)∧S'=S) (.int .i64 e) T:=fun{T e} hl h=>by rw[h];exact d9.less hl d9.pure
 have g256:∀a:Nat,d8 .gtr (.int .i64 (a:Int)) (.int .i64 256)=some (.bool (decide (a>256))):=fun a=>gtN a 256
 have g32768:∀a:Nat,d8 .gtr (.int .i64 (a:Int)) (.int .i64 32768)=some (.bool (decide (a>32768))):=fun a=>gtN a 32768
 have g65536:∀a:Nat,d8 .gtr (.int .i64 (a:Int)) (.int .i64 65536)=some (.bool (decide (a>65536))):=fun a=>gtN a 65536
 have g32:∀a:Nat,d8 .gtr (.int .i64 (a:Int)) (.int .i64 32)=some (.bool (decide (a>32))):=fun a=>gtN a 32
 have g8:∀a:Nat,d8 .gtr (.int .i64 (a:Int)) (.int .i64 8)=some (.bool (decide (a>8))):=fun a=>gtN a 8
 simp only[I3,oD,Nat.zero_add,h0.ld,q0,a5t,g256]
 by_cases c0:m.types.length>256
 ·simp only[decide_eq_true c0,wdB,t1',vdF,oD,pdB,if_true,cdT]
  exact fin hle (by unfold C7;rw[if_pos (.inl c0)])
 simp only[decide_eq_false c0,wdB,t2',vdT,oD,h0.ld,q1,I3,Nat.zero_add,a8d,g32768,pdB,Bool.false_eq_true,if_false]
 by_cases c1:m.texts.length>32768
 ·simp only[decide_eq_true c1,wdB,t1',vdF,oD,pdB,if_true,cdT]
  exact fin hle (by unfold C7;rw[if_pos (.inr (.inl c1))])
 simp only[decide_eq_false c1,wdB,t2',vdT,oD,h0.ld,q2,I3,Nat.zero_add,a8j,g256,pdB,Bool.false_eq_true,if_false]
 by_cases c2:m.funcs.length>256
 ·simp only[decide_eq_true c2,cdT]
  exact fin hle (by unfold C7;rw[if_pos (.inr (.inr c2))])
 simp only[decide_eq_false c2,cdF]
 have e0:C7 m=if P7 (a4R m) m.types≠0 then P7 (a4R m) m.types else if m.texts.any (fun t=>decide (t.length>65536))=true then 3 else P7 (a8n m) m.funcs:=by
  unfold C7;rw[if_neg (by omega)]
 refine a8K (I:=fun n x1 x24 x25 x26 T=>x1= .ptr k 0∧x24=b2X m.types∧x25= .int .i64 (m.types.length:Int)∧S.le T∧w9 T k 3 (moC m)∧∃i:Nat,x26= .int .i64 (i:Int)∧i+n=m.types.length∧P7 (a4R m) m.types=P7 (a4R m) (m.types.drop i)) ?_ (n:=m.types.length)
  ⟨rfl,rfl,rfl,hle,h0,0,rfl,by omega,rfl⟩
 rintro n _ _ _ _ T ⟨rfl,rfl,rfl,hT,cT,i,rfl,hi,hfi⟩
 unfold a1C
 rw[K3,oD,M6]
 refine⟨fun hlt=> ?_,fun hge=> ?_⟩
 ·have hlt:i<m.types.length:=by omega
  obtain⟨t,ht⟩:∃t,t=m.types[i]:=⟨_,rfl⟩
  have et:m.types[i]? =some t:=by rw[List.getElem?_eq_getElem hlt,ht]
  have htm:t∈m.types:=by rw[ht];exact List.getElem_mem _
  have htok:=hmo.ty t htm
  rw[b7U hlt, ←ht]at hfi
  rw[b5Y et,oD,d3W,oD]
  intro k2 a2 n2
  refine(w9.new (sz:=5) (c:=[(.int .u8 0),(.str []), .nilSlc,(.int .i64 0),(.int .i64 0)])).st (ds:=O4 t) (clA _) ⟨rfl,by decide,by decide⟩ fun a2=> ?_
  rw[b7.set_set,show o8 [(D.int .u8 0),(.str []), .nilSlc,(.int .i64 0),(.int .i64 0)] 0 (O4 t)=O4 t from rfl]
  have c5:w9 (T.set k2 ⟨5,[O4 t],a2⟩) k2 5 (O4 t):=w9.new
  have hT2:S.le (T.set k2 ⟨5,[O4 t],a2⟩):=b7.le_set hT (b7.none_of hT n2)
  have cT2:=cT.set (o:=⟨5,[O4 t],a2⟩) n2
  generalize T.set k2 ⟨5,[O4 t],a2⟩=T2 at*
  have p1:(O4 t)[1]? =some (.str t.name):=rfl
  have p2:(O4 t)[2]? =some (a3e t.fields):=rfl
  have hend:∀b:Bool,a7f t=b→L6 E w0 (fun x1 x24 x25 x26 S_1=>∃m_1,m_1<n∧x1= .ptr k 0∧x24=b2X m.types∧x25= .int .i64 (m.types.length:Int)∧S.le S_1∧w9 S_1 k 3 (moC m)∧∃i:Nat,x26= .int .i64 (i:Int)∧i+m_1=m.types.length∧P7 (a4R m) m.types=P7 (a4R m) (m.types.drop i))
    (d9 E fun d' S'=>d'= .int .i64 (C7 m)∧S'=S) (.ptr k 0) (.ptr k2 0) (b2X m.types) (.int .i64 (m.types.length:Int)) (.int .i64 (i:Int)) (.bool b) T2:=fun b hb=>by
   refine a7Z ?_
   unfold a4u
   cases b with
   |true=>
    rw[cdT]
    have:a4R m t=3:=by unfold a4R;rw[if_pos hb]
    rw[this,if_neg (by decide)]at hfi
    exact fin hT2 (by rw[e0,hfi,if_pos (by decide)])
   |false=>
    rw[cdF,cT2.all (n:=3) (by decide) rfl,oD,c5.all (n:=5) (by decide) rfl,oD]
    refine(show o4 Try.prog E w0 a1Y [moD m, .agg (O4 t)] T2 _ from(b6z hmo htok).use ?_)
    rw[unN,oD,cdB]
    refine⟨fun h=> ?_,fun h=> ?_⟩
    ·have h:W6 m t=false:=by simpa using h
     have:a4R m t=130:=by unfold a4R;rw[if_neg (by rw[hb];simp),if_neg (by rw[h];simp)]
     rw[this,if_neg (by decide)]at hfi
     exact fin hT2 (by rw[e0,hfi,if_pos (by decide)])
    ·have h:W6 m t=true:=by simpa using h
     have:a4R m t=0:=by unfold a4R;rw[if_neg (by rw[hb];simp),if_pos h]
     rw[this,if_pos rfl]at hfi
     rw[E2,oD,m7 (by omega) (by omega)]
     exact⟨n - 1,by omega,rfl,rfl,rfl,hT2,cT2,i+1,rfl,by omega,hfi⟩
  simp only[I3,oD,Nat.zero_add,c5.ld,p2,a1y,g32]
  by_cases d1:t.fields.length>32
  ·rw[decide_eq_true d1,cdT]
   exact hend true (by unfold a7f;rw[decide_eq_true d1];rfl)
  rw[decide_eq_false d1,cdF]
  simp only[p1,lnS,oD,g65536]
  by_cases d2:t.name.length>65536
  ·rw[decide_eq_true d2,cdT]
   exact hend true (by unfold a7f;rw[decide_eq_true d2];simp)
  rw[decide_eq_false d2,cdF]
  have hfl:=htok.fields
  refine(c2M (p:=fun f=>decide (f.1.length>65536)) (by omega) fun f hf=>a3D (cs:=[]) (by kernel_rfl) c0S).use fun d S' ⟨g1,g2⟩=> ?_
  subst g1 g2
  exact hend _ (by unfold a7f;rw[decide_eq_false d1,decide_eq_false d2];rfl)
 have hi:i=m.types.length:=by omega
 subst hi
 rw[List.drop_length,P7]at hfi
 rw[hfi,if_neg (by simp)]at e0
 simp only[I3,oD,cT.ld,q1]
 refine(c9Q (p:=fun t=>decide (t.length>65536)) (by omega) fun t ht=>a3D (cs:=[]) (by kernel_rfl) c0b).use fun d S' ⟨g1,g2⟩=> ?_
 subst g1 g2
 rw[cdB]
 refine⟨fun h=>fin hT (by rw[e0,if_pos h]),fun h=> ?_⟩
 rw[if_neg (by rw[h];simp)]at e0
 simp only[I3,oD,cT.ld,q2,a8j]
 refine a9d (I:=fun n x1 x52 x53 x54 T=>x1= .ptr k 0∧x52=b2O m.funcs∧x53= .int .i64 (m.funcs.length:Int)∧S.le T∧w9 T k 3 (moC m)∧∃i:Nat,x54= .int .i64 (i:Int)∧i+n=m.funcs.length∧P7 (a8n m) m.funcs=P7 (a8n m) (m.funcs.drop i)) ?_ (n:=m.funcs.length)
  ⟨rfl,rfl,rfl,hT,cT,0,rfl,by omega,rfl⟩
 rintro n _ _ _ _ T ⟨rfl,rfl,rfl,hT,cT,i,rfl,hi,hfi⟩
 unfold a1D
 rw[K3,oD,M6]
 refine⟨fun hlt=> ?_,fun hge=> ?_⟩
 ·have hlt:i<m.funcs.length:=by omega
  obtain⟨t,ht⟩:∃t,t=m.funcs[i]:=⟨_,rfl⟩
  have et:m.funcs[i]? =some t:=by rw[List.getElem?_eq_getElem hlt,ht]
  have htm:t∈m.funcs:=by rw[ht];exact List.getElem_mem _
  have htok:=hmo.ro t htm
  obtain⟨b1,b2,b3⟩:=hm.params t htm
  rw[b7U hlt, ←ht]at hfi
  rw[b9m et,oD,d4g,oD]
  intro k2 a2 n2
  refine(w9.new (sz:=6) (c:=[(.str []), .nilSlc, .nilSlc,(.int .i64 0),(.int .i64 0), .nilSlc])).st (ds:=roR t) (clA _) ⟨rfl,by decide,by decide⟩ fun a2=> ?_
  rw[b7.set_set,show o8 [(D.str []), .nilSlc, .nilSlc,(.int .i64 0),(.int .i64 0), .nilSlc] 0 (roR t)=roR t from rfl]
  have c6:w9 (T.set k2 ⟨6,[roR t],a2⟩) k2 6 (roR t):=w9.new
  have hT2:S.le (T.set k2 ⟨6,[roR t],a2⟩):=b7.le_set hT (b7.none_of hT n2)
  have cT2:=cT.set (o:=⟨6,[roR t],a2⟩) n2
  generalize T.set k2 ⟨6,[roR t],a2⟩=T2 at*
  have p0:(roR t)[0]? =some (.str t.name):=rfl
  have p1:(roR t)[1]? =some (iD t.params):=rfl
  have p2:(roR t)[2]? =some (iD t.results):=rfl
  have p3:(roR t)[3]? =some (.int .i64 t.locals):=rfl
  have p4:(roR t)[4]? =some (.int .i64 t.stack):=rfl
  have p5:(roR t)[5]? =some (bD t.code):=rfl
  have hend:∀b:Bool,a2W t=b→C3 E w0 (fun x1 x52 x53 x54 S_1=>∃m_1,m_1<n∧x1= .ptr k 0∧x52=b2O m.funcs∧x53= .int .i64 (m.funcs.length:Int)∧S.le S_1∧w9 S_1 k 3 (moC m)∧∃i:Nat,x54= .int .i64 (i:Int)∧i+m_1=m.funcs.length∧P7 (a8n m) m.funcs=P7 (a8n m) (m.funcs.drop i))
    (d9 E fun d' S'=>d'= .int .i64 (C7 m)∧S'=S) (.ptr k 0) (.ptr k2 0) (b2O m.funcs) (.int .i64 (m.funcs.length:Int)) (.int .i64 (i:Int)) (.bool b) T2:=fun b hb=>by
   refine a7X ?_
   unfold a4v
   cases b with
   |true=>
    rw[cdT]
    have:a8n m t=3:=by unfold a8n;rw[if_pos hb]
    rw[this,if_neg (by decide)]at hfi
    exact fin hT2 (by rw[e0,hfi])
   |false=>
    rw[cdF,cT2.all (n:=3) (by decide) rfl,oD,c6.all (n:=6) (by decide) rfl,oD]
    refine(show o4 Try.prog E w0 a1X [moD m, .agg (roR t)] T2 _ from(b7z hm htok b3).use ?_)
    rw[unN,oD,cdB]
    refine⟨fun h=> ?_,fun h=> ?_⟩
    ·have h:a2L m t=false:=by simpa using h
     have:a8n m t=130:=by unfold a8n;rw[if_neg (by rw[hb];simp),if_neg (by rw[h];simp)]
     rw[this,if_neg (by decide)]at hfi
     exact fin hT2 (by rw[e0,hfi])
    ·have h:a2L m t=true:=by simpa using h
     have:a8n m t=0:=by unfold a8n;rw[if_neg (by rw[hb];simp),if_pos h]
     rw[this,if_pos rfl]at hfi
     rw[E2,oD,m7 (by omega) (by omega)]
     exact⟨n - 1,by omega,rfl,rfl,rfl,hT2,cT2,i+1,rfl,by omega,hfi⟩
  simp only[I3,oD,Nat.zero_add,c6.ld,p1,b6U,g32]
  by_cases d1:t.params.length>32
  ·rw[decide_eq_true d1,cdT]
   exact hend true (by unfold a2W;rw[decide_eq_true d1];simp)
  rw[decide_eq_false d1,cdF]
  simp only[p2,b6U,oD,g8]
  by_cases d2:t.results.length>8
  ·rw[decide_eq_true d2,cdT]
   exact hend true (by unfold a2W;rw[decide_eq_true d2];simp)
  rw[decide_eq_false d2,cdF]
  simp only[p3,oD,a3z]
  by_cases d3:t.locals>256
  ·rw[decide_eq_true d3,cdT]
   exact hend true (by unfold a2W;rw[decide_eq_true d3];simp)
  rw[decide_eq_false d3,cdF]
  simp only[p4,oD,a3z]
  by_cases d4:t.stack>4096
  ·rw[decide_eq_true d4,cdT]
   exact hend true (by unfold a2W;rw[decide_eq_true d4];simp)
  rw[decide_eq_false d4,cdF]
  simp only[p5,L9,oD,g65536]
  by_cases d5:t.code.length>65536
  ·rw[decide_eq_true d5,cdT]
   exact hend true (by unfold a2W;rw[decide_eq_true d5];simp)
  rw[decide_eq_false d5,cdF]
  simp only[p0,lnS,oD,g65536]
  exact hend _ (by unfold a2W;rw[decide_eq_false d1,decide_eq_false d2,decide_eq_false d3,decide_eq_false d4,decide_eq_false d5];rfl)
 ·have hi:i=m.funcs.length:=by omega
  subst hi
  rw[List.drop_length,P7]at hfi
  exact fin hT (by rw[e0,hfi])
end
end
end Go.Proofs.Ytchnpgddpaonhaa.d
end
