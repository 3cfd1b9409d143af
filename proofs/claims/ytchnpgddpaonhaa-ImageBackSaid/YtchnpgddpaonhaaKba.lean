/-
  ImageBackSaid: part Kba of its proof.
-/
import Derived.Test.YtchnpgddpaonhaaKax
import Derived.Test.YtchnpgddpaonhaaKaz
set_option linter.unusedVariables false
set_option linter.unusedSimpArgs false
set_option maxRecDepth 100000
section
open Go.Proofs Go Go.Am Go.Op
namespace Go.Proofs.Ytchnpgddpaonhaa.d
section
def Q1(m:Mo)(t:Int):Bool:=decide (1≤t∧t≤5)||decide (16≤t∧t - 16<m.types.length)
def b8L(m:Mo)(t:Ty):Bool:=decide (t.name=[])&&decide (t.fields.length=0)&&Q1 m t.elem
def W7(m:Mo)(t:Ty):Bool:=
 if t.kind=6 then decide (t.elem=0)&&decide (t.len=0)&&t.fields.all fun f=>Q1 m f.2
 else if t.kind=7 then b8L m t&&decide (0≤t.len∧t.len≤65536)
 else if t.kind=8 then b8L m t&&decide (t.len=0) else false
def a9m(m:Mo)(r:Ro)(y:In):Bool:=decide ((a1o y m).2.2=0)&& !(decide (y.op=7∨y.op=8)&&decide (r.locals≤y.a))
def a2O(m:Mo)(r:Ro):Bool:=
 r.params.all (Q1 m)&&r.results.all (Q1 m)&& !decide (r.locals<r.params.length)&& !decide (r.stack<0)&&
  decide ((b3B (b9u r.code)).2.2=0)&&(b3B (b9u r.code)).1.all (a9m m r)
section
variable{E:m7}{w0:o0}
def a5y(E:m7)(w0:o0)(S:b7)(fv d:D)(b:Bool):Prop:=∀K:D→b7→Prop,K (.bool b) S→a2f Try.prog (o5 Try.prog E w0) S fv [d] K
theorem a4h{f:FuncId}(hf:a9I Try.prog f=true){cs:List D}{d:D}{b:Bool}{S:b7}(h:o5 Try.prog E w0 f (d::cs) S fun d' S'=>d'= .bool b∧S'=S):a5y E w0 S (.fn (.func f) [] cs) d b:=fun K hK=>by
 simp only[a2f,b1C,hf,List.nil_append,List.singleton_append,if_true]
 refine h.use fun d' S' ⟨h1,h2⟩=> ?_
 subst h1 h2
 exact hK
def c2c{α:Type}(p:α→Bool)(l:List α):Int:=match l.findIdx? p with
 |some i=>(i:Int)
 |none=> -1
theorem c4s{α:Type}{p:α→Bool}{l:List α}{i:Nat}(h:(l.take i).any p=false)(hi:i≤l.length):l.findIdx? p=((l.drop i).findIdx? p).map (· +i):=by
 induction l generalizing i with
 |nil=>simp
 |cons a l ih=>
  cases i with
  |zero=>simp
  |succ i=>
   simp only[List.take_succ_cons,List.any_cons,Bool.or_eq_false_iff]at h
   rw[List.drop_succ_cons,List.findIdx?_cons,h.1]
   simp only[Bool.false_eq_true,if_false,ih h.2 (by simpa using hi),Option.map_map]
   cases (l.drop i).findIdx? p<;>simp[Function.comp];omega
theorem c0m{α:Type}{p:α→Bool}{l:List α}:decide (c2c p l≥0)=l.any p:=by
 unfold c2c
 cases h:l.findIdx? p with
 |none=>
  have:∀a∈l,p a=false:=by simpa [List.findIdx?_eq_none_iff]using h
  have:l.any p=false:=by rw[List.any_eq_false];intro a ha;simp[this a ha]
  rw[this];rfl
 |some i=>
  have hi:=List.findIdx?_eq_some_iff_getElem.1 h
  obtain⟨h1,h2,_⟩:=hi
  have:l.any p=true:=List.any_eq_true.2 ⟨_,List.getElem_mem h1,h2⟩
  rw[this]
  exact decide_eq_true (by simp)
theorem b6O{α:Type}{p:α→Bool}{l:List α}{i:Nat}(h:(l.take i).any p=false)(hi:i<l.length):(p l[i]=true→c2c p l=(i:Int))∧(p l[i]=false→(l.take (i+1)).any p=false):=by
 constructor
 ·intro hp
  unfold c2c
  rw[c4s h (by omega),List.drop_eq_getElem_cons hi,List.findIdx?_cons,hp]
  simp
 ·intro hp
  rw[List.take_add_one,List.getElem?_eq_getElem hi,List.any_append,h]
  simpa using hp
theorem c0k{α:Type}{p:α→Bool}{l:List α}(h:l.any p=false):c2c p l= -1:=by
 unfold c2c
 have:l.findIdx? p=none:=by
  rw[List.findIdx?_eq_none_iff]
  intro a ha
  have:=List.any_eq_false.1 h a ha
  simpa using this
 rw[this]
theorem c7m{l:List (Tx×Int)}{p:Tx×Int→Bool}{fv:D}(hl:l.length<2^60){S:b7}(hp:∀y∈l,a5y E w0 S fv (.agg (U4 y)) (p y)):o5 Try.prog E w0 M7 [a0U l,fv] S fun d S'=>d= .int .i64 (c2c p l)∧S'=S:=by
 refine a3A ?_
 unfold a0z
 rw[Y5,oD]
 refine a2M (I:=fun n x0 x1 x7 x8 T=>S=T∧x0=a0U l∧fv=x1∧x7= .int .i64 (l.length:Int)∧∃i:Nat,x8= .int .i64 (i:Int)∧i+n=l.length∧(l.take i).any p=false) ?_ (n:=l.length) ⟨rfl,rfl,rfl,rfl,0,rfl,by omega,rfl⟩
 rintro n _ _ _ _ _ ⟨rfl,rfl,rfl,rfl,i,rfl,hi,ht⟩
 unfold K2
 rw[J0,oD,J6]
 refine⟨fun hlt=> ?_,fun hge=> ?_⟩
 ·have hlt:i<l.length:=by omega
  obtain⟨s1,s2⟩:=b6O ht hlt
  rw[a6S (List.getElem?_eq_getElem hlt),oD,c9C,oD]
  refine hp _ (List.getElem_mem _) _ ?_
  rw[cdB]
  refine⟨fun h=>d9.here ⟨by rw[s1 h],rfl⟩,fun h=> ?_⟩
  rw[C4,oD,m8 (by omega) (by omega)]
  exact⟨n - 1,by omega,rfl,rfl,rfl,rfl,i+1,rfl,by omega,s2 h⟩
 ·rw[List.take_of_length_le (by omega)]at ht
  exact d9.here ⟨by rw[c0k ht],rfl⟩
theorem c6j{l:List Tx}{p:Tx→Bool}{fv:D}(hl:l.length<2^60){S:b7}(hp:∀y∈l,a5y E w0 S fv (.str y) (p y)):o5 Try.prog E w0 Q3 [b0Y l,fv] S fun d S'=>d= .int .i64 (c2c p l)∧S'=S:=by
 refine a5d ?_
 unfold a1G
 rw[a4H,oD]
 refine a4c (I:=fun n x0 x1 x7 x8 T=>S=T∧x0=b0Y l∧fv=x1∧x7= .int .i64 (l.length:Int)∧∃i:Nat,x8= .int .i64 (i:Int)∧i+n=l.length∧(l.take i).any p=false) ?_ (n:=l.length) ⟨rfl,rfl,rfl,rfl,0,rfl,by omega,rfl⟩
 rintro n _ _ _ _ _ ⟨rfl,rfl,rfl,rfl,i,rfl,hi,ht⟩
 unfold O0
 rw[J0,oD,J6]
 refine⟨fun hlt=> ?_,fun hge=> ?_⟩
 ·have hlt:i<l.length:=by omega
  obtain⟨s1,s2⟩:=b6O ht hlt
  rw[b6J (List.getElem?_eq_getElem hlt),oD,lsE,List.getElem?_cons_zero,oD]
  refine hp _ (List.getElem_mem _) _ ?_
  rw[cdB]
  refine⟨fun h=>d9.here ⟨by rw[s1 h],rfl⟩,fun h=> ?_⟩
  rw[C4,oD,m8 (by omega) (by omega)]
  exact⟨n - 1,by omega,rfl,rfl,rfl,rfl,i+1,rfl,by omega,s2 h⟩
 ·rw[List.take_of_length_le (by omega)]at ht
  exact d9.here ⟨by rw[c0k ht],rfl⟩
theorem c7D{l:List Int}{p:Int→Bool}{fv:D}(hl:l.length<2^60){S:b7}(hp:∀y∈l,a5y E w0 S fv (.int .i64 y) (p y)):o5 Try.prog E w0 a0k [iD l,fv] S fun d S'=>d= .int .i64 (c2c p l)∧S'=S:=by
 refine a7i ?_
 unfold a2Z
 rw[b1R,oD]
 refine a5E (I:=fun n x0 x1 x7 x8 T=>S=T∧x0=iD l∧fv=x1∧x7= .int .i64 (l.length:Int)∧∃i:Nat,x8= .int .i64 (i:Int)∧i+n=l.length∧(l.take i).any p=false) ?_ (n:=l.length) ⟨rfl,rfl,rfl,rfl,0,rfl,by omega,rfl⟩
 rintro n _ _ _ _ _ ⟨rfl,rfl,rfl,rfl,i,rfl,hi,ht⟩
 unfold U5
 rw[J0,oD,J6]
 refine⟨fun hlt=> ?_,fun hge=> ?_⟩
 ·have hlt:i<l.length:=by omega
  obtain⟨s1,s2⟩:=b6O ht hlt
  rw[d0e (List.getElem?_eq_getElem hlt),oD,lsE,List.getElem?_cons_zero,oD]
  refine hp _ (List.getElem_mem _) _ ?_
  rw[cdB]
  refine⟨fun h=>d9.here ⟨by rw[s1 h],rfl⟩,fun h=> ?_⟩
  rw[C4,oD,m8 (by omega) (by omega)]
  exact⟨n - 1,by omega,rfl,rfl,rfl,rfl,i+1,rfl,by omega,s2 h⟩
 ·rw[List.take_of_length_le (by omega)]at ht
  exact d9.here ⟨by rw[c0k ht],rfl⟩
theorem d6p(S:b7)(y:In):j0 S 4 (.elt (inC y) 0)=some (.agg (inC y)):=rfl
theorem d2b{l:List In}{i:Nat}{y:In}(h:l[i]? =some y):A0 4 (c0R l) (.int .i64 (i:Int))=some (.elt (inC y) 0):=b5P (by rw[List.getElem?_map,h];rfl)
theorem c8I{l:List In}{p:In→Bool}{fv:D}(hl:l.length<2^60){S:b7}(hp:∀y∈l,a5y E w0 S fv (inD y) (p y)):o5 Try.prog E w0 M3 [c0R l,fv] S fun d S'=>d= .int .i64 (c2c p l)∧S'=S:=by
 refine a3z ?_
 unfold a0u
 rw[show p7 (c0R l)=some (.int .i64 (l.length:Int)) by simp[c0R],oD]
 refine a2L (I:=fun n x0 x1 x7 x8 T=>S=T∧x0=c0R l∧fv=x1∧x7= .int .i64 (l.length:Int)∧∃i:Nat,x8= .int .i64 (i:Int)∧i+n=l.length∧(l.take i).any p=false) ?_ (n:=l.length) ⟨rfl,rfl,rfl,rfl,0,rfl,by omega,rfl⟩
 rintro n _ _ _ _ _ ⟨rfl,rfl,rfl,rfl,i,rfl,hi,ht⟩
 unfold J7
 rw[J0,oD,J6]
 refine⟨fun hlt=> ?_,fun hge=> ?_⟩
 ·have hlt:i<l.length:=by omega
  obtain⟨s1,s2⟩:=b6O ht hlt
  rw[d2b (List.getElem?_eq_getElem hlt),oD,d6p,oD]
  refine hp _ (List.getElem_mem _) _ ?_
  rw[cdB]
  refine⟨fun h=>d9.here ⟨by rw[s1 h],rfl⟩,fun h=> ?_⟩
  rw[C4,oD,m8 (by omega) (by omega)]
  exact⟨n - 1,by omega,rfl,rfl,rfl,rfl,i+1,rfl,by omega,s2 h⟩
 ·rw[List.take_of_length_le (by omega)]at ht
  exact d9.here ⟨by rw[c0k ht],rfl⟩
theorem c4j{l:List (Tx×Int)}{p:Tx×Int→Bool}{fv:D}(hl:l.length<2^60){S:b7}(hp:∀y∈l,a5y E w0 S fv (.agg (U4 y)) (p y)):o5 Try.prog E w0 C2 [a0U l,fv] S fun d S'=>d= .bool (l.any p)∧S'=S:=by
 refine a2m ?_
 unfold X4
 refine(c7m hl hp).use fun d S' ⟨h1,h2⟩=> ?_
 subst h1 h2
 rw[b3b,oD,c0m];exact d9.here ⟨rfl,rfl⟩
theorem d0B{l:List Tx}{p:Tx→Bool}{fv:D}(hl:l.length<2^60){S:b7}(hp:∀y∈l,a5y E w0 S fv (.str y) (p y)):o5 Try.prog E w0 M5 [b0Y l,fv] S fun d S'=>d= .bool (l.any p)∧S'=S:=by
 refine a3x ?_
 unfold a0A
 refine(c6j hl hp).use fun d S' ⟨h1,h2⟩=> ?_
 subst h1 h2
 rw[b3b,oD,c0m];exact d9.here ⟨rfl,rfl⟩
theorem c4g{l:List Int}{p:Int→Bool}{fv:D}(hl:l.length<2^60){S:b7}(hp:∀y∈l,a5y E w0 S fv (.int .i64 y) (p y)):o5 Try.prog E w0 J1 [iD l,fv] S fun d S'=>d= .bool (l.any p)∧S'=S:=by
 refine a5f ?_
 unfold a1F
 refine(c7D hl hp).use fun d S' ⟨h1,h2⟩=> ?_
 subst h1 h2
 rw[b3b,oD,c0m];exact d9.here ⟨rfl,rfl⟩
theorem d1F{l:List In}{p:In→Bool}{fv:D}(hl:l.length<2^60){S:b7}(hp:∀y∈l,a5y E w0 S fv (inD y) (p y)):o5 Try.prog E w0 I9 [c0R l,fv] S fun d S'=>d= .bool (l.any p)∧S'=S:=by
 refine a2j ?_
 unfold X3
 refine(c8I hl hp).use fun d S' ⟨h1,h2⟩=> ?_
 subst h1 h2
 rw[b3b,oD,c0m];exact d9.here ⟨rfl,rfl⟩
theorem t1':(true==false)=false:=rfl
theorem t2':(false==false)=true:=rfl
theorem t3':(false==true)=false:=rfl
theorem t4':(true==true)=true:=rfl
theorem a6n{m:Mo}(hm:m.Ok){t:Int}(ht:I64 t):X6 Try.prog E w0 X1 [moD m, .int .i64 t] (.bool (Q1 m t)):=fun S=>by
 refine b7o ?_
 unfold b3Y
 rw[moD,clA,oD]
 intro k a n
 have h0:w7 (S.set k ⟨3,[moC m],a⟩) k 3 (moC m):=w7.new
 rw[show(moC m).length=3 from rfl]
 have h2:=hm.types
 obtain⟨i1,i2⟩:=ht
 have ld:b9 (S.set k ⟨3,[moC m],a⟩) (.ptr k 0)=some (b3J m.types):=h0.ld 0
 have fin:∀b:Bool,Q1 m t=b→d9 E (fun d' S'=>d'= .bool (Q1 m t)∧S'=S) (.bool b) (S.set k ⟨3,[moC m],a⟩):=fun b h=>by rw[h];exact d9.drop n d9.pure
 rw[d1E,oD]
 by_cases c1:1≤t
 ·simp only[decide_eq_true c1,R7,t4',vdT,oD,U3,if_true,d1E]
  by_cases c2:t≤5
  ·simp only[decide_eq_true c2,R7,t1',vdF,oD,U3,if_true]
   exact fin true (by unfold Q1;rw[decide_eq_true ⟨c1,c2⟩];rfl)
  ·simp only[decide_eq_false c2,R7,t2',vdT,oD,U3,Bool.false_eq_true,if_false,b3b]
   by_cases c3:t≥16
   ·simp only[decide_eq_true c3,R7,t4',vdT,oD,U3,if_true,b0O,H5,Nat.zero_add,ld,a3l,J0]
    rw[m8 (by omega) (by omega)]
    refine fin _ ?_
    unfold Q1
    rw[decide_eq_false (fun h=>c2 h.2),Bool.false_or]
    exact decide_eq_decide.2 ⟨fun h=>h.2,fun h=>⟨c3,h⟩⟩
   ·simp only[decide_eq_false c3,R7,t3',vdF,oD,U3,Bool.false_eq_true,if_false]
    exact fin false (by unfold Q1;rw[decide_eq_false (fun h=>c2 h.2),decide_eq_false (fun h=>c3 h.1)];rfl)
 ·have c3:¬t≥16:=by omega
  simp only[decide_eq_false c1,R7,t3',t2',vdT,vdF,oD,U3,Bool.false_eq_true,if_false,b3b,decide_eq_false c3]
  exact fin false (by unfold Q1;rw[decide_eq_false (fun h=>c1 h.1),decide_eq_false (fun h=>c3 h.1)];rfl)
end
end
section
def a7l(t:Ty):Bool:=decide (t.fields.length>32)||decide (t.name.length>65536)||t.fields.any fun f=>decide (f.1.length>65536)
def a3g(r:Ro):Bool:=decide (r.params.length>32)||decide (r.results.length>8)||decide (r.locals>256)||decide (r.stack>4096)||decide (r.code.length>65536)||decide (r.name.length>65536)
def a5g(m:Mo)(t:Ty):Int:=if a7l t=true then 3 else if W7 m t=true then 0 else 130
def a8E(m:Mo)(r:Ro):Int:=if a3g r=true then 3 else if a2O m r=true then 0 else 130
def O7{α:Type}(f:α→Int):List α→Int
 | []=>0
 |a::l=>if f a=0 then O7 f l else f a
theorem b8V{α:Type}{f:α→Int}{l:List α}{i:Nat}(hi:i<l.length):O7 f (l.drop i)=if f l[i]=0 then O7 f (l.drop (i+1)) else f l[i]:=by
 rw[List.drop_eq_getElem_cons hi,O7]
def E5(m:Mo):Int:=
 if m.types.length>256∨m.texts.length>32768∨m.funcs.length>256 then 3
 else if O7 (a5g m) m.types≠0 then O7 (a5g m) m.types
 else if m.texts.any (fun t=>decide (t.length>65536))=true then 3 else O7 (a8E m) m.funcs
theorem c9v{α:Type}{p:α→Bool}(l:List α):(!l.any fun a=> !p a)=l.all p:=by
 induction l with
 |nil=>rfl
 |cons a l ih=>rw[List.any_cons,List.all_cons, ←ih];cases p a<;>simp
section
variable{E:m7}{w0:o0}
theorem c5f{m:Mo}(hm:m.Ok){f:Tx×Int}(hf:I64 f.2){S:b7}{k:Nat}(hk:w7 S k 3 (moC m)):o5 Try.prog E w0 a0V [.agg (U4 f), .ptr k 0] S fun d S'=>d= .bool (!Q1 m f.2)∧S'=S:=by
 refine b1y ?_
 unfold a7E
 rw[clA,oD]
 intro k0 a0 n0
 have c0:w7 (S.set k0 ⟨2,[U4 f],a0⟩) k0 2 (U4 f):=w7.new
 rw[show(U4 f).length=2 from rfl,(hk.set n0).all (n:=3) (by decide) rfl,oD,H5,oD,c0.ld,show(U4 f)[0+1]? =some (.int .i64 f.2) from rfl,oD]
 refine(a6n hm hf).use ?_
 rw[unN,oD]
 exact d9.drop n0 (d9.here ⟨rfl,rfl⟩)
theorem c4J{m:Mo}{t:Ty}:b8L m t=(decide (t.name=[])&&decide (t.fields.length=0)&&Q1 m t.elem):=rfl
theorem b7I{m:Mo}(hm:m.Ok){t:Ty}(ht:t.Ok):X6 Try.prog E w0 a1Y [moD m, .agg (M1 t)] (.bool (W7 m t)):=fun S=>by
 refine b5d ?_
 unfold b0Q
 rw[moD,clA,oD]
 intro k a n
 rw[clA,oD]
 intro k2 a2 n2
 obtain⟨ne2,n2'⟩:=b7.fresh n2
 generalize hS3:(S.set k _).set k2 _=S3
 have h2:w7 S3 k2 5 (M1 t):=by rw[←hS3];exact w7.new
 have h0:w7 S3 k 3 (moC m):=by rw[←hS3];exact(w7.new).set n2
 have hle:S.le S3:=by rw[←hS3];exact b7.le_set (b7.le_new n) n2'
 have q0:(M1 t)[0]? =some (.int .u8 t.kind):=rfl
 have q1:(M1 t)[1]? =some (.str t.name):=rfl
 have q2:(M1 t)[2]? =some (a0U t.fields):=rfl
 have q3:(M1 t)[3]? =some (.int .i64 t.elem):=rfl
 have q4:(M1 t)[4]? =some (.int .i64 t.len):=rfl
 have fin:∀b:Bool,W7 m t=b→d9 E (fun d' S'=>d'= .bool (W7 m t)∧S'=S) (.bool b) S3:=fun b h=>by rw[h];exact d9.less hle d9.pure
 have hfl:=ht.fields
 have beqN:∀a:Tx,b5U .eql (.str a) (.str [])=some (.bool (decide (a=[]))):=fun a=>by rw[d3l,d0A]
 have lc:decide ((t.fields.length:Int)=0)=decide (t.fields.length=0):=decide_eq_decide.2 (by omega)
 simp only[H5,oD,Nat.zero_add,h2.ld,q1,beqN]
 have rest:∀(b:Bool),b=b8L m t→
   (a9 (b9 S3 (.ptr k2 0)) fun v19=>a9 (d8 .eql v19 (.int .u8 6)) fun v20=>j8 v20
    (a9 (b9 S3 (.ptr k2 3)) fun v22=>a9 (d8 .eql v22 (.int .i64 0)) fun v23=>a9 (f0 (d6 v23 true) (m6 4 (.ptr k2 0))) fun v24=>a9 (f0 (d6 v23 true) (b9 S3 v24)) fun v25=>a9 (f0 (d6 v23 true) (d8 .eql v25 (.int .i64 0))) fun v26=>a9 (t8 v23 v26 (.bool false)) fun v27=>
     a9 (f0 (d6 v27 true) (m6 2 (.ptr k2 0))) fun v28=>a9 (f0 (d6 v27 true) (b9 S3 v28)) fun v29=>a9 (f0 (d6 v27 true) (some (.fn (.func a0V) [] [.ptr k 0]))) fun v30=>
     a0N (d6 v27 true) (fun K=>o5 Try.prog E w0 C2 [v29,v30] S3 K) S3 fun v31 S32=>a9 (f0 (d6 v27 true) (unD .not v31)) fun v33=>a9 (t8 v27 v33 (.bool false)) fun v34=>d9 E (fun d' S'=>d'= .bool (W7 m t)∧S'=S) v34 S32)
    (a9 (d8 .eql v19 (.int .u8 7)) fun v35=>j8 v35
     (a9 (f0 (d6 (.bool b) true) (m6 4 (.ptr k2 0))) fun v36=>a9 (f0 (d6 (.bool b) true) (b9 S3 v36)) fun v37=>a9 (f0 (d6 (.bool b) true) (d8 .geq v37 (.int .i64 0))) fun v38=>a9 (t8 (.bool b) v38 (.bool false)) fun v39=>
      a9 (f0 (d6 v39 true) (m6 4 (.ptr k2 0))) fun v40=>a9 (f0 (d6 v39 true) (b9 S3 v40)) fun v41=>a9 (f0 (d6 v39 true) (d8 .leq v41 (.int .i64 65536))) fun v42=>a9 (t8 v39 v42 (.bool false)) fun v43=>d9 E (fun d' S'=>d'= .bool (W7 m t)∧S'=S) v43 S3)
     (a9 (d8 .eql v19 (.int .u8 8)) fun v44=>j8 v44
      (a9 (f0 (d6 (.bool b) true) (m6 4 (.ptr k2 0))) fun v45=>a9 (f0 (d6 (.bool b) true) (b9 S3 v45)) fun v46=>a9 (f0 (d6 (.bool b) true) (d8 .eql v46 (.int .i64 0))) fun v47=>a9 (t8 (.bool b) v47 (.bool false)) fun v48=>d9 E (fun d' S'=>d'= .bool (W7 m t)∧S'=S) v48 S3)
      (d9 E (fun d' S'=>d'= .bool (W7 m t)∧S'=S) (.bool false) S3)))):=fun b hb=>by
  rw[h2.ld,q0,oD,a5k,oD,J6]
  refine⟨fun k6=> ?_,fun k6=> ?_⟩
  ·have e6:W7 m t=(decide (t.elem=0)&&decide (t.len=0)&&t.fields.all fun f=>Q1 m f.2):=by unfold W7;rw[if_pos k6]
   simp only[h2.ld,q3,oD,a5k]
   by_cases c1:t.elem=0
   case neg=>simp only[decide_eq_false c1,R7,t3',vdF,gdF,oD,U3,Bool.false_eq_true,if_false];exact fin false (by rw[e6,decide_eq_false c1];rfl)
   simp only[decide_eq_true c1,R7,t4',vdT,oD,U3,if_true,H5,Nat.zero_add,h2.ld,q4,a5k]
   by_cases c2:t.len=0
   case neg=>simp only[decide_eq_false c2,R7,t3',vdF,gdF,oD,U3,Bool.false_eq_true,if_false];exact fin false (by rw[e6,decide_eq_false c2,Bool.and_false];rfl)
   simp only[decide_eq_true c2,R7,t4',vdT,gdT,oD,U3,if_true,H5,Nat.zero_add,h2.ld,q2]
   refine(c4j (p:=fun f=> !Q1 m f.2) (by omega) fun f hf=>a4h (cs:=[.ptr k 0]) (by kernel_rfl) (c5f hm (ht.names f hf).2 h0)).use fun d S' ⟨h1,h2⟩=> ?_
   subst h1 h2
   simp only[unN,oD,vdT,U3,if_true]
   refine fin _ ?_
   rw[e6,decide_eq_true c1,decide_eq_true c2,c9v];rfl
  rw[a5k,oD,J6]
  refine⟨fun k7=> ?_,fun k7=> ?_⟩
  ·have e7:W7 m t=(b8L m t&&decide (0≤t.len∧t.len≤65536)):=by unfold W7;rw[if_neg k6,if_pos k7]
   rw[←hb]at e7
   cases b with
   |false=>simp only[R7,t3',vdF,gdF,oD,U3,Bool.false_eq_true,if_false];exact fin false (by rw[e7];rfl)
   |true=>
    simp only[R7,t4',vdT,oD,U3,if_true,H5,Nat.zero_add,h2.ld,q4,b3b]
    by_cases c1:t.len≥0
    ·simp only[decide_eq_true c1,R7,t4',vdT,oD,U3,if_true,H5,Nat.zero_add,h2.ld,q4,d1E]
     exact fin _ (by rw[e7,Bool.true_and];exact decide_eq_decide.2 ⟨fun h=>h.2,fun h=>⟨c1,h⟩⟩)
    ·simp only[decide_eq_false c1,R7,t3',vdF,oD,U3,Bool.false_eq_true,if_false]
     exact fin false (by rw[e7,decide_eq_false (fun h=>c1 h.1)];rfl)
  rw[a5k,oD,J6]
  refine⟨fun k8=> ?_,fun k8=>fin false (by unfold W7;rw[if_neg k6,if_neg k7,if_neg k8])⟩
  have e8:W7 m t=(b8L m t&&decide (t.len=0)):=by unfold W7;rw[if_neg k6,if_neg k7,if_pos k8]
  rw[←hb]at e8
  cases b with
  |false=>simp only[R7,t3',vdF,gdF,oD,U3,Bool.false_eq_true,if_false];exact fin false (by rw[e8];rfl)
  |true=>
   simp only[R7,t4',vdT,oD,U3,if_true,H5,Nat.zero_add,h2.ld,q4,a5k]
   exact fin _ (by rw[e8,Bool.true_and])
 by_cases c1:t.name=[]
 case neg=>
  simp only[decide_eq_false c1,R7,t3',vdF,gdF,oD,U3,Bool.false_eq_true,if_false]
  exact rest false (by rw[c4J,decide_eq_false c1];rfl)
 simp only[decide_eq_true c1,R7,t4',vdT,oD,U3,if_true,h2.ld,q2,Y5,a5k,lc]
 by_cases c2:t.fields.length=0
 case neg=>
  simp only[decide_eq_false c2,R7,t3',vdF,gdF,oD,U3,Bool.false_eq_true,if_false]
  exact rest false (by rw[c4J,decide_eq_false c2,Bool.and_false];rfl)
 simp only[decide_eq_true c2,R7,t4',vdT,gdT,oD,U3,if_true,h2.ld,q3]
 rw[h0.all (n:=3) (by decide) rfl,oD]
 refine(show o5 Try.prog E w0 X1 [moD m, .int .i64 t.elem] S3 _ from(a6n hm ht.elem).use ?_)
 exact rest _ (by rw[c4J,decide_eq_true c1,decide_eq_true c2];rfl)
theorem b5O{m:Mo}(hm:m.Ok){t:Int}(ht:I64 t){S:b7}{k:Nat}(hk:w7 S k 3 (moC m)):o5 Try.prog E w0 a3b [.int .i64 t, .ptr k 0] S fun d S'=>d= .bool (!Q1 m t)∧S'=S:=by
 refine b2p ?_
 unfold a7x
 rw[hk.all (n:=3) (by decide) rfl,oD]
 refine(show o5 Try.prog E w0 X1 [moD m, .int .i64 t] S _ from(a6n hm ht).use ?_)
 rw[unN,oD]
 exact d9.here ⟨rfl,rfl⟩
theorem c5L{m:Mo}(hm:m.Fits){r:Ro}{y:In}(hy:y.Ok){S:b7}{k k2:Nat}(hk:w7 S k 3 (moC m))(hk2:w7 S k2 6 (roR r)):o5 Try.prog E w0 a2T [inD y, .ptr k 0, .ptr k2 0] S fun d S'=>d= .bool (!a9m m r y)∧S'=S:=by
 refine b2K ?_
 unfold a7I
 rw[inD,clA,oD]
 intro k0 a0 n0
 have c0:w7 (S.set k0 ⟨4,[inC y],a0⟩) k0 4 (inC y):=w7.new
 rw[show(inC y).length=4 from rfl,c0.all (n:=4) (by decide) rfl,oD,(hk.set n0).all (n:=3) (by decide) rfl,oD]
 refine(show o5 Try.prog E w0 a7z [inD y,moD m] _ _ from(c5v hy hm).use ?_)
 rintro v S' ⟨p,q,rfl,g⟩
 have hle:=(Two.le g)
 have c0:=c0.le hle
 have c2:=(hk2.set (o:=⟨4,[inC y],a0⟩) n0).le hle
 have l0:(inC y)[0]? =some (.int .u8 y.op):=rfl
 have l1:(inC y)[1]? =some (.int .i64 y.a):=rfl
 have l3:(roR r)[3]? =some (.int .i64 r.locals):=rfl
 have hS:S.le S':=b7.le_trans (b7.le_new n0) hle
 have fin:∀b:Bool,a9m m r y= !b→d9 E (fun d S'=>d= .bool (!a9m m r y)∧S'=S) (.bool b) S':=fun b h=>by rw[h,Bool.not_not];exact d9.less hS (d9.here ⟨rfl,rfl⟩)
 simp only[exD,List.getElem?_cons_zero,List.getElem?_cons_succ,oD,c9Q]
 by_cases c1:(a1o y m).2.2=0
 case neg=>
  simp only[decide_eq_true c1,ne_eq,not_false_eq_true,decide_true,R7,t1',vdF,oD,U3,if_true]
  exact fin true (by unfold a9m;rw[decide_eq_false c1];rfl)
 have c1':decide ((a1o y m).2.2≠0)=false:=decide_eq_false (fun h=>h c1)
 have em:a9m m r y= !(decide (y.op=7∨y.op=8)&&decide (r.locals≤y.a)):=by unfold a9m;rw[decide_eq_true c1,Bool.true_and]
 simp only[c1',R7,t2',vdT,oD,U3,Bool.false_eq_true,if_false,H5,Nat.zero_add,c0.ld,l0,a5k]
 by_cases c7:y.op=7
 ·simp only[decide_eq_true c7,R7,t1',t4',vdF,vdT,oD,U3,if_true,H5,Nat.zero_add,c0.ld,c2.ld,l1,l3,b3b]
  refine fin _ ?_
  rw[em,decide_eq_true (.inl c7),Bool.true_and]
 simp only[decide_eq_false c7,R7,t2',vdT,oD,U3,Bool.false_eq_true,if_false,H5,Nat.zero_add,c0.ld,l0,a5k]
 by_cases c8:y.op=8
 ·simp only[decide_eq_true c8,R7,t4',vdT,oD,U3,if_true,H5,Nat.zero_add,c0.ld,c2.ld,l1,l3,b3b]
  refine fin _ ?_
  rw[em,decide_eq_true (.inr c8),Bool.true_and]
 ·simp only[decide_eq_false c8,R7,t3',vdF,oD,U3,Bool.false_eq_true,if_false]
  exact fin false (by rw[em,decide_eq_false (fun h=>h.elim c7 c8)];rfl)
end
end
section
theorem c8e{α:Type}{p:α→Bool}(l:List α):(l.any fun a=> !p a)= !l.all p:=by rw[←c9v,Bool.not_not]
section
variable{E:m7}{w0:o0}
theorem b7w{m:Mo}(hm:m.Fits){r:Ro}(hr:r.Ok)(hc:r.code.length<2^30):X6 Try.prog E w0 a1Z [moD m, .agg (roR r)] (.bool (a2O m r)):=fun S=>by
 refine b4w ?_
 unfold b0P
 rw[moD,clA,oD]
 intro k a n
 rw[clA,oD]
 intro k2 a2 n2
 obtain⟨ne2,n2'⟩:=b7.fresh n2
 generalize hS3:(S.set k _).set k2 _=S3
 have h2:w7 S3 k2 6 (roR r):=by rw[←hS3];exact w7.new
 have h0:w7 S3 k 3 (moC m):=by rw[←hS3];exact(w7.new).set n2
 have hle:S.le S3:=by rw[←hS3];exact b7.le_set (b7.le_new n) n2'
 have q1:(roR r)[1]? =some (iD r.params):=rfl
 have q2:(roR r)[2]? =some (iD r.results):=rfl
 have q3:(roR r)[3]? =some (.int .i64 r.locals):=rfl
 have q4:(roR r)[4]? =some (.int .i64 r.stack):=rfl
 have q5:(roR r)[5]? =some (bD r.code):=rfl
 have fin:∀b:Bool,a2O m r=b→d9 E (fun d' S'=>d'= .bool (a2O m r)∧S'=S) (.bool b) S3:=fun b h=>by rw[h];exact d9.less hle d9.pure
 have hp:=hr.params
 have hq:=hr.results
 have hmo:=hm.ok
 simp only[oD,H5,Nat.zero_add,h2.ld,q1]
 refine(c4g (p:=fun t=> !Q1 m t) (by omega) fun t ht=>a4h (cs:=[.ptr k 0]) (by kernel_rfl) (b5O hmo (hr.ints t (List.mem_append_left _ ht)) h0)).use fun d S' ⟨g1,g2⟩=> ?_
 subst g1 g2
 rw[c8e]
 cases c1:r.params.all (Q1 m) with
 |false=>
  simp only[Bool.not_false,R7,t1',vdF,gdF,oD,U3,if_true,cdT]
  exact fin false (by unfold a2O;rw[c1];rfl)
 |true=>
 simp only[Bool.not_true,R7,t2',vdT,gdT,oD,h2.ld,H5,Nat.zero_add,q2]
 refine(c4g (p:=fun t=> !Q1 m t) (by omega) fun t ht=>a4h (cs:=[.ptr k 0]) (by kernel_rfl) (b5O hmo (hr.ints t (List.mem_append_right _ ht)) h0)).use fun d S' ⟨g1,g2⟩=> ?_
 subst g1 g2
 rw[c8e]
 cases c2:r.results.all (Q1 m) with
 |false=>
  simp only[Bool.not_false,R7,t1',vdF,gdF,oD,U3,Bool.false_eq_true,if_false,if_true,cdT]
  exact fin false (by unfold a2O;rw[c1,c2];rfl)
 |true=>
 simp only[Bool.not_true,R7,t2',vdT,gdT,oD,U3,Bool.false_eq_true,if_false,h2.ld,H5,Nat.zero_add,q3,q1,b1R,J0]
 by_cases c3:r.locals<(r.params.length:Int)
 ·simp only[decide_eq_true c3,R7,t1',vdF,gdF,oD,U3,if_true,cdT]
  exact fin false (by unfold a2O;rw[c1,c2,decide_eq_true c3];rfl)
 simp only[decide_eq_false c3,R7,t2',vdT,gdT,oD,U3,Bool.false_eq_true,if_false,h2.ld,H5,Nat.zero_add,q4,J0]
 rw[J6]
 refine⟨fun c4=>fin false (by unfold a2O;rw[c1,c2,decide_eq_false c3,decide_eq_true c4];rfl),fun c4=> ?_⟩
 rw[q5,oD]
 refine(c7P hr.bytes hc).use ?_
 rw[d2X]
 simp only[exD,List.getElem?_cons_zero,List.getElem?_cons_succ,oD,a5k]
 obtain⟨i1,i2,i3⟩:=d3B (bs:=r.code) hr.bytes
 have e0:a2O m r=(decide ((b3B (b9u r.code)).2.2=0)&&(b3B (b9u r.code)).1.all (a9m m r)):=by unfold a2O;rw[c1,c2,decide_eq_false c3,decide_eq_false c4];rfl
 by_cases c5:(b3B (b9u r.code)).2.2=0
 ·simp only[decide_eq_true c5,R7,t4',vdT,gdT,oD,U3,if_true]
  refine(d1F (p:=fun y=> !a9m m r y) (by omega) fun y hy=>a4h (cs:=[.ptr k 0, .ptr k2 0]) (by kernel_rfl) (c5L hm (i1 y hy) h0 h2)).use fun d S' ⟨g1,g2⟩=> ?_
  subst g1 g2
  rw[c8e]
  simp only[unN,oD,vdT,U3,if_true,Bool.not_not]
  exact fin _ (by rw[e0,decide_eq_true c5,Bool.true_and])
 ·simp only[decide_eq_false c5,R7,t3',vdF,gdF,oD,U3,Bool.false_eq_true,if_false]
  exact fin false (by rw[e0,decide_eq_false c5,Bool.false_and])
theorem c1L{f:Tx×Int}{S:b7}:o5 Try.prog E w0 a1R [.agg (U4 f)] S fun d S'=>d= .bool (decide (f.1.length>65536))∧S'=S:=by
 refine a9X ?_
 unfold a5q
 rw[clA,oD]
 intro k0 a0 n0
 have c0:w7 (S.set k0 ⟨2,[U4 f],a0⟩) k0 2 (U4 f):=w7.new
 rw[show(U4 f).length=2 from rfl,H5,oD,c0.ld,show(U4 f)[0+0]? =some (.str f.1) from rfl,oD,lnS,oD,a3U,oD]
 exact d9.drop n0 (d9.here ⟨by rw[decide_eq_decide.2 (show(f.1.length:Int)>65536↔f.1.length>65536 by omega)],rfl⟩)
theorem c0K{t:Tx}{S:b7}:o5 Try.prog E w0 a1L [.str t] S fun d S'=>d= .bool (decide (t.length>65536))∧S'=S:=by
 refine a9l ?_
 unfold a5o
 rw[lnS,oD,a3U,oD]
 exact d9.here ⟨by rw[decide_eq_decide.2 (show(t.length:Int)>65536↔t.length>65536 by omega)],rfl⟩
theorem gtN(a b:Nat):d8 .gtr (.int .i64 (a:Int)) (.int .i64 (b:Int))=some (.bool (decide (a>b))):=by
 rw[a3U,decide_eq_decide.2 (show(a:Int)>(b:Int)↔a>b by omega)]
theorem a6b{m:Mo}(hm:m.Fits):X6 Try.prog E w0 R8 [moD m] (.int .i64 (E5 m)):=fun S=>by
 refine b2V ?_
 unfold a7B
 rw[moD,clA,oD]
 intro k a n
 have h0:w7 (S.set k ⟨3,[moC m],a⟩) k 3 (moC m):=w7.new
 have hle:S.le (S.set k ⟨3,[moC m],a⟩):=b7.le_new n
 rw[show(moC m).length=3 from rfl]
 generalize S.set k ⟨3,[moC m],a⟩=S1 at*
 have hmo:=hm.ok
 have q0:(moC m)[0]? =some (b3J m.types):=rfl
 have q1:(moC m)[1]? =some (b0Y m.texts):=rfl
 have q2:(moC m)[2]? =some (b3S m.funcs):=rfl
 have t0:=hm.types
 have t1:=hm.texts
 have t2:=hm.funcs
 have fin:∀ {T:b7} {e:Int},S.le T→E5 m=e→d9 E (fun d' S'=>d'= .int .i64 (E5 m)∧S'=S) (.int .i64 e) T:=fun{T e} hl h=>by rw[h];exact d9.less hl d9.pure
 have g256:∀a:Nat,d8 .gtr (.int .i64 (a:Int)) (.int .i64 256)=some (.bool (decide (a>256))):=fun a=>gtN a 256
 have g32768:∀a:Nat,d8 .gtr (.int .i64 (a:Int)) (.int .i64 32768)=some (.bool (decide (a>32768))):=fun a=>gtN a 32768
 have g65536:∀a:Nat,d8 .gtr (.int .i64 (a:Int)) (.int .i64 65536)=some (.bool (decide (a>65536))):=fun a=>gtN a 65536
 have g32:∀a:Nat,d8 .gtr (.int .i64 (a:Int)) (.int .i64 32)=some (.bool (decide (a>32))):=fun a=>gtN a 32
 have g8:∀a:Nat,d8 .gtr (.int .i64 (a:Int)) (.int .i64 8)=some (.bool (decide (a>8))):=fun a=>gtN a 8
 simp only[H5,oD,Nat.zero_add,h0.ld,q0,a3l,g256]
 by_cases c0:m.types.length>256
 ·simp only[decide_eq_true c0,R7,t1',vdF,oD,U3,if_true,cdT]
  exact fin hle (by unfold E5;rw[if_pos (.inl c0)])
 simp only[decide_eq_false c0,R7,t2',vdT,oD,h0.ld,q1,H5,Nat.zero_add,a4H,g32768,U3,Bool.false_eq_true,if_false]
 by_cases c1:m.texts.length>32768
 ·simp only[decide_eq_true c1,R7,t1',vdF,oD,U3,if_true,cdT]
  exact fin hle (by unfold E5;rw[if_pos (.inr (.inl c1))])
 simp only[decide_eq_false c1,R7,t2',vdT,oD,h0.ld,q2,H5,Nat.zero_add,a4Q,g256,U3,Bool.false_eq_true,if_false]
 by_cases c2:m.funcs.length>256
 ·simp only[decide_eq_true c2,cdT]
  exact fin hle (by unfold E5;rw[if_pos (.inr (.inr c2))])
 simp only[decide_eq_false c2,cdF]
 have e0:E5 m=if O7 (a5g m) m.types≠0 then O7 (a5g m) m.types else if m.texts.any (fun t=>decide (t.length>65536))=true then 3 else O7 (a8E m) m.funcs:=by
  unfold E5;rw[if_neg (by omega)]
 refine a9T (I:=fun n x1 x24 x25 x26 T=>x1= .ptr k 0∧x24=b3J m.types∧x25= .int .i64 (m.types.length:Int)∧S.le T∧w7 T k 3 (moC m)∧∃i:Nat,x26= .int .i64 (i:Int)∧i+n=m.types.length∧O7 (a5g m) m.types=O7 (a5g m) (m.types.drop i)) ?_ (n:=m.types.length)
  ⟨rfl,rfl,rfl,hle,h0,0,rfl,by omega,rfl⟩
 rintro n _ _ _ _ T ⟨rfl,rfl,rfl,hT,cT,i,rfl,hi,hfi⟩
 unfold a1P
 rw[J0,oD,J6]
 refine⟨fun hlt=> ?_,fun hge=> ?_⟩
 ·have hlt:i<m.types.length:=by omega
  obtain⟨t,ht⟩:∃t,t=m.types[i]:=⟨_,rfl⟩
  have et:m.types[i]? =some t:=by rw[List.getElem?_eq_getElem hlt,ht]
  have htm:t∈m.types:=by rw[ht];exact List.getElem_mem _
  have htok:=hmo.ty t htm
  rw[b8V hlt, ←ht]at hfi
  rw[b0n et,oD,d3j,oD]
  intro k2 a2 n2
  refine(w7.new (sz:=5) (c:=[(.int .u8 0),(.str []), .nilSlc,(.int .i64 0),(.int .i64 0)])).st (ds:=M1 t) (clA _) ⟨rfl,by decide,by decide⟩ fun a2=> ?_
  rw[b7.set_set,show o8 [(D.int .u8 0),(.str []), .nilSlc,(.int .i64 0),(.int .i64 0)] 0 (M1 t)=M1 t from rfl]
  have c5:w7 (T.set k2 ⟨5,[M1 t],a2⟩) k2 5 (M1 t):=w7.new
  have hT2:S.le (T.set k2 ⟨5,[M1 t],a2⟩):=b7.le_set hT (b7.none_of hT n2)
  have cT2:=cT.set (o:=⟨5,[M1 t],a2⟩) n2
  generalize T.set k2 ⟨5,[M1 t],a2⟩=T2 at*
  have p1:(M1 t)[1]? =some (.str t.name):=rfl
  have p2:(M1 t)[2]? =some (a0U t.fields):=rfl
  have hend:∀b:Bool,a7l t=b→L1 E w0 (fun x1 x24 x25 x26 S_1=>∃m_1,m_1<n∧x1= .ptr k 0∧x24=b3J m.types∧x25= .int .i64 (m.types.length:Int)∧S.le S_1∧w7 S_1 k 3 (moC m)∧∃i:Nat,x26= .int .i64 (i:Int)∧i+m_1=m.types.length∧O7 (a5g m) m.types=O7 (a5g m) (m.types.drop i))
    (d9 E fun d' S'=>d'= .int .i64 (E5 m)∧S'=S) (.ptr k 0) (.ptr k2 0) (b3J m.types) (.int .i64 (m.types.length:Int)) (.int .i64 (i:Int)) (.bool b) T2:=fun b hb=>by
   refine a8F ?_
   unfold a4M
   cases b with
   |true=>
    rw[cdT]
    have:a5g m t=3:=by unfold a5g;rw[if_pos hb]
    rw[this,if_neg (by decide)]at hfi
    exact fin hT2 (by rw[e0,hfi,if_pos (by decide)])
   |false=>
    rw[cdF,cT2.all (n:=3) (by decide) rfl,oD,c5.all (n:=5) (by decide) rfl,oD]
    refine(show o5 Try.prog E w0 a1Y [moD m, .agg (M1 t)] T2 _ from(b7I hmo htok).use ?_)
    rw[unN,oD,cdB]
    refine⟨fun h=> ?_,fun h=> ?_⟩
    ·have h:W7 m t=false:=by simpa using h
     have:a5g m t=130:=by unfold a5g;rw[if_neg (by rw[hb];simp),if_neg (by rw[h];simp)]
     rw[this,if_neg (by decide)]at hfi
     exact fin hT2 (by rw[e0,hfi,if_pos (by decide)])
    ·have h:W7 m t=true:=by simpa using h
     have:a5g m t=0:=by unfold a5g;rw[if_neg (by rw[hb];simp),if_pos h]
     rw[this,if_pos rfl]at hfi
     rw[C4,oD,m8 (by omega) (by omega)]
     exact⟨n - 1,by omega,rfl,rfl,rfl,hT2,cT2,i+1,rfl,by omega,hfi⟩
  simp only[H5,oD,Nat.zero_add,c5.ld,p2,Y5,g32]
  by_cases d1:t.fields.length>32
  ·rw[decide_eq_true d1,cdT]
   exact hend true (by unfold a7l;rw[decide_eq_true d1];rfl)
  rw[decide_eq_false d1,cdF]
  simp only[p1,lnS,oD,g65536]
  by_cases d2:t.name.length>65536
  ·rw[decide_eq_true d2,cdT]
   exact hend true (by unfold a7l;rw[decide_eq_true d2];simp)
  rw[decide_eq_false d2,cdF]
  have hfl:=htok.fields
  refine(c4j (p:=fun f=>decide (f.1.length>65536)) (by omega) fun f hf=>a4h (cs:=[]) (by kernel_rfl) c1L).use fun d S' ⟨g1,g2⟩=> ?_
  subst g1 g2
  exact hend _ (by unfold a7l;rw[decide_eq_false d1,decide_eq_false d2];rfl)
 have hi:i=m.types.length:=by omega
 subst hi
 rw[List.drop_length,O7]at hfi
 rw[hfi,if_neg (by simp)]at e0
 simp only[H5,oD,cT.ld,q1]
 refine(d0B (p:=fun t=>decide (t.length>65536)) (by omega) fun t ht=>a4h (cs:=[]) (by kernel_rfl) c0K).use fun d S' ⟨g1,g2⟩=> ?_
 subst g1 g2
 rw[cdB]
 refine⟨fun h=>fin hT (by rw[e0,if_pos h]),fun h=> ?_⟩
 rw[if_neg (by rw[h];simp)]at e0
 simp only[H5,oD,cT.ld,q2,a4Q]
 refine a8Z (I:=fun n x1 x52 x53 x54 T=>x1= .ptr k 0∧x52=b3S m.funcs∧x53= .int .i64 (m.funcs.length:Int)∧S.le T∧w7 T k 3 (moC m)∧∃i:Nat,x54= .int .i64 (i:Int)∧i+n=m.funcs.length∧O7 (a8E m) m.funcs=O7 (a8E m) (m.funcs.drop i)) ?_ (n:=m.funcs.length)
  ⟨rfl,rfl,rfl,hT,cT,0,rfl,by omega,rfl⟩
 rintro n _ _ _ _ T ⟨rfl,rfl,rfl,hT,cT,i,rfl,hi,hfi⟩
 unfold a1O
 rw[J0,oD,J6]
 refine⟨fun hlt=> ?_,fun hge=> ?_⟩
 ·have hlt:i<m.funcs.length:=by omega
  obtain⟨t,ht⟩:∃t,t=m.funcs[i]:=⟨_,rfl⟩
  have et:m.funcs[i]? =some t:=by rw[List.getElem?_eq_getElem hlt,ht]
  have htm:t∈m.funcs:=by rw[ht];exact List.getElem_mem _
  have htok:=hmo.ro t htm
  obtain⟨b1,b2,b3⟩:=hm.params t htm
  rw[b8V hlt, ←ht]at hfi
  rw[b3w et,oD,d3N,oD]
  intro k2 a2 n2
  refine(w7.new (sz:=6) (c:=[(.str []), .nilSlc, .nilSlc,(.int .i64 0),(.int .i64 0), .nilSlc])).st (ds:=roR t) (clA _) ⟨rfl,by decide,by decide⟩ fun a2=> ?_
  rw[b7.set_set,show o8 [(D.str []), .nilSlc, .nilSlc,(.int .i64 0),(.int .i64 0), .nilSlc] 0 (roR t)=roR t from rfl]
  have c6:w7 (T.set k2 ⟨6,[roR t],a2⟩) k2 6 (roR t):=w7.new
  have hT2:S.le (T.set k2 ⟨6,[roR t],a2⟩):=b7.le_set hT (b7.none_of hT n2)
  have cT2:=cT.set (o:=⟨6,[roR t],a2⟩) n2
  generalize T.set k2 ⟨6,[roR t],a2⟩=T2 at*
  have p0:(roR t)[0]? =some (.str t.name):=rfl
  have p1:(roR t)[1]? =some (iD t.params):=rfl
  have p2:(roR t)[2]? =some (iD t.results):=rfl
  have p3:(roR t)[3]? =some (.int .i64 t.locals):=rfl
  have p4:(roR t)[4]? =some (.int .i64 t.stack):=rfl
  have p5:(roR t)[5]? =some (bD t.code):=rfl
  have hend:∀b:Bool,a3g t=b→C7 E w0 (fun x1 x52 x53 x54 S_1=>∃m_1,m_1<n∧x1= .ptr k 0∧x52=b3S m.funcs∧x53= .int .i64 (m.funcs.length:Int)∧S.le S_1∧w7 S_1 k 3 (moC m)∧∃i:Nat,x54= .int .i64 (i:Int)∧i+m_1=m.funcs.length∧O7 (a8E m) m.funcs=O7 (a8E m) (m.funcs.drop i))
    (d9 E fun d' S'=>d'= .int .i64 (E5 m)∧S'=S) (.ptr k 0) (.ptr k2 0) (b3S m.funcs) (.int .i64 (m.funcs.length:Int)) (.int .i64 (i:Int)) (.bool b) T2:=fun b hb=>by
   refine a8q ?_
   unfold a4V
   cases b with
   |true=>
    rw[cdT]
    have:a8E m t=3:=by unfold a8E;rw[if_pos hb]
    rw[this,if_neg (by decide)]at hfi
    exact fin hT2 (by rw[e0,hfi])
   |false=>
    rw[cdF,cT2.all (n:=3) (by decide) rfl,oD,c6.all (n:=6) (by decide) rfl,oD]
    refine(show o5 Try.prog E w0 a1Z [moD m, .agg (roR t)] T2 _ from(b7w hm htok b3).use ?_)
    rw[unN,oD,cdB]
    refine⟨fun h=> ?_,fun h=> ?_⟩
    ·have h:a2O m t=false:=by simpa using h
     have:a8E m t=130:=by unfold a8E;rw[if_neg (by rw[hb];simp),if_neg (by rw[h];simp)]
     rw[this,if_neg (by decide)]at hfi
     exact fin hT2 (by rw[e0,hfi])
    ·have h:a2O m t=true:=by simpa using h
     have:a8E m t=0:=by unfold a8E;rw[if_neg (by rw[hb];simp),if_pos h]
     rw[this,if_pos rfl]at hfi
     rw[C4,oD,m8 (by omega) (by omega)]
     exact⟨n - 1,by omega,rfl,rfl,rfl,hT2,cT2,i+1,rfl,by omega,hfi⟩
  simp only[H5,oD,Nat.zero_add,c6.ld,p1,b1R,g32]
  by_cases d1:t.params.length>32
  ·rw[decide_eq_true d1,cdT]
   exact hend true (by unfold a3g;rw[decide_eq_true d1];simp)
  rw[decide_eq_false d1,cdF]
  simp only[p2,b1R,oD,g8]
  by_cases d2:t.results.length>8
  ·rw[decide_eq_true d2,cdT]
   exact hend true (by unfold a3g;rw[decide_eq_true d2];simp)
  rw[decide_eq_false d2,cdF]
  simp only[p3,oD,a3U]
  by_cases d3:t.locals>256
  ·rw[decide_eq_true d3,cdT]
   exact hend true (by unfold a3g;rw[decide_eq_true d3];simp)
  rw[decide_eq_false d3,cdF]
  simp only[p4,oD,a3U]
  by_cases d4:t.stack>4096
  ·rw[decide_eq_true d4,cdT]
   exact hend true (by unfold a3g;rw[decide_eq_true d4];simp)
  rw[decide_eq_false d4,cdF]
  simp only[p5,M6,oD,g65536]
  by_cases d5:t.code.length>65536
  ·rw[decide_eq_true d5,cdT]
   exact hend true (by unfold a3g;rw[decide_eq_true d5];simp)
  rw[decide_eq_false d5,cdF]
  simp only[p0,lnS,oD,g65536]
  exact hend _ (by unfold a3g;rw[decide_eq_false d1,decide_eq_false d2,decide_eq_false d3,decide_eq_false d4,decide_eq_false d5];rfl)
 ·have hi:i=m.funcs.length:=by omega
  subst hi
  rw[List.drop_length,O7]at hfi
  exact fin hT (by rw[e0,hfi])
end
end
end Go.Proofs.Ytchnpgddpaonhaa.d
end
