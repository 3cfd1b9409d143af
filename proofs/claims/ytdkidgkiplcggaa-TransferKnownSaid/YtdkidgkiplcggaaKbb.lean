/-
  TransferKnownSaid: part Kbb of its proof.
-/
import Derived.Test.YtdkidgkiplcggaaKax
import Derived.Test.YtdkidgkiplcggaaKba
set_option linter.unusedVariables false
set_option linter.unusedSimpArgs false
set_option maxRecDepth 100000
section
open Go.Proofs Go Go.Am Go.Op
namespace Go.Proofs.Ytdkidgkiplcggaa.d
section
def K7(m:Mo)(t:Int):Bool:=decide (1≤t∧t≤5)||decide (16≤t∧t - 16<m.types.length)
def c3n(m:Mo)(t:Ty):Bool:=decide (t.name=[])&&decide (t.fields.length=0)&&K7 m t.elem
def a0m(m:Mo)(t:Ty):Bool:=
 if t.kind=6 then decide (t.elem=0)&&decide (t.len=0)&&t.fields.all fun f=>K7 m f.2
 else if t.kind=7 then c3n m t&&decide (0≤t.len∧t.len≤65536)
 else if t.kind=8 then c3n m t&&decide (t.len=0) else false
def a1T(m:Mo)(r:Ro)(y:In):Bool:=decide ((s7 y m).2.2=0)&& !(decide (y.op=7∨y.op=8)&&decide (r.locals≤y.a))
def a2W(m:Mo)(r:Ro):Bool:=
 r.params.all (K7 m)&&r.results.all (K7 m)&& !decide (r.locals<r.params.length)&& !decide (r.stack<0)&&
  decide ((a8n (a6P r.code)).2.2=0)&&(a8n (a6P r.code)).1.all (a1T m r)
section
variable{E:i9}{w0:j7}
def a3P(E:i9)(w0:j7)(S:b8)(fv d:D)(b:Bool):Prop:=∀K:D→b8→Prop,K (.bool b) S→a1Q Try.prog (j6 Try.prog E w0) S fv [d] K
theorem a1S{f:FuncId}(hf:a8W Try.prog f=true){cs:List D}{d:D}{b:Bool}{S:b8}(h:j6 Try.prog E w0 f (d::cs) S fun d' S'=>d'= .bool b∧S'=S):a3P E w0 S (.fn (.func f) [] cs) d b:=fun K hK=>by
 simp only[a1Q,b1L,hf,List.nil_append,List.singleton_append,if_true]
 refine h.use fun d' S' ⟨h1,h2⟩=> ?_
 subst h1 h2
 exact hK
def c0g{α:Type}(p:α→Bool)(l:List α):Int:=match l.findIdx? p with
 |some i=>(i:Int)
 |none=> -1
theorem c3P{α:Type}{p:α→Bool}{l:List α}{i:Nat}(h:(l.take i).any p=false)(hi:i≤l.length):l.findIdx? p=((l.drop i).findIdx? p).map (· +i):=by
 induction l generalizing i with
 |nil=>simp
 |cons a l ih=>
  cases i with
  |zero=>simp
  |succ i=>
   simp only[List.take_succ_cons,List.any_cons,Bool.or_eq_false_iff]at h
   rw[List.drop_succ_cons,List.findIdx?_cons,h.1]
   simp only[Bool.false_eq_true,if_false,ih h.2 (by simpa using hi),Option.map_map]
   cases (l.drop i).findIdx? p<;>simp[Function.comp];omega
theorem b9s{α:Type}{p:α→Bool}{l:List α}:decide (c0g p l≥0)=l.any p:=by
 unfold c0g
 cases h:l.findIdx? p with
 |none=>
  have:∀a∈l,p a=false:=by simpa [List.findIdx?_eq_none_iff]using h
  have:l.any p=false:=by rw[List.any_eq_false];intro a ha;simp[this a ha]
  rw[this];rfl
 |some i=>
  have hi:=List.findIdx?_eq_some_iff_getElem.1 h
  obtain⟨h1,h2,_⟩:=hi
  have:l.any p=true:=List.any_eq_true.2 ⟨_,List.getElem_mem h1,h2⟩
  rw[this]
  exact decide_eq_true (by simp)
theorem b4T{α:Type}{p:α→Bool}{l:List α}{i:Nat}(h:(l.take i).any p=false)(hi:i<l.length):(p l[i]=true→c0g p l=(i:Int))∧(p l[i]=false→(l.take (i+1)).any p=false):=by
 constructor
 ·intro hp
  unfold c0g
  rw[c3P h (by omega),List.drop_eq_getElem_cons hi,List.findIdx?_cons,hp]
  simp
 ·intro hp
  rw[List.take_add_one,List.getElem?_eq_getElem hi,List.any_append,h]
  simpa using hp
theorem b9w{α:Type}{p:α→Bool}{l:List α}(h:l.any p=false):c0g p l= -1:=by
 unfold c0g
 have:l.findIdx? p=none:=by
  rw[List.findIdx?_eq_none_iff]
  intro a ha
  have:=List.any_eq_false.1 h a ha
  simpa using this
 rw[this]
theorem c6m{l:List (Tx×Int)}{p:Tx×Int→Bool}{fv:D}(hl:l.length<2^60){S:b8}(hp:∀y∈l,a3P E w0 S fv (.agg (a1z y)) (p y)):j6 Try.prog E w0 K5 [a6i l,fv] S fun d S'=>d= .int .i64 (c0g p l)∧S'=S:=by
 refine a3d ?_
 unfold a0j
 rw[a3F,oD]
 refine a2q (I:=fun n x0 x1 x7 x8 T=>S=T∧x0=a6i l∧fv=x1∧x7= .int .i64 (l.length:Int)∧∃i:Nat,x8= .int .i64 (i:Int)∧i+n=l.length∧(l.take i).any p=false) ?_ (n:=l.length) ⟨rfl,rfl,rfl,rfl,0,rfl,by omega,rfl⟩
 rintro n _ _ _ _ _ ⟨rfl,rfl,rfl,rfl,i,rfl,hi,ht⟩
 unfold I6
 rw[L7,oD,M0]
 refine⟨fun hlt=> ?_,fun hge=> ?_⟩
 ·have hlt:i<l.length:=by omega
  obtain⟨s1,s2⟩:=b4T ht hlt
  rw[b5S (List.getElem?_eq_getElem hlt),oD,d2v,oD]
  refine hp _ (List.getElem_mem _) _ ?_
  rw[cdB]
  refine⟨fun h=>d9.here ⟨by rw[s1 h],rfl⟩,fun h=> ?_⟩
  rw[H7,oD,m7 (by omega) (by omega)]
  exact⟨n - 1,by omega,rfl,rfl,rfl,rfl,i+1,rfl,by omega,s2 h⟩
 ·rw[List.take_of_length_le (by omega)]at ht
  exact d9.here ⟨by rw[b9w ht],rfl⟩
theorem c6i{l:List Tx}{p:Tx→Bool}{fv:D}(hl:l.length<2^60){S:b8}(hp:∀y∈l,a3P E w0 S fv (.str y) (p y)):j6 Try.prog E w0 P5 [b0y l,fv] S fun d S'=>d= .int .i64 (c0g p l)∧S'=S:=by
 refine a4E ?_
 unfold a1p
 rw[b5a,oD]
 refine a3H (I:=fun n x0 x1 x7 x8 T=>S=T∧x0=b0y l∧fv=x1∧x7= .int .i64 (l.length:Int)∧∃i:Nat,x8= .int .i64 (i:Int)∧i+n=l.length∧(l.take i).any p=false) ?_ (n:=l.length) ⟨rfl,rfl,rfl,rfl,0,rfl,by omega,rfl⟩
 rintro n _ _ _ _ _ ⟨rfl,rfl,rfl,rfl,i,rfl,hi,ht⟩
 unfold L8
 rw[L7,oD,M0]
 refine⟨fun hlt=> ?_,fun hge=> ?_⟩
 ·have hlt:i<l.length:=by omega
  obtain⟨s1,s2⟩:=b4T ht hlt
  rw[c9i (List.getElem?_eq_getElem hlt),oD,lsE,List.getElem?_cons_zero,oD]
  refine hp _ (List.getElem_mem _) _ ?_
  rw[cdB]
  refine⟨fun h=>d9.here ⟨by rw[s1 h],rfl⟩,fun h=> ?_⟩
  rw[H7,oD,m7 (by omega) (by omega)]
  exact⟨n - 1,by omega,rfl,rfl,rfl,rfl,i+1,rfl,by omega,s2 h⟩
 ·rw[List.take_of_length_le (by omega)]at ht
  exact d9.here ⟨by rw[b9w ht],rfl⟩
theorem c5L{l:List Int}{p:Int→Bool}{fv:D}(hl:l.length<2^60){S:b8}(hp:∀y∈l,a3P E w0 S fv (.int .i64 y) (p y)):j6 Try.prog E w0 Y9 [iD l,fv] S fun d S'=>d= .int .i64 (c0g p l)∧S'=S:=by
 refine a6L ?_
 unfold a2X
 rw[a3I,oD]
 refine a5m (I:=fun n x0 x1 x7 x8 T=>S=T∧x0=iD l∧fv=x1∧x7= .int .i64 (l.length:Int)∧∃i:Nat,x8= .int .i64 (i:Int)∧i+n=l.length∧(l.take i).any p=false) ?_ (n:=l.length) ⟨rfl,rfl,rfl,rfl,0,rfl,by omega,rfl⟩
 rintro n _ _ _ _ _ ⟨rfl,rfl,rfl,rfl,i,rfl,hi,ht⟩
 unfold U2
 rw[L7,oD,M0]
 refine⟨fun hlt=> ?_,fun hge=> ?_⟩
 ·have hlt:i<l.length:=by omega
  obtain⟨s1,s2⟩:=b4T ht hlt
  rw[b3m (List.getElem?_eq_getElem hlt),oD,lsE,List.getElem?_cons_zero,oD]
  refine hp _ (List.getElem_mem _) _ ?_
  rw[cdB]
  refine⟨fun h=>d9.here ⟨by rw[s1 h],rfl⟩,fun h=> ?_⟩
  rw[H7,oD,m7 (by omega) (by omega)]
  exact⟨n - 1,by omega,rfl,rfl,rfl,rfl,i+1,rfl,by omega,s2 h⟩
 ·rw[List.take_of_length_le (by omega)]at ht
  exact d9.here ⟨by rw[b9w ht],rfl⟩
theorem d6F(S:b8)(y:In):i4 S 4 (.elt (O2 y) 0)=some (.agg (O2 y)):=rfl
theorem c6p{l:List In}{i:Nat}{y:In}(h:l[i]? =some y):p9 4 (b6q l) (.int .i64 (i:Int))=some (.elt (O2 y) 0):=b6m (by rw[List.getElem?_map,h];rfl)
theorem c7P{l:List In}{p:In→Bool}{fv:D}(hl:l.length<2^60){S:b8}(hp:∀y∈l,a3P E w0 S fv (inD y) (p y)):j6 Try.prog E w0 K6 [b6q l,fv] S fun d S'=>d= .int .i64 (c0g p l)∧S'=S:=by
 refine a3b ?_
 unfold a0c
 rw[show m9 (b6q l)=some (.int .i64 (l.length:Int)) by simp[b6q],oD]
 refine a2r (I:=fun n x0 x1 x7 x8 T=>S=T∧x0=b6q l∧fv=x1∧x7= .int .i64 (l.length:Int)∧∃i:Nat,x8= .int .i64 (i:Int)∧i+n=l.length∧(l.take i).any p=false) ?_ (n:=l.length) ⟨rfl,rfl,rfl,rfl,0,rfl,by omega,rfl⟩
 rintro n _ _ _ _ _ ⟨rfl,rfl,rfl,rfl,i,rfl,hi,ht⟩
 unfold I4
 rw[L7,oD,M0]
 refine⟨fun hlt=> ?_,fun hge=> ?_⟩
 ·have hlt:i<l.length:=by omega
  obtain⟨s1,s2⟩:=b4T ht hlt
  rw[c6p (List.getElem?_eq_getElem hlt),oD,d6F,oD]
  refine hp _ (List.getElem_mem _) _ ?_
  rw[cdB]
  refine⟨fun h=>d9.here ⟨by rw[s1 h],rfl⟩,fun h=> ?_⟩
  rw[H7,oD,m7 (by omega) (by omega)]
  exact⟨n - 1,by omega,rfl,rfl,rfl,rfl,i+1,rfl,by omega,s2 h⟩
 ·rw[List.take_of_length_le (by omega)]at ht
  exact d9.here ⟨by rw[b9w ht],rfl⟩
theorem c3j{l:List (Tx×Int)}{p:Tx×Int→Bool}{fv:D}(hl:l.length<2^60){S:b8}(hp:∀y∈l,a3P E w0 S fv (.agg (a1z y)) (p y)):j6 Try.prog E w0 A8 [a6i l,fv] S fun d S'=>d= .bool (l.any p)∧S'=S:=by
 refine a1X ?_
 unfold U8
 refine(c6m hl hp).use fun d S' ⟨h1,h2⟩=> ?_
 subst h1 h2
 rw[a9G,oD,b9s];exact d9.here ⟨rfl,rfl⟩
theorem c9R{l:List Tx}{p:Tx→Bool}{fv:D}(hl:l.length<2^60){S:b8}(hp:∀y∈l,a3P E w0 S fv (.str y) (p y)):j6 Try.prog E w0 K8 [b0y l,fv] S fun d S'=>d= .bool (l.any p)∧S'=S:=by
 refine a3c ?_
 unfold a0a
 refine(c6i hl hp).use fun d S' ⟨h1,h2⟩=> ?_
 subst h1 h2
 rw[a9G,oD,b9s];exact d9.here ⟨rfl,rfl⟩
theorem b2y{l:List Int}{p:Int→Bool}{fv:D}(hl:l.length<2^60){S:b8}(hp:∀y∈l,a3P E w0 S fv (.int .i64 y) (p y)):j6 Try.prog E w0 B9 [iD l,fv] S fun d S'=>d= .bool (l.any p)∧S'=S:=by
 refine a4B ?_
 unfold a1r
 refine(c5L hl hp).use fun d S' ⟨h1,h2⟩=> ?_
 subst h1 h2
 rw[a9G,oD,b9s];exact d9.here ⟨rfl,rfl⟩
theorem d2G{l:List In}{p:In→Bool}{fv:D}(hl:l.length<2^60){S:b8}(hp:∀y∈l,a3P E w0 S fv (inD y) (p y)):j6 Try.prog E w0 G9 [b6q l,fv] S fun d S'=>d= .bool (l.any p)∧S'=S:=by
 refine a1V ?_
 unfold U9
 refine(c7P hl hp).use fun d S' ⟨h1,h2⟩=> ?_
 subst h1 h2
 rw[a9G,oD,b9s];exact d9.here ⟨rfl,rfl⟩
theorem t1':(true==false)=false:=rfl
theorem t2':(false==false)=true:=rfl
theorem t3':(false==true)=false:=rfl
theorem t4':(true==true)=true:=rfl
theorem a6b{m:Mo}(hm:m.Ok){t:Int}(ht:X1 t):P9 Try.prog E w0 Q9 [moD m, .int .i64 t] (.bool (K7 m t)):=fun S=>by
 refine b6M ?_
 unfold b3z
 rw[moD,W3,oD]
 intro k a n
 have h0:z7 (S.set k ⟨3,[O9 m],a⟩) k 3 (O9 m):=z7.new
 rw[show(O9 m).length=3 from rfl]
 have h2:=hm.types
 obtain⟨i1,i2⟩:=ht
 have ld:d0 (S.set k ⟨3,[O9 m],a⟩) (.ptr k 0)=some (a9a m.types):=h0.ld 0
 have fin:∀b:Bool,K7 m t=b→d9 E (fun d' S'=>d'= .bool (K7 m t)∧S'=S) (.bool b) (S.set k ⟨3,[O9 m],a⟩):=fun b h=>by rw[h];exact d9.drop n d9.pure
 rw[d1S,oD]
 by_cases c1:1≤t
 ·simp only[decide_eq_true c1,N6,t4',vdT,oD,P0,if_true,d1S]
  by_cases c2:t≤5
  ·simp only[decide_eq_true c2,N6,t1',vdF,oD,P0,if_true]
   exact fin true (by unfold K7;rw[decide_eq_true ⟨c1,c2⟩];rfl)
  ·simp only[decide_eq_false c2,N6,t2',vdT,oD,P0,Bool.false_eq_true,if_false,a9G]
   by_cases c3:t≥16
   ·simp only[decide_eq_true c3,N6,t4',vdT,oD,P0,if_true,b3c,F8,Nat.zero_add,ld,b1v,L7]
    rw[m7 (by omega) (by omega)]
    refine fin _ ?_
    unfold K7
    rw[decide_eq_false (fun h=>c2 h.2),Bool.false_or]
    exact decide_eq_decide.2 ⟨fun h=>h.2,fun h=>⟨c3,h⟩⟩
   ·simp only[decide_eq_false c3,N6,t3',vdF,oD,P0,Bool.false_eq_true,if_false]
    exact fin false (by unfold K7;rw[decide_eq_false (fun h=>c2 h.2),decide_eq_false (fun h=>c3 h.1)];rfl)
 ·have c3:¬t≥16:=by omega
  simp only[decide_eq_false c1,N6,t3',t2',vdT,vdF,oD,P0,Bool.false_eq_true,if_false,a9G,decide_eq_false c3]
  exact fin false (by unfold K7;rw[decide_eq_false (fun h=>c1 h.1),decide_eq_false (fun h=>c3 h.1)];rfl)
end
end
section
def a7o(t:Ty):Bool:=decide (t.fields.length>32)||decide (t.name.length>65536)||t.fields.any fun f=>decide (f.1.length>65536)
def a2P(r:Ro):Bool:=decide (r.params.length>32)||decide (r.results.length>8)||decide (r.locals>256)||decide (r.stack>4096)||decide (r.code.length>65536)||decide (r.name.length>65536)
def a4T(m:Mo)(t:Ty):Int:=if a7o t=true then 3 else if a0m m t=true then 0 else 130
def a8a(m:Mo)(r:Ro):Int:=if a2P r=true then 3 else if a2W m r=true then 0 else 130
def O6{α:Type}(f:α→Int):List α→Int
 | []=>0
 |a::l=>if f a=0 then O6 f l else f a
theorem b8g{α:Type}{f:α→Int}{l:List α}{i:Nat}(hi:i<l.length):O6 f (l.drop i)=if f l[i]=0 then O6 f (l.drop (i+1)) else f l[i]:=by
 rw[List.drop_eq_getElem_cons hi,O6]
def O8(m:Mo):Int:=
 if m.types.length>256∨m.texts.length>32768∨m.funcs.length>256 then 3
 else if O6 (a4T m) m.types≠0 then O6 (a4T m) m.types
 else if m.texts.any (fun t=>decide (t.length>65536))=true then 3 else O6 (a8a m) m.funcs
theorem c8V{α:Type}{p:α→Bool}(l:List α):(!l.any fun a=> !p a)=l.all p:=by
 induction l with
 |nil=>rfl
 |cons a l ih=>rw[List.any_cons,List.all_cons, ←ih];cases p a<;>simp
section
variable{E:i9}{w0:j7}
theorem c3Z{m:Mo}(hm:m.Ok){f:Tx×Int}(hf:X1 f.2){S:b8}{k:Nat}(hk:z7 S k 3 (O9 m)):j6 Try.prog E w0 a0A [.agg (a1z f), .ptr k 0] S fun d S'=>d= .bool (!K7 m f.2)∧S'=S:=by
 refine b0F ?_
 unfold a7m
 rw[W3,oD]
 intro k0 a0 n0
 have c0:z7 (S.set k0 ⟨2,[a1z f],a0⟩) k0 2 (a1z f):=z7.new
 rw[show(a1z f).length=2 from rfl,(hk.set n0).all (n:=3) (by decide) rfl,oD,F8,oD,c0.ld,show(a1z f)[0+1]? =some (.int .i64 f.2) from rfl,oD]
 refine(a6b hm hf).use ?_
 rw[unN,oD]
 exact d9.drop n0 (d9.here ⟨rfl,rfl⟩)
theorem c5q{m:Mo}{t:Ty}:c3n m t=(decide (t.name=[])&&decide (t.fields.length=0)&&K7 m t.elem):=rfl
theorem b6N{m:Mo}(hm:m.Ok){t:Ty}(ht:t.Ok):P9 Try.prog E w0 a1M [moD m, .agg (X7 t)] (.bool (a0m m t)):=fun S=>by
 refine b4p ?_
 unfold a9S
 rw[moD,W3,oD]
 intro k a n
 rw[W3,oD]
 intro k2 a2 n2
 obtain⟨ne2,n2'⟩:=b8.fresh n2
 generalize hS3:(S.set k _).set k2 _=S3
 have h2:z7 S3 k2 5 (X7 t):=by rw[←hS3];exact z7.new
 have h0:z7 S3 k 3 (O9 m):=by rw[←hS3];exact(z7.new).set n2
 have hle:S.le S3:=by rw[←hS3];exact b8.le_set (b8.le_new n) n2'
 have q0:(X7 t)[0]? =some (.int .u8 t.kind):=rfl
 have q1:(X7 t)[1]? =some (.str t.name):=rfl
 have q2:(X7 t)[2]? =some (a6i t.fields):=rfl
 have q3:(X7 t)[3]? =some (.int .i64 t.elem):=rfl
 have q4:(X7 t)[4]? =some (.int .i64 t.len):=rfl
 have fin:∀b:Bool,a0m m t=b→d9 E (fun d' S'=>d'= .bool (a0m m t)∧S'=S) (.bool b) S3:=fun b h=>by rw[h];exact d9.less hle d9.pure
 have hfl:=ht.fields
 have beqN:∀a:Tx,c6O .eql (.str a) (.str [])=some (.bool (decide (a=[]))):=fun a=>by rw[d6D,d6z]
 have lc:decide ((t.fields.length:Int)=0)=decide (t.fields.length=0):=decide_eq_decide.2 (by omega)
 simp only[F8,oD,Nat.zero_add,h2.ld,q1,beqN]
 have rest:∀(b:Bool),b=c3n m t→
   (b7 (d0 S3 (.ptr k2 0)) fun v19=>b7 (f9 .eql v19 (.int .u8 6)) fun v20=>i5 v20
    (b7 (d0 S3 (.ptr k2 3)) fun v22=>b7 (f9 .eql v22 (.int .i64 0)) fun v23=>b7 (d8 (b9 v23 true) (j5 4 (.ptr k2 0))) fun v24=>b7 (d8 (b9 v23 true) (d0 S3 v24)) fun v25=>b7 (d8 (b9 v23 true) (f9 .eql v25 (.int .i64 0))) fun v26=>b7 (o0 v23 v26 (.bool false)) fun v27=>
     b7 (d8 (b9 v27 true) (j5 2 (.ptr k2 0))) fun v28=>b7 (d8 (b9 v27 true) (d0 S3 v28)) fun v29=>b7 (d8 (b9 v27 true) (some (.fn (.func a0A) [] [.ptr k 0]))) fun v30=>
     p8 (b9 v27 true) (fun K=>j6 Try.prog E w0 A8 [v29,v30] S3 K) S3 fun v31 S32=>b7 (d8 (b9 v27 true) (unD .not v31)) fun v33=>b7 (o0 v27 v33 (.bool false)) fun v34=>d9 E (fun d' S'=>d'= .bool (a0m m t)∧S'=S) v34 S32)
    (b7 (f9 .eql v19 (.int .u8 7)) fun v35=>i5 v35
     (b7 (d8 (b9 (.bool b) true) (j5 4 (.ptr k2 0))) fun v36=>b7 (d8 (b9 (.bool b) true) (d0 S3 v36)) fun v37=>b7 (d8 (b9 (.bool b) true) (f9 .geq v37 (.int .i64 0))) fun v38=>b7 (o0 (.bool b) v38 (.bool false)) fun v39=>
      b7 (d8 (b9 v39 true) (j5 4 (.ptr k2 0))) fun v40=>b7 (d8 (b9 v39 true) (d0 S3 v40)) fun v41=>b7 (d8 (b9 v39 true) (f9 .leq v41 (.int .i64 65536))) fun v42=>b7 (o0 v39 v42 (.bool false)) fun v43=>d9 E (fun d' S'=>d'= .bool (a0m m t)∧S'=S) v43 S3)
     (b7 (f9 .eql v19 (.int .u8 8)) fun v44=>i5 v44
      (b7 (d8 (b9 (.bool b) true) (j5 4 (.ptr k2 0))) fun v45=>b7 (d8 (b9 (.bool b) true) (d0 S3 v45)) fun v46=>b7 (d8 (b9 (.bool b) true) (f9 .eql v46 (.int .i64 0))) fun v47=>b7 (o0 (.bool b) v47 (.bool false)) fun v48=>d9 E (fun d' S'=>d'= .bool (a0m m t)∧S'=S) v48 S3)
      (d9 E (fun d' S'=>d'= .bool (a0m m t)∧S'=S) (.bool false) S3)))):=fun b hb=>by
  rw[h2.ld,q0,oD,L1,oD,M0]
  refine⟨fun k6=> ?_,fun k6=> ?_⟩
  ·have e6:a0m m t=(decide (t.elem=0)&&decide (t.len=0)&&t.fields.all fun f=>K7 m f.2):=by unfold a0m;rw[if_pos k6]
   simp only[h2.ld,q3,oD,L1]
   by_cases c1:t.elem=0
   case neg=>simp only[decide_eq_false c1,N6,t3',vdF,gdF,oD,P0,Bool.false_eq_true,if_false];exact fin false (by rw[e6,decide_eq_false c1];rfl)
   simp only[decide_eq_true c1,N6,t4',vdT,oD,P0,if_true,F8,Nat.zero_add,h2.ld,q4,L1]
   by_cases c2:t.len=0
   case neg=>simp only[decide_eq_false c2,N6,t3',vdF,gdF,oD,P0,Bool.false_eq_true,if_false];exact fin false (by rw[e6,decide_eq_false c2,Bool.and_false];rfl)
   simp only[decide_eq_true c2,N6,t4',vdT,gdT,oD,P0,if_true,F8,Nat.zero_add,h2.ld,q2]
   refine(c3j (p:=fun f=> !K7 m f.2) (by omega) fun f hf=>a1S (cs:=[.ptr k 0]) (by kernel_rfl) (c3Z hm (ht.names f hf).2 h0)).use fun d S' ⟨h1,h2⟩=> ?_
   subst h1 h2
   simp only[unN,oD,vdT,P0,if_true]
   refine fin _ ?_
   rw[e6,decide_eq_true c1,decide_eq_true c2,c8V];rfl
  rw[L1,oD,M0]
  refine⟨fun k7=> ?_,fun k7=> ?_⟩
  ·have e7:a0m m t=(c3n m t&&decide (0≤t.len∧t.len≤65536)):=by unfold a0m;rw[if_neg k6,if_pos k7]
   rw[←hb]at e7
   cases b with
   |false=>simp only[N6,t3',vdF,gdF,oD,P0,Bool.false_eq_true,if_false];exact fin false (by rw[e7];rfl)
   |true=>
    simp only[N6,t4',vdT,oD,P0,if_true,F8,Nat.zero_add,h2.ld,q4,a9G]
    by_cases c1:t.len≥0
    ·simp only[decide_eq_true c1,N6,t4',vdT,oD,P0,if_true,F8,Nat.zero_add,h2.ld,q4,d1S]
     exact fin _ (by rw[e7,Bool.true_and];exact decide_eq_decide.2 ⟨fun h=>h.2,fun h=>⟨c1,h⟩⟩)
    ·simp only[decide_eq_false c1,N6,t3',vdF,oD,P0,Bool.false_eq_true,if_false]
     exact fin false (by rw[e7,decide_eq_false (fun h=>c1 h.1)];rfl)
  rw[L1,oD,M0]
  refine⟨fun k8=> ?_,fun k8=>fin false (by unfold a0m;rw[if_neg k6,if_neg k7,if_neg k8])⟩
  have e8:a0m m t=(c3n m t&&decide (t.len=0)):=by unfold a0m;rw[if_neg k6,if_neg k7,if_pos k8]
  rw[←hb]at e8
  cases b with
  |false=>simp only[N6,t3',vdF,gdF,oD,P0,Bool.false_eq_true,if_false];exact fin false (by rw[e8];rfl)
  |true=>
   simp only[N6,t4',vdT,oD,P0,if_true,F8,Nat.zero_add,h2.ld,q4,L1]
   exact fin _ (by rw[e8,Bool.true_and])
 by_cases c1:t.name=[]
 case neg=>
  simp only[decide_eq_false c1,N6,t3',vdF,gdF,oD,P0,Bool.false_eq_true,if_false]
  exact rest false (by rw[c5q,decide_eq_false c1];rfl)
 simp only[decide_eq_true c1,N6,t4',vdT,oD,P0,if_true,h2.ld,q2,a3F,L1,lc]
 by_cases c2:t.fields.length=0
 case neg=>
  simp only[decide_eq_false c2,N6,t3',vdF,gdF,oD,P0,Bool.false_eq_true,if_false]
  exact rest false (by rw[c5q,decide_eq_false c2,Bool.and_false];rfl)
 simp only[decide_eq_true c2,N6,t4',vdT,gdT,oD,P0,if_true,h2.ld,q3]
 rw[h0.all (n:=3) (by decide) rfl,oD]
 refine(show j6 Try.prog E w0 Q9 [moD m, .int .i64 t.elem] S3 _ from(a6b hm ht.elem).use ?_)
 exact rest _ (by rw[c5q,decide_eq_true c1,decide_eq_true c2];rfl)
theorem b4V{m:Mo}(hm:m.Ok){t:Int}(ht:X1 t){S:b8}{k:Nat}(hk:z7 S k 3 (O9 m)):j6 Try.prog E w0 a2J [.int .i64 t, .ptr k 0] S fun d S'=>d= .bool (!K7 m t)∧S'=S:=by
 refine b1r ?_
 unfold a7k
 rw[hk.all (n:=3) (by decide) rfl,oD]
 refine(show j6 Try.prog E w0 Q9 [moD m, .int .i64 t] S _ from(a6b hm ht).use ?_)
 rw[unN,oD]
 exact d9.here ⟨rfl,rfl⟩
theorem c5m{m:Mo}(hm:m.Fits){r:Ro}{y:In}(hy:y.Ok){S:b8}{k k2:Nat}(hk:z7 S k 3 (O9 m))(hk2:z7 S k2 6 (P1 r)):j6 Try.prog E w0 a2S [inD y, .ptr k 0, .ptr k2 0] S fun d S'=>d= .bool (!a1T m r y)∧S'=S:=by
 refine b1t ?_
 unfold a7i
 rw[inD,W3,oD]
 intro k0 a0 n0
 have c0:z7 (S.set k0 ⟨4,[O2 y],a0⟩) k0 4 (O2 y):=z7.new
 rw[show(O2 y).length=4 from rfl,c0.all (n:=4) (by decide) rfl,oD,(hk.set n0).all (n:=3) (by decide) rfl,oD]
 refine(show j6 Try.prog E w0 a0Z [inD y,moD m] _ _ from(b5P hy hm).use ?_)
 rintro v S' ⟨p,q,rfl,g⟩
 have hle:=(Two.le g)
 have c0:=c0.le hle
 have c2:=(hk2.set (o:=⟨4,[O2 y],a0⟩) n0).le hle
 have l0:(O2 y)[0]? =some (.int .u8 y.op):=rfl
 have l1:(O2 y)[1]? =some (.int .i64 y.a):=rfl
 have l3:(P1 r)[3]? =some (.int .i64 r.locals):=rfl
 have hS:S.le S':=b8.le_trans (b8.le_new n0) hle
 have fin:∀b:Bool,a1T m r y= !b→d9 E (fun d S'=>d= .bool (!a1T m r y)∧S'=S) (.bool b) S':=fun b h=>by rw[h,Bool.not_not];exact d9.less hS (d9.here ⟨rfl,rfl⟩)
 simp only[exD,List.getElem?_cons_zero,List.getElem?_cons_succ,oD,a5M]
 by_cases c1:(s7 y m).2.2=0
 case neg=>
  simp only[decide_eq_true c1,ne_eq,not_false_eq_true,decide_true,N6,t1',vdF,oD,P0,if_true]
  exact fin true (by unfold a1T;rw[decide_eq_false c1];rfl)
 have c1':decide ((s7 y m).2.2≠0)=false:=decide_eq_false (fun h=>h c1)
 have em:a1T m r y= !(decide (y.op=7∨y.op=8)&&decide (r.locals≤y.a)):=by unfold a1T;rw[decide_eq_true c1,Bool.true_and]
 simp only[c1',N6,t2',vdT,oD,P0,Bool.false_eq_true,if_false,F8,Nat.zero_add,c0.ld,l0,L1]
 by_cases c7:y.op=7
 ·simp only[decide_eq_true c7,N6,t1',t4',vdF,vdT,oD,P0,if_true,F8,Nat.zero_add,c0.ld,c2.ld,l1,l3,a9G]
  refine fin _ ?_
  rw[em,decide_eq_true (.inl c7),Bool.true_and]
 simp only[decide_eq_false c7,N6,t2',vdT,oD,P0,Bool.false_eq_true,if_false,F8,Nat.zero_add,c0.ld,l0,L1]
 by_cases c8:y.op=8
 ·simp only[decide_eq_true c8,N6,t4',vdT,oD,P0,if_true,F8,Nat.zero_add,c0.ld,c2.ld,l1,l3,a9G]
  refine fin _ ?_
  rw[em,decide_eq_true (.inr c8),Bool.true_and]
 ·simp only[decide_eq_false c8,N6,t3',vdF,oD,P0,Bool.false_eq_true,if_false]
  exact fin false (by rw[em,decide_eq_false (fun h=>h.elim c7 c8)];rfl)
end
end
section
theorem c3U{α:Type}{p:α→Bool}(l:List α):(l.any fun a=> !p a)= !l.all p:=by rw[←c8V,Bool.not_not]
section
variable{E:i9}{w0:j7}
theorem b6W{m:Mo}(hm:m.Fits){r:Ro}(hr:r.Ok)(hc:r.code.length<2^30):P9 Try.prog E w0 a1L [moD m, .agg (P1 r)] (.bool (a2W m r)):=fun S=>by
 refine b4n ?_
 unfold a9Z
 rw[moD,W3,oD]
 intro k a n
 rw[W3,oD]
 intro k2 a2 n2
 obtain⟨ne2,n2'⟩:=b8.fresh n2
 generalize hS3:(S.set k _).set k2 _=S3
 have h2:z7 S3 k2 6 (P1 r):=by rw[←hS3];exact z7.new
 have h0:z7 S3 k 3 (O9 m):=by rw[←hS3];exact(z7.new).set n2
 have hle:S.le S3:=by rw[←hS3];exact b8.le_set (b8.le_new n) n2'
 have q1:(P1 r)[1]? =some (iD r.params):=rfl
 have q2:(P1 r)[2]? =some (iD r.results):=rfl
 have q3:(P1 r)[3]? =some (.int .i64 r.locals):=rfl
 have q4:(P1 r)[4]? =some (.int .i64 r.stack):=rfl
 have q5:(P1 r)[5]? =some (bD r.code):=rfl
 have fin:∀b:Bool,a2W m r=b→d9 E (fun d' S'=>d'= .bool (a2W m r)∧S'=S) (.bool b) S3:=fun b h=>by rw[h];exact d9.less hle d9.pure
 have hp:=hr.params
 have hq:=hr.results
 have hmo:=hm.ok
 simp only[oD,F8,Nat.zero_add,h2.ld,q1]
 refine(b2y (p:=fun t=> !K7 m t) (by omega) fun t ht=>a1S (cs:=[.ptr k 0]) (by kernel_rfl) (b4V hmo (hr.ints t (List.mem_append_left _ ht)) h0)).use fun d S' ⟨g1,g2⟩=> ?_
 subst g1 g2
 rw[c3U]
 cases c1:r.params.all (K7 m) with
 |false=>
  simp only[Bool.not_false,N6,t1',vdF,gdF,oD,P0,if_true,cdT]
  exact fin false (by unfold a2W;rw[c1];rfl)
 |true=>
 simp only[Bool.not_true,N6,t2',vdT,gdT,oD,h2.ld,F8,Nat.zero_add,q2]
 refine(b2y (p:=fun t=> !K7 m t) (by omega) fun t ht=>a1S (cs:=[.ptr k 0]) (by kernel_rfl) (b4V hmo (hr.ints t (List.mem_append_right _ ht)) h0)).use fun d S' ⟨g1,g2⟩=> ?_
 subst g1 g2
 rw[c3U]
 cases c2:r.results.all (K7 m) with
 |false=>
  simp only[Bool.not_false,N6,t1',vdF,gdF,oD,P0,Bool.false_eq_true,if_false,if_true,cdT]
  exact fin false (by unfold a2W;rw[c1,c2];rfl)
 |true=>
 simp only[Bool.not_true,N6,t2',vdT,gdT,oD,P0,Bool.false_eq_true,if_false,h2.ld,F8,Nat.zero_add,q3,q1,a3I,L7]
 by_cases c3:r.locals<(r.params.length:Int)
 ·simp only[decide_eq_true c3,N6,t1',vdF,gdF,oD,P0,if_true,cdT]
  exact fin false (by unfold a2W;rw[c1,c2,decide_eq_true c3];rfl)
 simp only[decide_eq_false c3,N6,t2',vdT,gdT,oD,P0,Bool.false_eq_true,if_false,h2.ld,F8,Nat.zero_add,q4,L7]
 rw[M0]
 refine⟨fun c4=>fin false (by unfold a2W;rw[c1,c2,decide_eq_false c3,decide_eq_true c4];rfl),fun c4=> ?_⟩
 rw[q5,oD]
 refine(c8h hr.bytes hc).use ?_
 rw[d3p]
 simp only[exD,List.getElem?_cons_zero,List.getElem?_cons_succ,oD,L1]
 obtain⟨i1,i2,i3⟩:=d3j (bs:=r.code) hr.bytes
 have e0:a2W m r=(decide ((a8n (a6P r.code)).2.2=0)&&(a8n (a6P r.code)).1.all (a1T m r)):=by unfold a2W;rw[c1,c2,decide_eq_false c3,decide_eq_false c4];rfl
 by_cases c5:(a8n (a6P r.code)).2.2=0
 ·simp only[decide_eq_true c5,N6,t4',vdT,gdT,oD,P0,if_true]
  refine(d2G (p:=fun y=> !a1T m r y) (by omega) fun y hy=>a1S (cs:=[.ptr k 0, .ptr k2 0]) (by kernel_rfl) (c5m hm (i1 y hy) h0 h2)).use fun d S' ⟨g1,g2⟩=> ?_
  subst g1 g2
  rw[c3U]
  simp only[unN,oD,vdT,P0,if_true,Bool.not_not]
  exact fin _ (by rw[e0,decide_eq_true c5,Bool.true_and])
 ·simp only[decide_eq_false c5,N6,t3',vdF,gdF,oD,P0,Bool.false_eq_true,if_false]
  exact fin false (by rw[e0,decide_eq_false c5,Bool.false_and])
theorem c0K{f:Tx×Int}{S:b8}:j6 Try.prog E w0 a1v [.agg (a1z f)] S fun d S'=>d= .bool (decide (f.1.length>65536))∧S'=S:=by
 refine a8Y ?_
 unfold a4R
 rw[W3,oD]
 intro k0 a0 n0
 have c0:z7 (S.set k0 ⟨2,[a1z f],a0⟩) k0 2 (a1z f):=z7.new
 rw[show(a1z f).length=2 from rfl,F8,oD,c0.ld,show(a1z f)[0+0]? =some (.str f.1) from rfl,oD,lnS,oD,a9k,oD]
 exact d9.drop n0 (d9.here ⟨by rw[decide_eq_decide.2 (show(f.1.length:Int)>65536↔f.1.length>65536 by omega)],rfl⟩)
theorem c0k{t:Tx}{S:b8}:j6 Try.prog E w0 a1A [.str t] S fun d S'=>d= .bool (decide (t.length>65536))∧S'=S:=by
 refine a9E ?_
 unfold a4P
 rw[lnS,oD,a9k,oD]
 exact d9.here ⟨by rw[decide_eq_decide.2 (show(t.length:Int)>65536↔t.length>65536 by omega)],rfl⟩
theorem gtN(a b:Nat):f9 .gtr (.int .i64 (a:Int)) (.int .i64 (b:Int))=some (.bool (decide (a>b))):=by
 rw[a9k,decide_eq_decide.2 (show(a:Int)>(b:Int)↔a>b by omega)]
theorem b4o{m:Mo}(hm:m.Fits):P9 Try.prog E w0 a2N [moD m] (.int .i64 (O8 m)):=fun S=>by
 refine b1m ?_
 unfold a7g
 rw[moD,W3,oD]
 intro k a n
 have h0:z7 (S.set k ⟨3,[O9 m],a⟩) k 3 (O9 m):=z7.new
 have hle:S.le (S.set k ⟨3,[O9 m],a⟩):=b8.le_new n
 rw[show(O9 m).length=3 from rfl]
 generalize S.set k ⟨3,[O9 m],a⟩=S1 at*
 have hmo:=hm.ok
 have q0:(O9 m)[0]? =some (a9a m.types):=rfl
 have q1:(O9 m)[1]? =some (b0y m.texts):=rfl
 have q2:(O9 m)[2]? =some (a8v m.funcs):=rfl
 have t0:=hm.types
 have t1:=hm.texts
 have t2:=hm.funcs
 have fin:∀ {T:b8} {e:Int},S.le T→O8 m=e→d9 E (fun d' S'=>d'= .int .i64 (O8 m)∧S'=S) (.int .i64 e) T:=fun{T e} hl h=>by rw[h];exact d9.less hl d9.pure
 have g256:∀a:Nat,f9 .gtr (.int .i64 (a:Int)) (.int .i64 256)=some (.bool (decide (a>256))):=fun a=>gtN a 256
 have g32768:∀a:Nat,f9 .gtr (.int .i64 (a:Int)) (.int .i64 32768)=some (.bool (decide (a>32768))):=fun a=>gtN a 32768
 have g65536:∀a:Nat,f9 .gtr (.int .i64 (a:Int)) (.int .i64 65536)=some (.bool (decide (a>65536))):=fun a=>gtN a 65536
 have g32:∀a:Nat,f9 .gtr (.int .i64 (a:Int)) (.int .i64 32)=some (.bool (decide (a>32))):=fun a=>gtN a 32
 have g8:∀a:Nat,f9 .gtr (.int .i64 (a:Int)) (.int .i64 8)=some (.bool (decide (a>8))):=fun a=>gtN a 8
 simp only[F8,oD,Nat.zero_add,h0.ld,q0,b1v,g256]
 by_cases c0:m.types.length>256
 ·simp only[decide_eq_true c0,N6,t1',vdF,oD,P0,if_true,cdT]
  exact fin hle (by unfold O8;rw[if_pos (.inl c0)])
 simp only[decide_eq_false c0,N6,t2',vdT,oD,h0.ld,q1,F8,Nat.zero_add,b5a,g32768,P0,Bool.false_eq_true,if_false]
 by_cases c1:m.texts.length>32768
 ·simp only[decide_eq_true c1,N6,t1',vdF,oD,P0,if_true,cdT]
  exact fin hle (by unfold O8;rw[if_pos (.inr (.inl c1))])
 simp only[decide_eq_false c1,N6,t2',vdT,oD,h0.ld,q2,F8,Nat.zero_add,b1i,g256,P0,Bool.false_eq_true,if_false]
 by_cases c2:m.funcs.length>256
 ·simp only[decide_eq_true c2,cdT]
  exact fin hle (by unfold O8;rw[if_pos (.inr (.inr c2))])
 simp only[decide_eq_false c2,cdF]
 have e0:O8 m=if O6 (a4T m) m.types≠0 then O6 (a4T m) m.types else if m.texts.any (fun t=>decide (t.length>65536))=true then 3 else O6 (a8a m) m.funcs:=by
  unfold O8;rw[if_neg (by omega)]
 refine a9n (I:=fun n x1 x24 x25 x26 T=>x1= .ptr k 0∧x24=a9a m.types∧x25= .int .i64 (m.types.length:Int)∧S.le T∧z7 T k 3 (O9 m)∧∃i:Nat,x26= .int .i64 (i:Int)∧i+n=m.types.length∧O6 (a4T m) m.types=O6 (a4T m) (m.types.drop i)) ?_ (n:=m.types.length)
  ⟨rfl,rfl,rfl,hle,h0,0,rfl,by omega,rfl⟩
 rintro n _ _ _ _ T ⟨rfl,rfl,rfl,hT,cT,i,rfl,hi,hfi⟩
 unfold a1x
 rw[L7,oD,M0]
 refine⟨fun hlt=> ?_,fun hge=> ?_⟩
 ·have hlt:i<m.types.length:=by omega
  obtain⟨t,ht⟩:∃t,t=m.types[i]:=⟨_,rfl⟩
  have et:m.types[i]? =some t:=by rw[List.getElem?_eq_getElem hlt,ht]
  have htm:t∈m.types:=by rw[ht];exact List.getElem_mem _
  have htok:=hmo.ty t htm
  rw[b8g hlt, ←ht]at hfi
  rw[c4L et,oD,d5d,oD]
  intro k2 a2 n2
  refine(z7.new (sz:=5) (c:=[(.int .u8 0),(.str []), .nilSlc,(.int .i64 0),(.int .i64 0)])).st (ds:=X7 t) (W3 _) ⟨rfl,by decide,by decide⟩ fun a2=> ?_
  rw[b8.set_set,show l7 [(D.int .u8 0),(.str []), .nilSlc,(.int .i64 0),(.int .i64 0)] 0 (X7 t)=X7 t from rfl]
  have c5:z7 (T.set k2 ⟨5,[X7 t],a2⟩) k2 5 (X7 t):=z7.new
  have hT2:S.le (T.set k2 ⟨5,[X7 t],a2⟩):=b8.le_set hT (b8.none_of hT n2)
  have cT2:=cT.set (o:=⟨5,[X7 t],a2⟩) n2
  generalize T.set k2 ⟨5,[X7 t],a2⟩=T2 at*
  have p1:(X7 t)[1]? =some (.str t.name):=rfl
  have p2:(X7 t)[2]? =some (a6i t.fields):=rfl
  have hend:∀b:Bool,a7o t=b→J7 E w0 (fun x1 x24 x25 x26 S_1=>∃m_1,m_1<n∧x1= .ptr k 0∧x24=a9a m.types∧x25= .int .i64 (m.types.length:Int)∧S.le S_1∧z7 S_1 k 3 (O9 m)∧∃i:Nat,x26= .int .i64 (i:Int)∧i+m_1=m.types.length∧O6 (a4T m) m.types=O6 (a4T m) (m.types.drop i))
    (d9 E fun d' S'=>d'= .int .i64 (O8 m)∧S'=S) (.ptr k 0) (.ptr k2 0) (a9a m.types) (.int .i64 (m.types.length:Int)) (.int .i64 (i:Int)) (.bool b) T2:=fun b hb=>by
   refine a8f ?_
   unfold a4j
   cases b with
   |true=>
    rw[cdT]
    have:a4T m t=3:=by unfold a4T;rw[if_pos hb]
    rw[this,if_neg (by decide)]at hfi
    exact fin hT2 (by rw[e0,hfi,if_pos (by decide)])
   |false=>
    rw[cdF,cT2.all (n:=3) (by decide) rfl,oD,c5.all (n:=5) (by decide) rfl,oD]
    refine(show j6 Try.prog E w0 a1M [moD m, .agg (X7 t)] T2 _ from(b6N hmo htok).use ?_)
    rw[unN,oD,cdB]
    refine⟨fun h=> ?_,fun h=> ?_⟩
    ·have h:a0m m t=false:=by simpa using h
     have:a4T m t=130:=by unfold a4T;rw[if_neg (by rw[hb];simp),if_neg (by rw[h];simp)]
     rw[this,if_neg (by decide)]at hfi
     exact fin hT2 (by rw[e0,hfi,if_pos (by decide)])
    ·have h:a0m m t=true:=by simpa using h
     have:a4T m t=0:=by unfold a4T;rw[if_neg (by rw[hb];simp),if_pos h]
     rw[this,if_pos rfl]at hfi
     rw[H7,oD,m7 (by omega) (by omega)]
     exact⟨n - 1,by omega,rfl,rfl,rfl,hT2,cT2,i+1,rfl,by omega,hfi⟩
  simp only[F8,oD,Nat.zero_add,c5.ld,p2,a3F,g32]
  by_cases d1:t.fields.length>32
  ·rw[decide_eq_true d1,cdT]
   exact hend true (by unfold a7o;rw[decide_eq_true d1];rfl)
  rw[decide_eq_false d1,cdF]
  simp only[p1,lnS,oD,g65536]
  by_cases d2:t.name.length>65536
  ·rw[decide_eq_true d2,cdT]
   exact hend true (by unfold a7o;rw[decide_eq_true d2];simp)
  rw[decide_eq_false d2,cdF]
  have hfl:=htok.fields
  refine(c3j (p:=fun f=>decide (f.1.length>65536)) (by omega) fun f hf=>a1S (cs:=[]) (by kernel_rfl) c0K).use fun d S' ⟨g1,g2⟩=> ?_
  subst g1 g2
  exact hend _ (by unfold a7o;rw[decide_eq_false d1,decide_eq_false d2];rfl)
 have hi:i=m.types.length:=by omega
 subst hi
 rw[List.drop_length,O6]at hfi
 rw[hfi,if_neg (by simp)]at e0
 simp only[F8,oD,cT.ld,q1]
 refine(c9R (p:=fun t=>decide (t.length>65536)) (by omega) fun t ht=>a1S (cs:=[]) (by kernel_rfl) c0k).use fun d S' ⟨g1,g2⟩=> ?_
 subst g1 g2
 rw[cdB]
 refine⟨fun h=>fin hT (by rw[e0,if_pos h]),fun h=> ?_⟩
 rw[if_neg (by rw[h];simp)]at e0
 simp only[F8,oD,cT.ld,q2,b1i]
 refine a8S (I:=fun n x1 x52 x53 x54 T=>x1= .ptr k 0∧x52=a8v m.funcs∧x53= .int .i64 (m.funcs.length:Int)∧S.le T∧z7 T k 3 (O9 m)∧∃i:Nat,x54= .int .i64 (i:Int)∧i+n=m.funcs.length∧O6 (a8a m) m.funcs=O6 (a8a m) (m.funcs.drop i)) ?_ (n:=m.funcs.length)
  ⟨rfl,rfl,rfl,hT,cT,0,rfl,by omega,rfl⟩
 rintro n _ _ _ _ T ⟨rfl,rfl,rfl,hT,cT,i,rfl,hi,hfi⟩
 unfold a1y
 rw[L7,oD,M0]
 refine⟨fun hlt=> ?_,fun hge=> ?_⟩
 ·have hlt:i<m.funcs.length:=by omega
  obtain⟨t,ht⟩:∃t,t=m.funcs[i]:=⟨_,rfl⟩
  have et:m.funcs[i]? =some t:=by rw[List.getElem?_eq_getElem hlt,ht]
  have htm:t∈m.funcs:=by rw[ht];exact List.getElem_mem _
  have htok:=hmo.ro t htm
  obtain⟨b1,b2,b3⟩:=hm.params t htm
  rw[b8g hlt, ←ht]at hfi
  rw[b5X et,oD,d5K,oD]
  intro k2 a2 n2
  refine(z7.new (sz:=6) (c:=[(.str []), .nilSlc, .nilSlc,(.int .i64 0),(.int .i64 0), .nilSlc])).st (ds:=P1 t) (W3 _) ⟨rfl,by decide,by decide⟩ fun a2=> ?_
  rw[b8.set_set,show l7 [(D.str []), .nilSlc, .nilSlc,(.int .i64 0),(.int .i64 0), .nilSlc] 0 (P1 t)=P1 t from rfl]
  have c6:z7 (T.set k2 ⟨6,[P1 t],a2⟩) k2 6 (P1 t):=z7.new
  have hT2:S.le (T.set k2 ⟨6,[P1 t],a2⟩):=b8.le_set hT (b8.none_of hT n2)
  have cT2:=cT.set (o:=⟨6,[P1 t],a2⟩) n2
  generalize T.set k2 ⟨6,[P1 t],a2⟩=T2 at*
  have p0:(P1 t)[0]? =some (.str t.name):=rfl
  have p1:(P1 t)[1]? =some (iD t.params):=rfl
  have p2:(P1 t)[2]? =some (iD t.results):=rfl
  have p3:(P1 t)[3]? =some (.int .i64 t.locals):=rfl
  have p4:(P1 t)[4]? =some (.int .i64 t.stack):=rfl
  have p5:(P1 t)[5]? =some (bD t.code):=rfl
  have hend:∀b:Bool,a2P t=b→B7 E w0 (fun x1 x52 x53 x54 S_1=>∃m_1,m_1<n∧x1= .ptr k 0∧x52=a8v m.funcs∧x53= .int .i64 (m.funcs.length:Int)∧S.le S_1∧z7 S_1 k 3 (O9 m)∧∃i:Nat,x54= .int .i64 (i:Int)∧i+m_1=m.funcs.length∧O6 (a8a m) m.funcs=O6 (a8a m) (m.funcs.drop i))
    (d9 E fun d' S'=>d'= .int .i64 (O8 m)∧S'=S) (.ptr k 0) (.ptr k2 0) (a8v m.funcs) (.int .i64 (m.funcs.length:Int)) (.int .i64 (i:Int)) (.bool b) T2:=fun b hb=>by
   refine a8g ?_
   unfold a4o
   cases b with
   |true=>
    rw[cdT]
    have:a8a m t=3:=by unfold a8a;rw[if_pos hb]
    rw[this,if_neg (by decide)]at hfi
    exact fin hT2 (by rw[e0,hfi])
   |false=>
    rw[cdF,cT2.all (n:=3) (by decide) rfl,oD,c6.all (n:=6) (by decide) rfl,oD]
    refine(show j6 Try.prog E w0 a1L [moD m, .agg (P1 t)] T2 _ from(b6W hm htok b3).use ?_)
    rw[unN,oD,cdB]
    refine⟨fun h=> ?_,fun h=> ?_⟩
    ·have h:a2W m t=false:=by simpa using h
     have:a8a m t=130:=by unfold a8a;rw[if_neg (by rw[hb];simp),if_neg (by rw[h];simp)]
     rw[this,if_neg (by decide)]at hfi
     exact fin hT2 (by rw[e0,hfi])
    ·have h:a2W m t=true:=by simpa using h
     have:a8a m t=0:=by unfold a8a;rw[if_neg (by rw[hb];simp),if_pos h]
     rw[this,if_pos rfl]at hfi
     rw[H7,oD,m7 (by omega) (by omega)]
     exact⟨n - 1,by omega,rfl,rfl,rfl,hT2,cT2,i+1,rfl,by omega,hfi⟩
  simp only[F8,oD,Nat.zero_add,c6.ld,p1,a3I,g32]
  by_cases d1:t.params.length>32
  ·rw[decide_eq_true d1,cdT]
   exact hend true (by unfold a2P;rw[decide_eq_true d1];simp)
  rw[decide_eq_false d1,cdF]
  simp only[p2,a3I,oD,g8]
  by_cases d2:t.results.length>8
  ·rw[decide_eq_true d2,cdT]
   exact hend true (by unfold a2P;rw[decide_eq_true d2];simp)
  rw[decide_eq_false d2,cdF]
  simp only[p3,oD,a9k]
  by_cases d3:t.locals>256
  ·rw[decide_eq_true d3,cdT]
   exact hend true (by unfold a2P;rw[decide_eq_true d3];simp)
  rw[decide_eq_false d3,cdF]
  simp only[p4,oD,a9k]
  by_cases d4:t.stack>4096
  ·rw[decide_eq_true d4,cdT]
   exact hend true (by unfold a2P;rw[decide_eq_true d4];simp)
  rw[decide_eq_false d4,cdF]
  simp only[p5,a2E,oD,g65536]
  by_cases d5:t.code.length>65536
  ·rw[decide_eq_true d5,cdT]
   exact hend true (by unfold a2P;rw[decide_eq_true d5];simp)
  rw[decide_eq_false d5,cdF]
  simp only[p0,lnS,oD,g65536]
  exact hend _ (by unfold a2P;rw[decide_eq_false d1,decide_eq_false d2,decide_eq_false d3,decide_eq_false d4,decide_eq_false d5];rfl)
 ·have hi:i=m.funcs.length:=by omega
  subst hi
  rw[List.drop_length,O6]at hfi
  exact fin hT (by rw[e0,hfi])
end
end
end Go.Proofs.Ytdkidgkiplcggaa.d
end
