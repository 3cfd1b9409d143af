/-
  TransferRisesSaid: part Qbb of its proof.
-/
import Derived.Test.YtdkidgkiplcggaaGreatQax
import Derived.Test.YtdkidgkiplcggaaGreatQba
set_option linter.unusedVariables false
set_option linter.unusedSimpArgs false
set_option maxRecDepth 100000
section
open Go.Proofs Go Go.Am Go.Op
namespace Go.Proofs.YtdkidgkiplcggaaGreat.d
section
def L3(m:Mo)(t:Int):Bool:=decide (1≤t∧t≤5)||decide (16≤t∧t - 16<m.types.length)
def c5G(m:Mo)(t:Ty):Bool:=decide (t.name=[])&&decide (t.fields.length=0)&&L3 m t.elem
def a0L(m:Mo)(t:Ty):Bool:=
 if t.kind=6 then decide (t.elem=0)&&decide (t.len=0)&&t.fields.all fun f=>L3 m f.2
 else if t.kind=7 then c5G m t&&decide (0≤t.len∧t.len≤65536)
 else if t.kind=8 then c5G m t&&decide (t.len=0) else false
def a2v(m:Mo)(r:Ro)(y:In):Bool:=decide ((t6 y m).2.2=0)&& !(decide (y.op=7∨y.op=8)&&decide (r.locals≤y.a))
def a3m(m:Mo)(r:Ro):Bool:=
 r.params.all (L3 m)&&r.results.all (L3 m)&& !decide (r.locals<r.params.length)&& !decide (r.stack<0)&&
  decide ((a8O (a7y r.code)).2.2=0)&&(a8O (a7y r.code)).1.all (a2v m r)
section
variable{E:j2}{w0:j9}
def a4A(E:j2)(w0:j9)(S:b8)(fv d:D)(b:Bool):Prop:=∀K:D→b8→Prop,K (.bool b) S→a0f Tryz.prog (j8 Tryz.prog E w0) S fv [d] K
theorem a2z{f:FuncId}(hf:a8p Tryz.prog f=true){cs:List D}{d:D}{b:Bool}{S:b8}(h:j8 Tryz.prog E w0 f (d::cs) S fun d' S'=>d'= .bool b∧S'=S):a4A E w0 S (.fn (.func f) [] cs) d b:=fun K hK=>by
 simp only[a0f,a9u,hf,List.nil_append,List.singleton_append,if_true]
 refine h.use fun d' S' ⟨h1,h2⟩=> ?_
 subst h1 h2
 exact hK
def c1y{α:Type}(p:α→Bool)(l:List α):Int:=match l.findIdx? p with
 |some i=>(i:Int)
 |none=> -1
theorem c7e{α:Type}{p:α→Bool}{l:List α}{i:Nat}(h:(l.take i).any p=false)(hi:i≤l.length):l.findIdx? p=((l.drop i).findIdx? p).map (· +i):=by
 induction l generalizing i with
 |nil=>simp
 |cons a l ih=>
  cases i with
  |zero=>simp
  |succ i=>
   simp only[List.take_succ_cons,List.any_cons,Bool.or_eq_false_iff]at h
   rw[List.drop_succ_cons,List.findIdx?_cons,h.1]
   simp only[Bool.false_eq_true,if_false,ih h.2 (by simpa using hi),Option.map_map]
   cases (l.drop i).findIdx? p<;>simp[Function.comp];omega
theorem c1w{α:Type}{p:α→Bool}{l:List α}:decide (c1y p l≥0)=l.any p:=by
 unfold c1y
 cases h:l.findIdx? p with
 |none=>
  have:∀a∈l,p a=false:=by simpa [List.findIdx?_eq_none_iff]using h
  have:l.any p=false:=by rw[List.any_eq_false];intro a ha;simp[this a ha]
  rw[this];rfl
 |some i=>
  have hi:=List.findIdx?_eq_some_iff_getElem.1 h
  obtain⟨h1,h2,_⟩:=hi
  have:l.any p=true:=List.any_eq_true.2 ⟨_,List.getElem_mem h1,h2⟩
  rw[this]
  exact decide_eq_true (by simp)
theorem b7G{α:Type}{p:α→Bool}{l:List α}{i:Nat}(h:(l.take i).any p=false)(hi:i<l.length):(p l[i]=true→c1y p l=(i:Int))∧(p l[i]=false→(l.take (i+1)).any p=false):=by
 constructor
 ·intro hp
  unfold c1y
  rw[c7e h (by omega),List.drop_eq_getElem_cons hi,List.findIdx?_cons,hp]
  simp
 ·intro hp
  rw[List.take_add_one,List.getElem?_eq_getElem hi,List.any_append,h]
  simpa using hp
theorem c1j{α:Type}{p:α→Bool}{l:List α}(h:l.any p=false):c1y p l= -1:=by
 unfold c1y
 have:l.findIdx? p=none:=by
  rw[List.findIdx?_eq_none_iff]
  intro a ha
  have:=List.any_eq_false.1 h a ha
  simpa using this
 rw[this]
theorem c8C{l:List (Tx×Int)}{p:Tx×Int→Bool}{fv:D}(hl:l.length<2^60){S:b8}(hp:∀y∈l,a4A E w0 S fv (.agg (a1F y)) (p y)):j8 Tryz.prog E w0 L1 [a3a l,fv] S fun d S'=>d= .int .i64 (c1y p l)∧S'=S:=by
 refine a3H ?_
 unfold a0x
 rw[a1Q,oD]
 refine a2R (I:=fun n x0 x1 x7 x8 T=>S=T∧x0=a3a l∧fv=x1∧x7= .int .i64 (l.length:Int)∧∃i:Nat,x8= .int .i64 (i:Int)∧i+n=l.length∧(l.take i).any p=false) ?_ (n:=l.length) ⟨rfl,rfl,rfl,rfl,0,rfl,by omega,rfl⟩
 rintro n _ _ _ _ _ ⟨rfl,rfl,rfl,rfl,i,rfl,hi,ht⟩
 unfold J3
 rw[H7,oD,I6]
 refine⟨fun hlt=> ?_,fun hge=> ?_⟩
 ·have hlt:i<l.length:=by omega
  obtain⟨s1,s2⟩:=b7G ht hlt
  rw[b3b (List.getElem?_eq_getElem hlt),oD,d4a,oD]
  refine hp _ (List.getElem_mem _) _ ?_
  rw[cdB]
  refine⟨fun h=>d9.here ⟨by rw[s1 h],rfl⟩,fun h=> ?_⟩
  rw[D7,oD,l8 (by omega) (by omega)]
  exact⟨n - 1,by omega,rfl,rfl,rfl,rfl,i+1,rfl,by omega,s2 h⟩
 ·rw[List.take_of_length_le (by omega)]at ht
  exact d9.here ⟨by rw[c1j ht],rfl⟩
theorem c8y{l:List Tx}{p:Tx→Bool}{fv:D}(hl:l.length<2^60){S:b8}(hp:∀y∈l,a4A E w0 S fv (.str y) (p y)):j8 Tryz.prog E w0 R5 [b1r l,fv] S fun d S'=>d= .int .i64 (c1y p l)∧S'=S:=by
 refine a5m ?_
 unfold a1V
 rw[a8N,oD]
 refine a3X (I:=fun n x0 x1 x7 x8 T=>S=T∧x0=b1r l∧fv=x1∧x7= .int .i64 (l.length:Int)∧∃i:Nat,x8= .int .i64 (i:Int)∧i+n=l.length∧(l.take i).any p=false) ?_ (n:=l.length) ⟨rfl,rfl,rfl,rfl,0,rfl,by omega,rfl⟩
 rintro n _ _ _ _ _ ⟨rfl,rfl,rfl,rfl,i,rfl,hi,ht⟩
 unfold N6
 rw[H7,oD,I6]
 refine⟨fun hlt=> ?_,fun hge=> ?_⟩
 ·have hlt:i<l.length:=by omega
  obtain⟨s1,s2⟩:=b7G ht hlt
  rw[c5Z (List.getElem?_eq_getElem hlt),oD,lsE,List.getElem?_cons_zero,oD]
  refine hp _ (List.getElem_mem _) _ ?_
  rw[cdB]
  refine⟨fun h=>d9.here ⟨by rw[s1 h],rfl⟩,fun h=> ?_⟩
  rw[D7,oD,l8 (by omega) (by omega)]
  exact⟨n - 1,by omega,rfl,rfl,rfl,rfl,i+1,rfl,by omega,s2 h⟩
 ·rw[List.take_of_length_le (by omega)]at ht
  exact d9.here ⟨by rw[c1j ht],rfl⟩
theorem c8O{l:List Int}{p:Int→Bool}{fv:D}(hl:l.length<2^60){S:b8}(hp:∀y∈l,a4A E w0 S fv (.int .i64 y) (p y)):j8 Tryz.prog E w0 a0e [iD l,fv] S fun d S'=>d= .int .i64 (c1y p l)∧S'=S:=by
 refine a7n ?_
 unfold a3y
 rw[Y7,oD]
 refine a5T (I:=fun n x0 x1 x7 x8 T=>S=T∧x0=iD l∧fv=x1∧x7= .int .i64 (l.length:Int)∧∃i:Nat,x8= .int .i64 (i:Int)∧i+n=l.length∧(l.take i).any p=false) ?_ (n:=l.length) ⟨rfl,rfl,rfl,rfl,0,rfl,by omega,rfl⟩
 rintro n _ _ _ _ _ ⟨rfl,rfl,rfl,rfl,i,rfl,hi,ht⟩
 unfold V6
 rw[H7,oD,I6]
 refine⟨fun hlt=> ?_,fun hge=> ?_⟩
 ·have hlt:i<l.length:=by omega
  obtain⟨s1,s2⟩:=b7G ht hlt
  rw[a7J (List.getElem?_eq_getElem hlt),oD,lsE,List.getElem?_cons_zero,oD]
  refine hp _ (List.getElem_mem _) _ ?_
  rw[cdB]
  refine⟨fun h=>d9.here ⟨by rw[s1 h],rfl⟩,fun h=> ?_⟩
  rw[D7,oD,l8 (by omega) (by omega)]
  exact⟨n - 1,by omega,rfl,rfl,rfl,rfl,i+1,rfl,by omega,s2 h⟩
 ·rw[List.take_of_length_le (by omega)]at ht
  exact d9.here ⟨by rw[c1j ht],rfl⟩
theorem d9c(S:b8)(y:In):i5 S 4 (.elt (P8 y) 0)=some (.agg (P8 y)):=rfl
theorem c9h{l:List In}{i:Nat}{y:In}(h:l[i]? =some y):o6 4 (b7y l) (.int .i64 (i:Int))=some (.elt (P8 y) 0):=b1X (by rw[List.getElem?_map,h];rfl)
theorem d0G{l:List In}{p:In→Bool}{fv:D}(hl:l.length<2^60){S:b8}(hp:∀y∈l,a4A E w0 S fv (inD y) (p y)):j8 Tryz.prog E w0 L7 [b7y l,fv] S fun d S'=>d= .int .i64 (c1y p l)∧S'=S:=by
 refine a3J ?_
 unfold a0A
 rw[show m9 (b7y l)=some (.int .i64 (l.length:Int)) by simp[b7y],oD]
 refine a2U (I:=fun n x0 x1 x7 x8 T=>S=T∧x0=b7y l∧fv=x1∧x7= .int .i64 (l.length:Int)∧∃i:Nat,x8= .int .i64 (i:Int)∧i+n=l.length∧(l.take i).any p=false) ?_ (n:=l.length) ⟨rfl,rfl,rfl,rfl,0,rfl,by omega,rfl⟩
 rintro n _ _ _ _ _ ⟨rfl,rfl,rfl,rfl,i,rfl,hi,ht⟩
 unfold J0
 rw[H7,oD,I6]
 refine⟨fun hlt=> ?_,fun hge=> ?_⟩
 ·have hlt:i<l.length:=by omega
  obtain⟨s1,s2⟩:=b7G ht hlt
  rw[c9h (List.getElem?_eq_getElem hlt),oD,d9c,oD]
  refine hp _ (List.getElem_mem _) _ ?_
  rw[cdB]
  refine⟨fun h=>d9.here ⟨by rw[s1 h],rfl⟩,fun h=> ?_⟩
  rw[D7,oD,l8 (by omega) (by omega)]
  exact⟨n - 1,by omega,rfl,rfl,rfl,rfl,i+1,rfl,by omega,s2 h⟩
 ·rw[List.take_of_length_le (by omega)]at ht
  exact d9.here ⟨by rw[c1j ht],rfl⟩
theorem c5q{l:List (Tx×Int)}{p:Tx×Int→Bool}{fv:D}(hl:l.length<2^60){S:b8}(hp:∀y∈l,a4A E w0 S fv (.agg (a1F y)) (p y)):j8 Tryz.prog E w0 B3 [a3a l,fv] S fun d S'=>d= .bool (l.any p)∧S'=S:=by
 refine a2A ?_
 unfold W4
 refine(c8C hl hp).use fun d S' ⟨h1,h2⟩=> ?_
 subst h1 h2
 rw[a8S,oD,c1w];exact d9.here ⟨rfl,rfl⟩
theorem d3m{l:List Tx}{p:Tx→Bool}{fv:D}(hl:l.length<2^60){S:b8}(hp:∀y∈l,a4A E w0 S fv (.str y) (p y)):j8 Tryz.prog E w0 L4 [b1r l,fv] S fun d S'=>d= .bool (l.any p)∧S'=S:=by
 refine a3I ?_
 unfold a0v
 refine(c8y hl hp).use fun d S' ⟨h1,h2⟩=> ?_
 subst h1 h2
 rw[a8S,oD,c1w];exact d9.here ⟨rfl,rfl⟩
theorem b3B{l:List Int}{p:Int→Bool}{fv:D}(hl:l.length<2^60){S:b8}(hp:∀y∈l,a4A E w0 S fv (.int .i64 y) (p y)):j8 Tryz.prog E w0 C4 [iD l,fv] S fun d S'=>d= .bool (l.any p)∧S'=S:=by
 refine a5i ?_
 unfold a1T
 refine(c8O hl hp).use fun d S' ⟨h1,h2⟩=> ?_
 subst h1 h2
 rw[a8S,oD,c1w];exact d9.here ⟨rfl,rfl⟩
theorem d4D{l:List In}{p:In→Bool}{fv:D}(hl:l.length<2^60){S:b8}(hp:∀y∈l,a4A E w0 S fv (inD y) (p y)):j8 Tryz.prog E w0 I1 [b7y l,fv] S fun d S'=>d= .bool (l.any p)∧S'=S:=by
 refine a2x ?_
 unfold W2
 refine(d0G hl hp).use fun d S' ⟨h1,h2⟩=> ?_
 subst h1 h2
 rw[a8S,oD,c1w];exact d9.here ⟨rfl,rfl⟩
theorem t1':(true==false)=false:=rfl
theorem t2':(false==false)=true:=rfl
theorem t3':(false==true)=false:=rfl
theorem t4':(true==true)=true:=rfl
theorem a6C{m:Mo}(hm:m.Ok){t:Int}(ht:I64 t):K9 Tryz.prog E w0 V9 [moD m, .int .i64 t] (.bool (L3 m t)):=fun S=>by
 refine b8H ?_
 unfold b4F
 rw[moD,U9,oD]
 intro k a n
 have h0:u9 (S.set k ⟨3,[M3 m],a⟩) k 3 (M3 m):=u9.new
 rw[show(M3 m).length=3 from rfl]
 have h2:=hm.types
 obtain⟨i1,i2⟩:=ht
 have ld:c9 (S.set k ⟨3,[M3 m],a⟩) (.ptr k 0)=some (b0l m.types):=h0.ld 0
 have fin:∀b:Bool,L3 m t=b→d9 E (fun d' S'=>d'= .bool (L3 m t)∧S'=S) (.bool b) (S.set k ⟨3,[M3 m],a⟩):=fun b h=>by rw[h];exact d9.drop n d9.pure
 rw[d4A,oD]
 by_cases c1:1≤t
 ·simp only[decide_eq_true c1,M4,t4',vdT,oD,M8,if_true,d4A]
  by_cases c2:t≤5
  ·simp only[decide_eq_true c2,M4,t1',vdF,oD,M8,if_true]
   exact fin true (by unfold L3;rw[decide_eq_true ⟨c1,c2⟩];rfl)
  ·simp only[decide_eq_false c2,M4,t2',vdT,oD,M8,Bool.false_eq_true,if_false,a8S]
   by_cases c3:t≥16
   ·simp only[decide_eq_true c3,M4,t4',vdT,oD,M8,if_true,b4u,E2,Nat.zero_add,ld,a6k,H7]
    rw[l8 (by omega) (by omega)]
    refine fin _ ?_
    unfold L3
    rw[decide_eq_false (fun h=>c2 h.2),Bool.false_or]
    exact decide_eq_decide.2 ⟨fun h=>h.2,fun h=>⟨c3,h⟩⟩
   ·simp only[decide_eq_false c3,M4,t3',vdF,oD,M8,Bool.false_eq_true,if_false]
    exact fin false (by unfold L3;rw[decide_eq_false (fun h=>c2 h.2),decide_eq_false (fun h=>c3 h.1)];rfl)
 ·have c3:¬t≥16:=by omega
  simp only[decide_eq_false c1,M4,t3',t2',vdT,vdF,oD,M8,Bool.false_eq_true,if_false,a8S,decide_eq_false c3]
  exact fin false (by unfold L3;rw[decide_eq_false (fun h=>c1 h.1),decide_eq_false (fun h=>c3 h.1)];rfl)
end
end
section
def a7R(t:Ty):Bool:=decide (t.fields.length>32)||decide (t.name.length>65536)||t.fields.any fun f=>decide (f.1.length>65536)
def a3k(r:Ro):Bool:=decide (r.params.length>32)||decide (r.results.length>8)||decide (r.locals>256)||decide (r.stack>4096)||decide (r.code.length>65536)||decide (r.name.length>65536)
def a5E(m:Mo)(t:Ty):Int:=if a7R t=true then 3 else if a0L m t=true then 0 else 130
def a8W(m:Mo)(r:Ro):Int:=if a3k r=true then 3 else if a3m m r=true then 0 else 130
def O8{α:Type}(f:α→Int):List α→Int
 | []=>0
 |a::l=>if f a=0 then O8 f l else f a
theorem b9F{α:Type}{f:α→Int}{l:List α}{i:Nat}(hi:i<l.length):O8 f (l.drop i)=if f l[i]=0 then O8 f (l.drop (i+1)) else f l[i]:=by
 rw[List.drop_eq_getElem_cons hi,O8]
def Q5(m:Mo):Int:=
 if m.types.length>256∨m.texts.length>32768∨m.funcs.length>256 then 3
 else if O8 (a5E m) m.types≠0 then O8 (a5E m) m.types
 else if m.texts.any (fun t=>decide (t.length>65536))=true then 3 else O8 (a8W m) m.funcs
theorem d1A{α:Type}{p:α→Bool}(l:List α):(!l.any fun a=> !p a)=l.all p:=by
 induction l with
 |nil=>rfl
 |cons a l ih=>rw[List.any_cons,List.all_cons, ←ih];cases p a<;>simp
section
variable{E:j2}{w0:j9}
theorem c6E{m:Mo}(hm:m.Ok){f:Tx×Int}(hf:I64 f.2){S:b8}{k:Nat}(hk:u9 S k 3 (M3 m)):j8 Tryz.prog E w0 a1g [.agg (a1F f), .ptr k 0] S fun d S'=>d= .bool (!L3 m f.2)∧S'=S:=by
 refine b2S ?_
 unfold a7N
 rw[U9,oD]
 intro k0 a0 n0
 have c0:u9 (S.set k0 ⟨2,[a1F f],a0⟩) k0 2 (a1F f):=u9.new
 rw[show(a1F f).length=2 from rfl,(hk.set n0).all (n:=3) (by decide) rfl,oD,E2,oD,c0.ld,show(a1F f)[0+1]? =some (.int .i64 f.2) from rfl,oD]
 refine(a6C hm hf).use ?_
 rw[unN,oD]
 exact d9.drop n0 (d9.here ⟨rfl,rfl⟩)
theorem c7b{m:Mo}{t:Ty}:c5G m t=(decide (t.name=[])&&decide (t.fields.length=0)&&L3 m t.elem):=rfl
theorem b7Z{m:Mo}(hm:m.Ok){t:Ty}(ht:t.Ok):K9 Tryz.prog E w0 a2u [moD m, .agg (W6 t)] (.bool (a0L m t)):=fun S=>by
 refine b5g ?_
 unfold b0T
 rw[moD,U9,oD]
 intro k a n
 rw[U9,oD]
 intro k2 a2 n2
 obtain⟨ne2,n2'⟩:=b8.fresh n2
 generalize hS3:(S.set k _).set k2 _=S3
 have h2:u9 S3 k2 5 (W6 t):=by rw[←hS3];exact u9.new
 have h0:u9 S3 k 3 (M3 m):=by rw[←hS3];exact(u9.new).set n2
 have hle:S.le S3:=by rw[←hS3];exact b8.le_set (b8.le_new n) n2'
 have q0:(W6 t)[0]? =some (.int .u8 t.kind):=rfl
 have q1:(W6 t)[1]? =some (.str t.name):=rfl
 have q2:(W6 t)[2]? =some (a3a t.fields):=rfl
 have q3:(W6 t)[3]? =some (.int .i64 t.elem):=rfl
 have q4:(W6 t)[4]? =some (.int .i64 t.len):=rfl
 have fin:∀b:Bool,a0L m t=b→d9 E (fun d' S'=>d'= .bool (a0L m t)∧S'=S) (.bool b) S3:=fun b h=>by rw[h];exact d9.less hle d9.pure
 have hfl:=ht.fields
 have beqN:∀a:Tx,c8V .eql (.str a) (.str [])=some (.bool (decide (a=[]))):=fun a=>by rw[d8V,d8Q]
 have lc:decide ((t.fields.length:Int)=0)=decide (t.fields.length=0):=decide_eq_decide.2 (by omega)
 simp only[E2,oD,Nat.zero_add,h2.ld,q1,beqN]
 have rest:∀(b:Bool),b=c5G m t→
   (b7 (c9 S3 (.ptr k2 0)) fun v19=>b7 (i4 .eql v19 (.int .u8 6)) fun v20=>i6 v20
    (b7 (c9 S3 (.ptr k2 3)) fun v22=>b7 (i4 .eql v22 (.int .i64 0)) fun v23=>b7 (f9 (d6 v23 true) (j4 4 (.ptr k2 0))) fun v24=>b7 (f9 (d6 v23 true) (c9 S3 v24)) fun v25=>b7 (f9 (d6 v23 true) (i4 .eql v25 (.int .i64 0))) fun v26=>b7 (q9 v23 v26 (.bool false)) fun v27=>
     b7 (f9 (d6 v27 true) (j4 2 (.ptr k2 0))) fun v28=>b7 (f9 (d6 v27 true) (c9 S3 v28)) fun v29=>b7 (f9 (d6 v27 true) (some (.fn (.func a1g) [] [.ptr k 0]))) fun v30=>
     Q1 (d6 v27 true) (fun K=>j8 Tryz.prog E w0 B3 [v29,v30] S3 K) S3 fun v31 S32=>b7 (f9 (d6 v27 true) (unD .not v31)) fun v33=>b7 (q9 v27 v33 (.bool false)) fun v34=>d9 E (fun d' S'=>d'= .bool (a0L m t)∧S'=S) v34 S32)
    (b7 (i4 .eql v19 (.int .u8 7)) fun v35=>i6 v35
     (b7 (f9 (d6 (.bool b) true) (j4 4 (.ptr k2 0))) fun v36=>b7 (f9 (d6 (.bool b) true) (c9 S3 v36)) fun v37=>b7 (f9 (d6 (.bool b) true) (i4 .geq v37 (.int .i64 0))) fun v38=>b7 (q9 (.bool b) v38 (.bool false)) fun v39=>
      b7 (f9 (d6 v39 true) (j4 4 (.ptr k2 0))) fun v40=>b7 (f9 (d6 v39 true) (c9 S3 v40)) fun v41=>b7 (f9 (d6 v39 true) (i4 .leq v41 (.int .i64 65536))) fun v42=>b7 (q9 v39 v42 (.bool false)) fun v43=>d9 E (fun d' S'=>d'= .bool (a0L m t)∧S'=S) v43 S3)
     (b7 (i4 .eql v19 (.int .u8 8)) fun v44=>i6 v44
      (b7 (f9 (d6 (.bool b) true) (j4 4 (.ptr k2 0))) fun v45=>b7 (f9 (d6 (.bool b) true) (c9 S3 v45)) fun v46=>b7 (f9 (d6 (.bool b) true) (i4 .eql v46 (.int .i64 0))) fun v47=>b7 (q9 (.bool b) v47 (.bool false)) fun v48=>d9 E (fun d' S'=>d'= .bool (a0L m t)∧S'=S) v48 S3)
      (d9 E (fun d' S'=>d'= .bool (a0L m t)∧S'=S) (.bool false) S3)))):=fun b hb=>by
  rw[h2.ld,q0,oD,Q2,oD,I6]
  refine⟨fun k6=> ?_,fun k6=> ?_⟩
  ·have e6:a0L m t=(decide (t.elem=0)&&decide (t.len=0)&&t.fields.all fun f=>L3 m f.2):=by unfold a0L;rw[if_pos k6]
   simp only[h2.ld,q3,oD,Q2]
   by_cases c1:t.elem=0
   case neg=>simp only[decide_eq_false c1,M4,t3',vdF,gdF,oD,M8,Bool.false_eq_true,if_false];exact fin false (by rw[e6,decide_eq_false c1];rfl)
   simp only[decide_eq_true c1,M4,t4',vdT,oD,M8,if_true,E2,Nat.zero_add,h2.ld,q4,Q2]
   by_cases c2:t.len=0
   case neg=>simp only[decide_eq_false c2,M4,t3',vdF,gdF,oD,M8,Bool.false_eq_true,if_false];exact fin false (by rw[e6,decide_eq_false c2,Bool.and_false];rfl)
   simp only[decide_eq_true c2,M4,t4',vdT,gdT,oD,M8,if_true,E2,Nat.zero_add,h2.ld,q2]
   refine(c5q (p:=fun f=> !L3 m f.2) (by omega) fun f hf=>a2z (cs:=[.ptr k 0]) (by kernel_rfl) (c6E hm (ht.names f hf).2 h0)).use fun d S' ⟨h1,h2⟩=> ?_
   subst h1 h2
   simp only[unN,oD,vdT,M8,if_true]
   refine fin _ ?_
   rw[e6,decide_eq_true c1,decide_eq_true c2,d1A];rfl
  rw[Q2,oD,I6]
  refine⟨fun k7=> ?_,fun k7=> ?_⟩
  ·have e7:a0L m t=(c5G m t&&decide (0≤t.len∧t.len≤65536)):=by unfold a0L;rw[if_neg k6,if_pos k7]
   rw[←hb]at e7
   cases b with
   |false=>simp only[M4,t3',vdF,gdF,oD,M8,Bool.false_eq_true,if_false];exact fin false (by rw[e7];rfl)
   |true=>
    simp only[M4,t4',vdT,oD,M8,if_true,E2,Nat.zero_add,h2.ld,q4,a8S]
    by_cases c1:t.len≥0
    ·simp only[decide_eq_true c1,M4,t4',vdT,oD,M8,if_true,E2,Nat.zero_add,h2.ld,q4,d4A]
     exact fin _ (by rw[e7,Bool.true_and];exact decide_eq_decide.2 ⟨fun h=>h.2,fun h=>⟨c1,h⟩⟩)
    ·simp only[decide_eq_false c1,M4,t3',vdF,oD,M8,Bool.false_eq_true,if_false]
     exact fin false (by rw[e7,decide_eq_false (fun h=>c1 h.1)];rfl)
  rw[Q2,oD,I6]
  refine⟨fun k8=> ?_,fun k8=>fin false (by unfold a0L;rw[if_neg k6,if_neg k7,if_neg k8])⟩
  have e8:a0L m t=(c5G m t&&decide (t.len=0)):=by unfold a0L;rw[if_neg k6,if_neg k7,if_pos k8]
  rw[←hb]at e8
  cases b with
  |false=>simp only[M4,t3',vdF,gdF,oD,M8,Bool.false_eq_true,if_false];exact fin false (by rw[e8];rfl)
  |true=>
   simp only[M4,t4',vdT,oD,M8,if_true,E2,Nat.zero_add,h2.ld,q4,Q2]
   exact fin _ (by rw[e8,Bool.true_and])
 by_cases c1:t.name=[]
 case neg=>
  simp only[decide_eq_false c1,M4,t3',vdF,gdF,oD,M8,Bool.false_eq_true,if_false]
  exact rest false (by rw[c7b,decide_eq_false c1];rfl)
 simp only[decide_eq_true c1,M4,t4',vdT,oD,M8,if_true,h2.ld,q2,a1Q,Q2,lc]
 by_cases c2:t.fields.length=0
 case neg=>
  simp only[decide_eq_false c2,M4,t3',vdF,gdF,oD,M8,Bool.false_eq_true,if_false]
  exact rest false (by rw[c7b,decide_eq_false c2,Bool.and_false];rfl)
 simp only[decide_eq_true c2,M4,t4',vdT,gdT,oD,M8,if_true,h2.ld,q3]
 rw[h0.all (n:=3) (by decide) rfl,oD]
 refine(show j8 Tryz.prog E w0 V9 [moD m, .int .i64 t.elem] S3 _ from(a6C hm ht.elem).use ?_)
 exact rest _ (by rw[c7b,decide_eq_true c1,decide_eq_true c2];rfl)
theorem b6S{m:Mo}(hm:m.Ok){t:Int}(ht:I64 t){S:b8}{k:Nat}(hk:u9 S k 3 (M3 m)):j8 Tryz.prog E w0 a3E [.int .i64 t, .ptr k 0] S fun d S'=>d= .bool (!L3 m t)∧S'=S:=by
 refine b3p ?_
 unfold a7C
 rw[hk.all (n:=3) (by decide) rfl,oD]
 refine(show j8 Tryz.prog E w0 V9 [moD m, .int .i64 t] S _ from(a6C hm ht).use ?_)
 rw[unN,oD]
 exact d9.here ⟨rfl,rfl⟩
theorem c6G{m:Mo}(hm:m.Fits){r:Ro}{y:In}(hy:y.Ok){S:b8}{k k2:Nat}(hk:u9 S k 3 (M3 m))(hk2:u9 S k2 6 (L8 r)):j8 Tryz.prog E w0 a3D [inD y, .ptr k 0, .ptr k2 0] S fun d S'=>d= .bool (!a2v m r y)∧S'=S:=by
 refine b2b ?_
 unfold a7X
 rw[inD,U9,oD]
 intro k0 a0 n0
 have c0:u9 (S.set k0 ⟨4,[P8 y],a0⟩) k0 4 (P8 y):=u9.new
 rw[show(P8 y).length=4 from rfl,c0.all (n:=4) (by decide) rfl,oD,(hk.set n0).all (n:=3) (by decide) rfl,oD]
 refine(show j8 Tryz.prog E w0 a1n [inD y,moD m] _ _ from(b6l hy hm).use ?_)
 rintro v S' ⟨p,q,rfl,g⟩
 have hle:=(Two.le g)
 have c0:=c0.le hle
 have c2:=(hk2.set (o:=⟨4,[P8 y],a0⟩) n0).le hle
 have l0:(P8 y)[0]? =some (.int .u8 y.op):=rfl
 have l1:(P8 y)[1]? =some (.int .i64 y.a):=rfl
 have l3:(L8 r)[3]? =some (.int .i64 r.locals):=rfl
 have hS:S.le S':=b8.le_trans (b8.le_new n0) hle
 have fin:∀b:Bool,a2v m r y= !b→d9 E (fun d S'=>d= .bool (!a2v m r y)∧S'=S) (.bool b) S':=fun b h=>by rw[h,Bool.not_not];exact d9.less hS (d9.here ⟨rfl,rfl⟩)
 simp only[exD,List.getElem?_cons_zero,List.getElem?_cons_succ,oD,a3s]
 by_cases c1:(t6 y m).2.2=0
 case neg=>
  simp only[decide_eq_true c1,ne_eq,not_false_eq_true,decide_true,M4,t1',vdF,oD,M8,if_true]
  exact fin true (by unfold a2v;rw[decide_eq_false c1];rfl)
 have c1':decide ((t6 y m).2.2≠0)=false:=decide_eq_false (fun h=>h c1)
 have em:a2v m r y= !(decide (y.op=7∨y.op=8)&&decide (r.locals≤y.a)):=by unfold a2v;rw[decide_eq_true c1,Bool.true_and]
 simp only[c1',M4,t2',vdT,oD,M8,Bool.false_eq_true,if_false,E2,Nat.zero_add,c0.ld,l0,Q2]
 by_cases c7:y.op=7
 ·simp only[decide_eq_true c7,M4,t1',t4',vdF,vdT,oD,M8,if_true,E2,Nat.zero_add,c0.ld,c2.ld,l1,l3,a8S]
  refine fin _ ?_
  rw[em,decide_eq_true (.inl c7),Bool.true_and]
 simp only[decide_eq_false c7,M4,t2',vdT,oD,M8,Bool.false_eq_true,if_false,E2,Nat.zero_add,c0.ld,l0,Q2]
 by_cases c8:y.op=8
 ·simp only[decide_eq_true c8,M4,t4',vdT,oD,M8,if_true,E2,Nat.zero_add,c0.ld,c2.ld,l1,l3,a8S]
  refine fin _ ?_
  rw[em,decide_eq_true (.inr c8),Bool.true_and]
 ·simp only[decide_eq_false c8,M4,t3',vdF,oD,M8,Bool.false_eq_true,if_false]
  exact fin false (by rw[em,decide_eq_false (fun h=>h.elim c7 c8)];rfl)
end
end
section
theorem c7a{α:Type}{p:α→Bool}(l:List α):(l.any fun a=> !p a)= !l.all p:=by rw[←d1A,Bool.not_not]
section
variable{E:j2}{w0:j9}
theorem b8C{m:Mo}(hm:m.Fits){r:Ro}(hr:r.Ok)(hc:r.code.length<2^30):K9 Tryz.prog E w0 a2t [moD m, .agg (L8 r)] (.bool (a3m m r)):=fun S=>by
 refine b5e ?_
 unfold b1a
 rw[moD,U9,oD]
 intro k a n
 rw[U9,oD]
 intro k2 a2 n2
 obtain⟨ne2,n2'⟩:=b8.fresh n2
 generalize hS3:(S.set k _).set k2 _=S3
 have h2:u9 S3 k2 6 (L8 r):=by rw[←hS3];exact u9.new
 have h0:u9 S3 k 3 (M3 m):=by rw[←hS3];exact(u9.new).set n2
 have hle:S.le S3:=by rw[←hS3];exact b8.le_set (b8.le_new n) n2'
 have q1:(L8 r)[1]? =some (iD r.params):=rfl
 have q2:(L8 r)[2]? =some (iD r.results):=rfl
 have q3:(L8 r)[3]? =some (.int .i64 r.locals):=rfl
 have q4:(L8 r)[4]? =some (.int .i64 r.stack):=rfl
 have q5:(L8 r)[5]? =some (bD r.code):=rfl
 have fin:∀b:Bool,a3m m r=b→d9 E (fun d' S'=>d'= .bool (a3m m r)∧S'=S) (.bool b) S3:=fun b h=>by rw[h];exact d9.less hle d9.pure
 have hp:=hr.params
 have hq:=hr.results
 have hmo:=hm.ok
 simp only[oD,E2,Nat.zero_add,h2.ld,q1]
 refine(b3B (p:=fun t=> !L3 m t) (by omega) fun t ht=>a2z (cs:=[.ptr k 0]) (by kernel_rfl) (b6S hmo (hr.ints t (List.mem_append_left _ ht)) h0)).use fun d S' ⟨g1,g2⟩=> ?_
 subst g1 g2
 rw[c7a]
 cases c1:r.params.all (L3 m) with
 |false=>
  simp only[Bool.not_false,M4,t1',vdF,gdF,oD,M8,if_true,cdT]
  exact fin false (by unfold a3m;rw[c1];rfl)
 |true=>
 simp only[Bool.not_true,M4,t2',vdT,gdT,oD,h2.ld,E2,Nat.zero_add,q2]
 refine(b3B (p:=fun t=> !L3 m t) (by omega) fun t ht=>a2z (cs:=[.ptr k 0]) (by kernel_rfl) (b6S hmo (hr.ints t (List.mem_append_right _ ht)) h0)).use fun d S' ⟨g1,g2⟩=> ?_
 subst g1 g2
 rw[c7a]
 cases c2:r.results.all (L3 m) with
 |false=>
  simp only[Bool.not_false,M4,t1',vdF,gdF,oD,M8,Bool.false_eq_true,if_false,if_true,cdT]
  exact fin false (by unfold a3m;rw[c1,c2];rfl)
 |true=>
 simp only[Bool.not_true,M4,t2',vdT,gdT,oD,M8,Bool.false_eq_true,if_false,h2.ld,E2,Nat.zero_add,q3,q1,Y7,H7]
 by_cases c3:r.locals<(r.params.length:Int)
 ·simp only[decide_eq_true c3,M4,t1',vdF,gdF,oD,M8,if_true,cdT]
  exact fin false (by unfold a3m;rw[c1,c2,decide_eq_true c3];rfl)
 simp only[decide_eq_false c3,M4,t2',vdT,gdT,oD,M8,Bool.false_eq_true,if_false,h2.ld,E2,Nat.zero_add,q4,H7]
 rw[I6]
 refine⟨fun c4=>fin false (by unfold a3m;rw[c1,c2,decide_eq_false c3,decide_eq_true c4];rfl),fun c4=> ?_⟩
 rw[q5,oD]
 refine(d0a hr.bytes hc).use ?_
 rw[d5y]
 simp only[exD,List.getElem?_cons_zero,List.getElem?_cons_succ,oD,Q2]
 obtain⟨i1,i2,i3⟩:=d5s (bs:=r.code) hr.bytes
 have e0:a3m m r=(decide ((a8O (a7y r.code)).2.2=0)&&(a8O (a7y r.code)).1.all (a2v m r)):=by unfold a3m;rw[c1,c2,decide_eq_false c3,decide_eq_false c4];rfl
 by_cases c5:(a8O (a7y r.code)).2.2=0
 ·simp only[decide_eq_true c5,M4,t4',vdT,gdT,oD,M8,if_true]
  refine(d4D (p:=fun y=> !a2v m r y) (by omega) fun y hy=>a2z (cs:=[.ptr k 0, .ptr k2 0]) (by kernel_rfl) (c6G hm (i1 y hy) h0 h2)).use fun d S' ⟨g1,g2⟩=> ?_
  subst g1 g2
  rw[c7a]
  simp only[unN,oD,vdT,M8,if_true,Bool.not_not]
  exact fin _ (by rw[e0,decide_eq_true c5,Bool.true_and])
 ·simp only[decide_eq_false c5,M4,t3',vdF,gdF,oD,M8,Bool.false_eq_true,if_false]
  exact fin false (by rw[e0,decide_eq_false c5,Bool.false_and])
theorem c3X{f:Tx×Int}{S:b8}:j8 Tryz.prog E w0 a2c [.agg (a1F f)] S fun d S'=>d= .bool (decide (f.1.length>65536))∧S'=S:=by
 refine b0H ?_
 unfold a5w
 rw[U9,oD]
 intro k0 a0 n0
 have c0:u9 (S.set k0 ⟨2,[a1F f],a0⟩) k0 2 (a1F f):=u9.new
 rw[show(a1F f).length=2 from rfl,E2,oD,c0.ld,show(a1F f)[0+0]? =some (.str f.1) from rfl,oD,lnS,oD,a7w,oD]
 exact d9.drop n0 (d9.here ⟨by rw[decide_eq_decide.2 (show(f.1.length:Int)>65536↔f.1.length>65536 by omega)],rfl⟩)
theorem c3L{t:Tx}{S:b8}:j8 Tryz.prog E w0 a1W [.str t] S fun d S'=>d= .bool (decide (t.length>65536))∧S'=S:=by
 refine a9I ?_
 unfold a5z
 rw[lnS,oD,a7w,oD]
 exact d9.here ⟨by rw[decide_eq_decide.2 (show(t.length:Int)>65536↔t.length>65536 by omega)],rfl⟩
theorem gtN(a b:Nat):i4 .gtr (.int .i64 (a:Int)) (.int .i64 (b:Int))=some (.bool (decide (a>b))):=by
 rw[a7w,decide_eq_decide.2 (show(a:Int)>(b:Int)↔a>b by omega)]
theorem b4W{m:Mo}(hm:m.Fits):K9 Tryz.prog E w0 a3g [moD m] (.int .i64 (Q5 m)):=fun S=>by
 refine b2c ?_
 unfold a7Q
 rw[moD,U9,oD]
 intro k a n
 have h0:u9 (S.set k ⟨3,[M3 m],a⟩) k 3 (M3 m):=u9.new
 have hle:S.le (S.set k ⟨3,[M3 m],a⟩):=b8.le_new n
 rw[show(M3 m).length=3 from rfl]
 generalize S.set k ⟨3,[M3 m],a⟩=S1 at*
 have hmo:=hm.ok
 have q0:(M3 m)[0]? =some (b0l m.types):=rfl
 have q1:(M3 m)[1]? =some (b1r m.texts):=rfl
 have q2:(M3 m)[2]? =some (a9d m.funcs):=rfl
 have t0:=hm.types
 have t1:=hm.texts
 have t2:=hm.funcs
 have fin:∀ {T:b8} {e:Int},S.le T→Q5 m=e→d9 E (fun d' S'=>d'= .int .i64 (Q5 m)∧S'=S) (.int .i64 e) T:=fun{T e} hl h=>by rw[h];exact d9.less hl d9.pure
 have g256:∀a:Nat,i4 .gtr (.int .i64 (a:Int)) (.int .i64 256)=some (.bool (decide (a>256))):=fun a=>gtN a 256
 have g32768:∀a:Nat,i4 .gtr (.int .i64 (a:Int)) (.int .i64 32768)=some (.bool (decide (a>32768))):=fun a=>gtN a 32768
 have g65536:∀a:Nat,i4 .gtr (.int .i64 (a:Int)) (.int .i64 65536)=some (.bool (decide (a>65536))):=fun a=>gtN a 65536
 have g32:∀a:Nat,i4 .gtr (.int .i64 (a:Int)) (.int .i64 32)=some (.bool (decide (a>32))):=fun a=>gtN a 32
 have g8:∀a:Nat,i4 .gtr (.int .i64 (a:Int)) (.int .i64 8)=some (.bool (decide (a>8))):=fun a=>gtN a 8
 simp only[E2,oD,Nat.zero_add,h0.ld,q0,a6k,g256]
 by_cases c0:m.types.length>256
 ·simp only[decide_eq_true c0,M4,t1',vdF,oD,M8,if_true,cdT]
  exact fin hle (by unfold Q5;rw[if_pos (.inl c0)])
 simp only[decide_eq_false c0,M4,t2',vdT,oD,h0.ld,q1,E2,Nat.zero_add,a8N,g32768,M8,Bool.false_eq_true,if_false]
 by_cases c1:m.texts.length>32768
 ·simp only[decide_eq_true c1,M4,t1',vdF,oD,M8,if_true,cdT]
  exact fin hle (by unfold Q5;rw[if_pos (.inr (.inl c1))])
 simp only[decide_eq_false c1,M4,t2',vdT,oD,h0.ld,q2,E2,Nat.zero_add,a6Y,g256,M8,Bool.false_eq_true,if_false]
 by_cases c2:m.funcs.length>256
 ·simp only[decide_eq_true c2,cdT]
  exact fin hle (by unfold Q5;rw[if_pos (.inr (.inr c2))])
 simp only[decide_eq_false c2,cdF]
 have e0:Q5 m=if O8 (a5E m) m.types≠0 then O8 (a5E m) m.types else if m.texts.any (fun t=>decide (t.length>65536))=true then 3 else O8 (a8W m) m.funcs:=by
  unfold Q5;rw[if_neg (by omega)]
 refine b0m (I:=fun n x1 x24 x25 x26 T=>x1= .ptr k 0∧x24=b0l m.types∧x25= .int .i64 (m.types.length:Int)∧S.le T∧u9 T k 3 (M3 m)∧∃i:Nat,x26= .int .i64 (i:Int)∧i+n=m.types.length∧O8 (a5E m) m.types=O8 (a5E m) (m.types.drop i)) ?_ (n:=m.types.length)
  ⟨rfl,rfl,rfl,hle,h0,0,rfl,by omega,rfl⟩
 rintro n _ _ _ _ T ⟨rfl,rfl,rfl,hT,cT,i,rfl,hi,hfi⟩
 unfold a1Y
 rw[H7,oD,I6]
 refine⟨fun hlt=> ?_,fun hge=> ?_⟩
 ·have hlt:i<m.types.length:=by omega
  obtain⟨t,ht⟩:∃t,t=m.types[i]:=⟨_,rfl⟩
  have et:m.types[i]? =some t:=by rw[List.getElem?_eq_getElem hlt,ht]
  have htm:t∈m.types:=by rw[ht];exact List.getElem_mem _
  have htok:=hmo.ty t htm
  rw[b9F hlt, ←ht]at hfi
  rw[b6r et,oD,d7c,oD]
  intro k2 a2 n2
  refine(u9.new (sz:=5) (c:=[(.int .u8 0),(.str []), .nilSlc,(.int .i64 0),(.int .i64 0)])).st (ds:=W6 t) (U9 _) ⟨rfl,by decide,by decide⟩ fun a2=> ?_
  rw[b8.set_set,show l7 [(D.int .u8 0),(.str []), .nilSlc,(.int .i64 0),(.int .i64 0)] 0 (W6 t)=W6 t from rfl]
  have c5:u9 (T.set k2 ⟨5,[W6 t],a2⟩) k2 5 (W6 t):=u9.new
  have hT2:S.le (T.set k2 ⟨5,[W6 t],a2⟩):=b8.le_set hT (b8.none_of hT n2)
  have cT2:=cT.set (o:=⟨5,[W6 t],a2⟩) n2
  generalize T.set k2 ⟨5,[W6 t],a2⟩=T2 at*
  have p1:(W6 t)[1]? =some (.str t.name):=rfl
  have p2:(W6 t)[2]? =some (a3a t.fields):=rfl
  have hend:∀b:Bool,a7R t=b→K4 E w0 (fun x1 x24 x25 x26 S_1=>∃m_1,m_1<n∧x1= .ptr k 0∧x24=b0l m.types∧x25= .int .i64 (m.types.length:Int)∧S.le S_1∧u9 S_1 k 3 (M3 m)∧∃i:Nat,x26= .int .i64 (i:Int)∧i+m_1=m.types.length∧O8 (a5E m) m.types=O8 (a5E m) (m.types.drop i))
    (d9 E fun d' S'=>d'= .int .i64 (Q5 m)∧S'=S) (.ptr k 0) (.ptr k2 0) (b0l m.types) (.int .i64 (m.types.length:Int)) (.int .i64 (i:Int)) (.bool b) T2:=fun b hb=>by
   refine a8J ?_
   unfold a4L
   cases b with
   |true=>
    rw[cdT]
    have:a5E m t=3:=by unfold a5E;rw[if_pos hb]
    rw[this,if_neg (by decide)]at hfi
    exact fin hT2 (by rw[e0,hfi,if_pos (by decide)])
   |false=>
    rw[cdF,cT2.all (n:=3) (by decide) rfl,oD,c5.all (n:=5) (by decide) rfl,oD]
    refine(show j8 Tryz.prog E w0 a2u [moD m, .agg (W6 t)] T2 _ from(b7Z hmo htok).use ?_)
    rw[unN,oD,cdB]
    refine⟨fun h=> ?_,fun h=> ?_⟩
    ·have h:a0L m t=false:=by simpa using h
     have:a5E m t=130:=by unfold a5E;rw[if_neg (by rw[hb];simp),if_neg (by rw[h];simp)]
     rw[this,if_neg (by decide)]at hfi
     exact fin hT2 (by rw[e0,hfi,if_pos (by decide)])
    ·have h:a0L m t=true:=by simpa using h
     have:a5E m t=0:=by unfold a5E;rw[if_neg (by rw[hb];simp),if_pos h]
     rw[this,if_pos rfl]at hfi
     rw[D7,oD,l8 (by omega) (by omega)]
     exact⟨n - 1,by omega,rfl,rfl,rfl,hT2,cT2,i+1,rfl,by omega,hfi⟩
  simp only[E2,oD,Nat.zero_add,c5.ld,p2,a1Q,g32]
  by_cases d1:t.fields.length>32
  ·rw[decide_eq_true d1,cdT]
   exact hend true (by unfold a7R;rw[decide_eq_true d1];rfl)
  rw[decide_eq_false d1,cdF]
  simp only[p1,lnS,oD,g65536]
  by_cases d2:t.name.length>65536
  ·rw[decide_eq_true d2,cdT]
   exact hend true (by unfold a7R;rw[decide_eq_true d2];simp)
  rw[decide_eq_false d2,cdF]
  have hfl:=htok.fields
  refine(c5q (p:=fun f=>decide (f.1.length>65536)) (by omega) fun f hf=>a2z (cs:=[]) (by kernel_rfl) c3X).use fun d S' ⟨g1,g2⟩=> ?_
  subst g1 g2
  exact hend _ (by unfold a7R;rw[decide_eq_false d1,decide_eq_false d2];rfl)
 have hi:i=m.types.length:=by omega
 subst hi
 rw[List.drop_length,O8]at hfi
 rw[hfi,if_neg (by simp)]at e0
 simp only[E2,oD,cT.ld,q1]
 refine(d3m (p:=fun t=>decide (t.length>65536)) (by omega) fun t ht=>a2z (cs:=[]) (by kernel_rfl) c3L).use fun d S' ⟨g1,g2⟩=> ?_
 subst g1 g2
 rw[cdB]
 refine⟨fun h=>fin hT (by rw[e0,if_pos h]),fun h=> ?_⟩
 rw[if_neg (by rw[h];simp)]at e0
 simp only[E2,oD,cT.ld,q2,a6Y]
 refine b0D (I:=fun n x1 x52 x53 x54 T=>x1= .ptr k 0∧x52=a9d m.funcs∧x53= .int .i64 (m.funcs.length:Int)∧S.le T∧u9 T k 3 (M3 m)∧∃i:Nat,x54= .int .i64 (i:Int)∧i+n=m.funcs.length∧O8 (a8W m) m.funcs=O8 (a8W m) (m.funcs.drop i)) ?_ (n:=m.funcs.length)
  ⟨rfl,rfl,rfl,hT,cT,0,rfl,by omega,rfl⟩
 rintro n _ _ _ _ T ⟨rfl,rfl,rfl,hT,cT,i,rfl,hi,hfi⟩
 unfold a2f
 rw[H7,oD,I6]
 refine⟨fun hlt=> ?_,fun hge=> ?_⟩
 ·have hlt:i<m.funcs.length:=by omega
  obtain⟨t,ht⟩:∃t,t=m.funcs[i]:=⟨_,rfl⟩
  have et:m.funcs[i]? =some t:=by rw[List.getElem?_eq_getElem hlt,ht]
  have htm:t∈m.funcs:=by rw[ht];exact List.getElem_mem _
  have htok:=hmo.ro t htm
  obtain⟨b1,b2,b3⟩:=hm.params t htm
  rw[b9F hlt, ←ht]at hfi
  rw[b3O et,oD,d7m,oD]
  intro k2 a2 n2
  refine(u9.new (sz:=6) (c:=[(.str []), .nilSlc, .nilSlc,(.int .i64 0),(.int .i64 0), .nilSlc])).st (ds:=L8 t) (U9 _) ⟨rfl,by decide,by decide⟩ fun a2=> ?_
  rw[b8.set_set,show l7 [(D.str []), .nilSlc, .nilSlc,(.int .i64 0),(.int .i64 0), .nilSlc] 0 (L8 t)=L8 t from rfl]
  have c6:u9 (T.set k2 ⟨6,[L8 t],a2⟩) k2 6 (L8 t):=u9.new
  have hT2:S.le (T.set k2 ⟨6,[L8 t],a2⟩):=b8.le_set hT (b8.none_of hT n2)
  have cT2:=cT.set (o:=⟨6,[L8 t],a2⟩) n2
  generalize T.set k2 ⟨6,[L8 t],a2⟩=T2 at*
  have p0:(L8 t)[0]? =some (.str t.name):=rfl
  have p1:(L8 t)[1]? =some (iD t.params):=rfl
  have p2:(L8 t)[2]? =some (iD t.results):=rfl
  have p3:(L8 t)[3]? =some (.int .i64 t.locals):=rfl
  have p4:(L8 t)[4]? =some (.int .i64 t.stack):=rfl
  have p5:(L8 t)[5]? =some (bD t.code):=rfl
  have hend:∀b:Bool,a3k t=b→C3 E w0 (fun x1 x52 x53 x54 S_1=>∃m_1,m_1<n∧x1= .ptr k 0∧x52=a9d m.funcs∧x53= .int .i64 (m.funcs.length:Int)∧S.le S_1∧u9 S_1 k 3 (M3 m)∧∃i:Nat,x54= .int .i64 (i:Int)∧i+m_1=m.funcs.length∧O8 (a8W m) m.funcs=O8 (a8W m) (m.funcs.drop i))
    (d9 E fun d' S'=>d'= .int .i64 (Q5 m)∧S'=S) (.ptr k 0) (.ptr k2 0) (a9d m.funcs) (.int .i64 (m.funcs.length:Int)) (.int .i64 (i:Int)) (.bool b) T2:=fun b hb=>by
   refine a9j ?_
   unfold a4G
   cases b with
   |true=>
    rw[cdT]
    have:a8W m t=3:=by unfold a8W;rw[if_pos hb]
    rw[this,if_neg (by decide)]at hfi
    exact fin hT2 (by rw[e0,hfi])
   |false=>
    rw[cdF,cT2.all (n:=3) (by decide) rfl,oD,c6.all (n:=6) (by decide) rfl,oD]
    refine(show j8 Tryz.prog E w0 a2t [moD m, .agg (L8 t)] T2 _ from(b8C hm htok b3).use ?_)
    rw[unN,oD,cdB]
    refine⟨fun h=> ?_,fun h=> ?_⟩
    ·have h:a3m m t=false:=by simpa using h
     have:a8W m t=130:=by unfold a8W;rw[if_neg (by rw[hb];simp),if_neg (by rw[h];simp)]
     rw[this,if_neg (by decide)]at hfi
     exact fin hT2 (by rw[e0,hfi])
    ·have h:a3m m t=true:=by simpa using h
     have:a8W m t=0:=by unfold a8W;rw[if_neg (by rw[hb];simp),if_pos h]
     rw[this,if_pos rfl]at hfi
     rw[D7,oD,l8 (by omega) (by omega)]
     exact⟨n - 1,by omega,rfl,rfl,rfl,hT2,cT2,i+1,rfl,by omega,hfi⟩
  simp only[E2,oD,Nat.zero_add,c6.ld,p1,Y7,g32]
  by_cases d1:t.params.length>32
  ·rw[decide_eq_true d1,cdT]
   exact hend true (by unfold a3k;rw[decide_eq_true d1];simp)
  rw[decide_eq_false d1,cdF]
  simp only[p2,Y7,oD,g8]
  by_cases d2:t.results.length>8
  ·rw[decide_eq_true d2,cdT]
   exact hend true (by unfold a3k;rw[decide_eq_true d2];simp)
  rw[decide_eq_false d2,cdF]
  simp only[p3,oD,a7w]
  by_cases d3:t.locals>256
  ·rw[decide_eq_true d3,cdT]
   exact hend true (by unfold a3k;rw[decide_eq_true d3];simp)
  rw[decide_eq_false d3,cdF]
  simp only[p4,oD,a7w]
  by_cases d4:t.stack>4096
  ·rw[decide_eq_true d4,cdT]
   exact hend true (by unfold a3k;rw[decide_eq_true d4];simp)
  rw[decide_eq_false d4,cdF]
  simp only[p5,a2C,oD,g65536]
  by_cases d5:t.code.length>65536
  ·rw[decide_eq_true d5,cdT]
   exact hend true (by unfold a3k;rw[decide_eq_true d5];simp)
  rw[decide_eq_false d5,cdF]
  simp only[p0,lnS,oD,g65536]
  exact hend _ (by unfold a3k;rw[decide_eq_false d1,decide_eq_false d2,decide_eq_false d3,decide_eq_false d4,decide_eq_false d5];rfl)
 ·have hi:i=m.funcs.length:=by omega
  subst hi
  rw[List.drop_length,O8]at hfi
  exact fin hT (by rw[e0,hfi])
end
end
end Go.Proofs.YtdkidgkiplcggaaGreat.d
end
