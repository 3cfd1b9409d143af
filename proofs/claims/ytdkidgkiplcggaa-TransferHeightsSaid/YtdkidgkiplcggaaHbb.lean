/-
  TransferHeightsSaid: part Hbb of its proof.
-/
import Derived.Test.YtdkidgkiplcggaaHax
import Derived.Test.YtdkidgkiplcggaaHba
set_option linter.unusedVariables false
set_option linter.unusedSimpArgs false
set_option maxRecDepth 100000
section
open Go.Proofs Go Go.Am Go.Op
namespace Go.Proofs.Ytdkidgkiplcggaa.d
section
def K6(m:Mo)(t:Int):Bool:=decide (1≤t∧t≤5)||decide (16≤t∧t - 16<m.types.length)
def c3n(m:Mo)(t:Ty):Bool:=decide (t.name=[])&&decide (t.fields.length=0)&&K6 m t.elem
def a0m(m:Mo)(t:Ty):Bool:=
 if t.kind=6 then decide (t.elem=0)&&decide (t.len=0)&&t.fields.all fun f=>K6 m f.2
 else if t.kind=7 then c3n m t&&decide (0≤t.len∧t.len≤65536)
 else if t.kind=8 then c3n m t&&decide (t.len=0) else false
def a1O(m:Mo)(r:Ro)(y:In):Bool:=decide ((s9 y m).2.2=0)&& !(decide (y.op=7∨y.op=8)&&decide (r.locals≤y.a))
def a2P(m:Mo)(r:Ro):Bool:=
 r.params.all (K6 m)&&r.results.all (K6 m)&& !decide (r.locals<r.params.length)&& !decide (r.stack<0)&&
  decide ((a7K (a6D r.code)).2.2=0)&&(a7K (a6D r.code)).1.all (a1O m r)
section
variable{E:j3}{w0:j8}
def a3L(E:j3)(w0:j8)(S:b8)(fv d:D)(b:Bool):Prop:=∀K:D→b8→Prop,K (.bool b) S→a1S Try.prog (l8 Try.prog E w0) S fv [d] K
theorem a1P{f:FuncId}(hf:a8p Try.prog f=true){cs:List D}{d:D}{b:Bool}{S:b8}(h:l8 Try.prog E w0 f (d::cs) S fun d' S'=>d'= .bool b∧S'=S):a3L E w0 S (.fn (.func f) [] cs) d b:=fun K hK=>by
 simp only[a1S,b1V,hf,List.nil_append,List.singleton_append,if_true]
 refine h.use fun d' S' ⟨h1,h2⟩=> ?_
 subst h1 h2
 exact hK
def c0B{α:Type}(p:α→Bool)(l:List α):Int:=match l.findIdx? p with
 |some i=>(i:Int)
 |none=> -1
theorem c4H{α:Type}{p:α→Bool}{l:List α}{i:Nat}(h:(l.take i).any p=false)(hi:i≤l.length):l.findIdx? p=((l.drop i).findIdx? p).map (· +i):=by
 induction l generalizing i with
 |nil=>simp
 |cons a l ih=>
  cases i with
  |zero=>simp
  |succ i=>
   simp only[List.take_succ_cons,List.any_cons,Bool.or_eq_false_iff]at h
   rw[List.drop_succ_cons,List.findIdx?_cons,h.1]
   simp only[Bool.false_eq_true,if_false,ih h.2 (by simpa using hi),Option.map_map]
   cases (l.drop i).findIdx? p<;>simp[Function.comp];omega
theorem b9J{α:Type}{p:α→Bool}{l:List α}:decide (c0B p l≥0)=l.any p:=by
 unfold c0B
 cases h:l.findIdx? p with
 |none=>
  have:∀a∈l,p a=false:=by simpa [List.findIdx?_eq_none_iff]using h
  have:l.any p=false:=by rw[List.any_eq_false];intro a ha;simp[this a ha]
  rw[this];rfl
 |some i=>
  have hi:=List.findIdx?_eq_some_iff_getElem.1 h
  obtain⟨h1,h2,_⟩:=hi
  have:l.any p=true:=List.any_eq_true.2 ⟨_,List.getElem_mem h1,h2⟩
  rw[this]
  exact decide_eq_true (by simp)
theorem b5r{α:Type}{p:α→Bool}{l:List α}{i:Nat}(h:(l.take i).any p=false)(hi:i<l.length):(p l[i]=true→c0B p l=(i:Int))∧(p l[i]=false→(l.take (i+1)).any p=false):=by
 constructor
 ·intro hp
  unfold c0B
  rw[c4H h (by omega),List.drop_eq_getElem_cons hi,List.findIdx?_cons,hp]
  simp
 ·intro hp
  rw[List.take_add_one,List.getElem?_eq_getElem hi,List.any_append,h]
  simpa using hp
theorem b9F{α:Type}{p:α→Bool}{l:List α}(h:l.any p=false):c0B p l= -1:=by
 unfold c0B
 have:l.findIdx? p=none:=by
  rw[List.findIdx?_eq_none_iff]
  intro a ha
  have:=List.any_eq_false.1 h a ha
  simpa using this
 rw[this]
theorem c5W{l:List (Tx×Int)}{p:Tx×Int→Bool}{fv:D}(hl:l.length<2^60){S:b8}(hp:∀y∈l,a3L E w0 S fv (.agg (a1a y)) (p y)):l8 Try.prog E w0 L0 [a2N l,fv] S fun d S'=>d= .int .i64 (c0B p l)∧S'=S:=by
 refine a2X ?_
 unfold a0d
 rw[a1c,oD]
 refine a2n (I:=fun n x0 x1 x7 x8 T=>S=T∧x0=a2N l∧fv=x1∧x7= .int .i64 (l.length:Int)∧∃i:Nat,x8= .int .i64 (i:Int)∧i+n=l.length∧(l.take i).any p=false) ?_ (n:=l.length) ⟨rfl,rfl,rfl,rfl,0,rfl,by omega,rfl⟩
 rintro n _ _ _ _ _ ⟨rfl,rfl,rfl,rfl,i,rfl,hi,ht⟩
 unfold I0
 rw[H6,oD,K0]
 refine⟨fun hlt=> ?_,fun hge=> ?_⟩
 ·have hlt:i<l.length:=by omega
  obtain⟨s1,s2⟩:=b5r ht hlt
  rw[b0Y (List.getElem?_eq_getElem hlt),oD,d2a,oD]
  refine hp _ (List.getElem_mem _) _ ?_
  rw[cdB]
  refine⟨fun h=>i4.here ⟨by rw[s1 h],rfl⟩,fun h=> ?_⟩
  rw[D5,oD,l7 (by omega) (by omega)]
  exact⟨n - 1,by omega,rfl,rfl,rfl,rfl,i+1,rfl,by omega,s2 h⟩
 ·rw[List.take_of_length_le (by omega)]at ht
  exact i4.here ⟨by rw[b9F ht],rfl⟩
theorem c6H{l:List Tx}{p:Tx→Bool}{fv:D}(hl:l.length<2^60){S:b8}(hp:∀y∈l,a3L E w0 S fv (.str y) (p y)):l8 Try.prog E w0 P4 [b0c l,fv] S fun d S'=>d= .int .i64 (c0B p l)∧S'=S:=by
 refine a4G ?_
 unfold a1q
 rw[a8a,oD]
 refine a3E (I:=fun n x0 x1 x7 x8 T=>S=T∧x0=b0c l∧fv=x1∧x7= .int .i64 (l.length:Int)∧∃i:Nat,x8= .int .i64 (i:Int)∧i+n=l.length∧(l.take i).any p=false) ?_ (n:=l.length) ⟨rfl,rfl,rfl,rfl,0,rfl,by omega,rfl⟩
 rintro n _ _ _ _ _ ⟨rfl,rfl,rfl,rfl,i,rfl,hi,ht⟩
 unfold M3
 rw[H6,oD,K0]
 refine⟨fun hlt=> ?_,fun hge=> ?_⟩
 ·have hlt:i<l.length:=by omega
  obtain⟨s1,s2⟩:=b5r ht hlt
  rw[c4B (List.getElem?_eq_getElem hlt),oD,lsE,List.getElem?_cons_zero,oD]
  refine hp _ (List.getElem_mem _) _ ?_
  rw[cdB]
  refine⟨fun h=>i4.here ⟨by rw[s1 h],rfl⟩,fun h=> ?_⟩
  rw[D5,oD,l7 (by omega) (by omega)]
  exact⟨n - 1,by omega,rfl,rfl,rfl,rfl,i+1,rfl,by omega,s2 h⟩
 ·rw[List.take_of_length_le (by omega)]at ht
  exact i4.here ⟨by rw[b9F ht],rfl⟩
theorem c5K{l:List Int}{p:Int→Bool}{fv:D}(hl:l.length<2^60){S:b8}(hp:∀y∈l,a3L E w0 S fv (.int .i64 y) (p y)):l8 Try.prog E w0 X5 [iD l,fv] S fun d S'=>d= .int .i64 (c0B p l)∧S'=S:=by
 refine a6I ?_
 unfold a2C
 rw[Y7,oD]
 refine a5d (I:=fun n x0 x1 x7 x8 T=>S=T∧x0=iD l∧fv=x1∧x7= .int .i64 (l.length:Int)∧∃i:Nat,x8= .int .i64 (i:Int)∧i+n=l.length∧(l.take i).any p=false) ?_ (n:=l.length) ⟨rfl,rfl,rfl,rfl,0,rfl,by omega,rfl⟩
 rintro n _ _ _ _ _ ⟨rfl,rfl,rfl,rfl,i,rfl,hi,ht⟩
 unfold U5
 rw[H6,oD,K0]
 refine⟨fun hlt=> ?_,fun hge=> ?_⟩
 ·have hlt:i<l.length:=by omega
  obtain⟨s1,s2⟩:=b5r ht hlt
  rw[b3k (List.getElem?_eq_getElem hlt),oD,lsE,List.getElem?_cons_zero,oD]
  refine hp _ (List.getElem_mem _) _ ?_
  rw[cdB]
  refine⟨fun h=>i4.here ⟨by rw[s1 h],rfl⟩,fun h=> ?_⟩
  rw[D5,oD,l7 (by omega) (by omega)]
  exact⟨n - 1,by omega,rfl,rfl,rfl,rfl,i+1,rfl,by omega,s2 h⟩
 ·rw[List.take_of_length_le (by omega)]at ht
  exact i4.here ⟨by rw[b9F ht],rfl⟩
theorem d6K(S:b8)(y:In):i6 S 4 (.elt (O2 y) 0)=some (.agg (O2 y)):=rfl
theorem c7v{l:List In}{i:Nat}{y:In}(h:l[i]? =some y):o7 4 (b5J l) (.int .i64 (i:Int))=some (.elt (O2 y) 0):=b3J (by rw[List.getElem?_map,h];rfl)
theorem c7X{l:List In}{p:In→Bool}{fv:D}(hl:l.length<2^60){S:b8}(hp:∀y∈l,a3L E w0 S fv (inD y) (p y)):l8 Try.prog E w0 K4 [b5J l,fv] S fun d S'=>d= .int .i64 (c0B p l)∧S'=S:=by
 refine a2Y ?_
 unfold a0c
 rw[show m8 (b5J l)=some (.int .i64 (l.length:Int)) by simp[b5J],oD]
 refine a2i (I:=fun n x0 x1 x7 x8 T=>S=T∧x0=b5J l∧fv=x1∧x7= .int .i64 (l.length:Int)∧∃i:Nat,x8= .int .i64 (i:Int)∧i+n=l.length∧(l.take i).any p=false) ?_ (n:=l.length) ⟨rfl,rfl,rfl,rfl,0,rfl,by omega,rfl⟩
 rintro n _ _ _ _ _ ⟨rfl,rfl,rfl,rfl,i,rfl,hi,ht⟩
 unfold H9
 rw[H6,oD,K0]
 refine⟨fun hlt=> ?_,fun hge=> ?_⟩
 ·have hlt:i<l.length:=by omega
  obtain⟨s1,s2⟩:=b5r ht hlt
  rw[c7v (List.getElem?_eq_getElem hlt),oD,d6K,oD]
  refine hp _ (List.getElem_mem _) _ ?_
  rw[cdB]
  refine⟨fun h=>i4.here ⟨by rw[s1 h],rfl⟩,fun h=> ?_⟩
  rw[D5,oD,l7 (by omega) (by omega)]
  exact⟨n - 1,by omega,rfl,rfl,rfl,rfl,i+1,rfl,by omega,s2 h⟩
 ·rw[List.take_of_length_le (by omega)]at ht
  exact i4.here ⟨by rw[b9F ht],rfl⟩
theorem c3u{l:List (Tx×Int)}{p:Tx×Int→Bool}{fv:D}(hl:l.length<2^60){S:b8}(hp:∀y∈l,a3L E w0 S fv (.agg (a1a y)) (p y)):l8 Try.prog E w0 A6 [a2N l,fv] S fun d S'=>d= .bool (l.any p)∧S'=S:=by
 refine a1L ?_
 unfold U9
 refine(c5W hl hp).use fun d S' ⟨h1,h2⟩=> ?_
 subst h1 h2
 rw[a7X,oD,b9J];exact i4.here ⟨rfl,rfl⟩
theorem d0q{l:List Tx}{p:Tx→Bool}{fv:D}(hl:l.length<2^60){S:b8}(hp:∀y∈l,a3L E w0 S fv (.str y) (p y)):l8 Try.prog E w0 K9 [b0c l,fv] S fun d S'=>d= .bool (l.any p)∧S'=S:=by
 refine a2Z ?_
 unfold Z6
 refine(c6H hl hp).use fun d S' ⟨h1,h2⟩=> ?_
 subst h1 h2
 rw[a7X,oD,b9J];exact i4.here ⟨rfl,rfl⟩
theorem b2d{l:List Int}{p:Int→Bool}{fv:D}(hl:l.length<2^60){S:b8}(hp:∀y∈l,a3L E w0 S fv (.int .i64 y) (p y)):l8 Try.prog E w0 B7 [iD l,fv] S fun d S'=>d= .bool (l.any p)∧S'=S:=by
 refine a4F ?_
 unfold a1n
 refine(c5K hl hp).use fun d S' ⟨h1,h2⟩=> ?_
 subst h1 h2
 rw[a7X,oD,b9J];exact i4.here ⟨rfl,rfl⟩
theorem d1H{l:List In}{p:In→Bool}{fv:D}(hl:l.length<2^60){S:b8}(hp:∀y∈l,a3L E w0 S fv (inD y) (p y)):l8 Try.prog E w0 G6 [b5J l,fv] S fun d S'=>d= .bool (l.any p)∧S'=S:=by
 refine a1R ?_
 unfold U8
 refine(c7X hl hp).use fun d S' ⟨h1,h2⟩=> ?_
 subst h1 h2
 rw[a7X,oD,b9J];exact i4.here ⟨rfl,rfl⟩
theorem t1':(true==false)=false:=rfl
theorem t2':(false==false)=true:=rfl
theorem t3':(false==true)=false:=rfl
theorem t4':(true==true)=true:=rfl
theorem a5G{m:Mo}(hm:m.Ok){t:Int}(ht:I64 t):U1 Try.prog E w0 Q9 [moD m, .int .i64 t] (.bool (K6 m t)):=fun S=>by
 refine b6Q ?_
 unfold b3r
 rw[moD,Q8,oD]
 intro k a n
 have h0:u7 (S.set k ⟨3,[K5 m],a⟩) k 3 (K5 m):=u7.new
 rw[show(K5 m).length=3 from rfl]
 have h2:=hm.types
 obtain⟨i1,i2⟩:=ht
 have ld:c9 (S.set k ⟨3,[K5 m],a⟩) (.ptr k 0)=some (a8S m.types):=h0.ld 0
 have fin:∀b:Bool,K6 m t=b→i4 E (fun d' S'=>d'= .bool (K6 m t)∧S'=S) (.bool b) (S.set k ⟨3,[K5 m],a⟩):=fun b h=>by rw[h];exact i4.drop n i4.pure
 rw[d0d,oD]
 by_cases c1:1≤t
 ·simp only[decide_eq_true c1,K7,t4',vdT,oD,L7,if_true,d0d]
  by_cases c2:t≤5
  ·simp only[decide_eq_true c2,K7,t1',vdF,oD,L7,if_true]
   exact fin true (by unfold K6;rw[decide_eq_true ⟨c1,c2⟩];rfl)
  ·simp only[decide_eq_false c2,K7,t2',vdT,oD,L7,Bool.false_eq_true,if_false,a7X]
   by_cases c3:t≥16
   ·simp only[decide_eq_true c3,K7,t4',vdT,oD,L7,if_true,b1l,D8,Nat.zero_add,ld,a6h,H6]
    rw[l7 (by omega) (by omega)]
    refine fin _ ?_
    unfold K6
    rw[decide_eq_false (fun h=>c2 h.2),Bool.false_or]
    exact decide_eq_decide.2 ⟨fun h=>h.2,fun h=>⟨c3,h⟩⟩
   ·simp only[decide_eq_false c3,K7,t3',vdF,oD,L7,Bool.false_eq_true,if_false]
    exact fin false (by unfold K6;rw[decide_eq_false (fun h=>c2 h.2),decide_eq_false (fun h=>c3 h.1)];rfl)
 ·have c3:¬t≥16:=by omega
  simp only[decide_eq_false c1,K7,t3',t2',vdT,vdF,oD,L7,Bool.false_eq_true,if_false,a7X,decide_eq_false c3]
  exact fin false (by unfold K6;rw[decide_eq_false (fun h=>c1 h.1),decide_eq_false (fun h=>c3 h.1)];rfl)
end
end
section
def a7g(t:Ty):Bool:=decide (t.fields.length>32)||decide (t.name.length>65536)||t.fields.any fun f=>decide (f.1.length>65536)
def a2u(r:Ro):Bool:=decide (r.params.length>32)||decide (r.results.length>8)||decide (r.locals>256)||decide (r.stack>4096)||decide (r.code.length>65536)||decide (r.name.length>65536)
def a4R(m:Mo)(t:Ty):Int:=if a7g t=true then 3 else if a0m m t=true then 0 else 130
def a8i(m:Mo)(r:Ro):Int:=if a2u r=true then 3 else if a2P m r=true then 0 else 130
def O1{α:Type}(f:α→Int):List α→Int
 | []=>0
 |a::l=>if f a=0 then O1 f l else f a
theorem b8b{α:Type}{f:α→Int}{l:List α}{i:Nat}(hi:i<l.length):O1 f (l.drop i)=if f l[i]=0 then O1 f (l.drop (i+1)) else f l[i]:=by
 rw[List.drop_eq_getElem_cons hi,O1]
def P0(m:Mo):Int:=
 if m.types.length>256∨m.texts.length>32768∨m.funcs.length>256 then 3
 else if O1 (a4R m) m.types≠0 then O1 (a4R m) m.types
 else if m.texts.any (fun t=>decide (t.length>65536))=true then 3 else O1 (a8i m) m.funcs
theorem c9A{α:Type}{p:α→Bool}(l:List α):(!l.any fun a=> !p a)=l.all p:=by
 induction l with
 |nil=>rfl
 |cons a l ih=>rw[List.any_cons,List.all_cons, ←ih];cases p a<;>simp
section
variable{E:j3}{w0:j8}
theorem c4a{m:Mo}(hm:m.Ok){f:Tx×Int}(hf:I64 f.2){S:b8}{k:Nat}(hk:u7 S k 3 (K5 m)):l8 Try.prog E w0 a0u [.agg (a1a f), .ptr k 0] S fun d S'=>d= .bool (!K6 m f.2)∧S'=S:=by
 refine b1U ?_
 unfold a6M
 rw[Q8,oD]
 intro k0 a0 n0
 have c0:u7 (S.set k0 ⟨2,[a1a f],a0⟩) k0 2 (a1a f):=u7.new
 rw[show(a1a f).length=2 from rfl,(hk.set n0).all (n:=3) (by decide) rfl,oD,D8,oD,c0.ld,show(a1a f)[0+1]? =some (.int .i64 f.2) from rfl,oD]
 refine(a5G hm hf).use ?_
 rw[unN,oD]
 exact i4.drop n0 (i4.here ⟨rfl,rfl⟩)
theorem c4S{m:Mo}{t:Ty}:c3n m t=(decide (t.name=[])&&decide (t.fields.length=0)&&K6 m t.elem):=rfl
theorem b7u{m:Mo}(hm:m.Ok){t:Ty}(ht:t.Ok):U1 Try.prog E w0 a1I [moD m, .agg (V0 t)] (.bool (a0m m t)):=fun S=>by
 refine b4f ?_
 unfold a9J
 rw[moD,Q8,oD]
 intro k a n
 rw[Q8,oD]
 intro k2 a2 n2
 obtain⟨ne2,n2'⟩:=b8.fresh n2
 generalize hS3:(S.set k _).set k2 _=S3
 have h2:u7 S3 k2 5 (V0 t):=by rw[←hS3];exact u7.new
 have h0:u7 S3 k 3 (K5 m):=by rw[←hS3];exact(u7.new).set n2
 have hle:S.le S3:=by rw[←hS3];exact b8.le_set (b8.le_new n) n2'
 have q0:(V0 t)[0]? =some (.int .u8 t.kind):=rfl
 have q1:(V0 t)[1]? =some (.str t.name):=rfl
 have q2:(V0 t)[2]? =some (a2N t.fields):=rfl
 have q3:(V0 t)[3]? =some (.int .i64 t.elem):=rfl
 have q4:(V0 t)[4]? =some (.int .i64 t.len):=rfl
 have fin:∀b:Bool,a0m m t=b→i4 E (fun d' S'=>d'= .bool (a0m m t)∧S'=S) (.bool b) S3:=fun b h=>by rw[h];exact i4.less hle i4.pure
 have hfl:=ht.fields
 have beqN:∀a:Tx,c7w .eql (.str a) (.str [])=some (.bool (decide (a=[]))):=fun a=>by rw[d6B,d6J]
 have lc:decide ((t.fields.length:Int)=0)=decide (t.fields.length=0):=decide_eq_decide.2 (by omega)
 simp only[D8,oD,Nat.zero_add,h2.ld,q1,beqN]
 have rest:∀(b:Bool),b=c3n m t→
   (b7 (c9 S3 (.ptr k2 0)) fun v19=>b7 (i5 .eql v19 (.int .u8 6)) fun v20=>i9 v20
    (b7 (c9 S3 (.ptr k2 3)) fun v22=>b7 (i5 .eql v22 (.int .i64 0)) fun v23=>b7 (d9 (d6 v23 true) (j1 4 (.ptr k2 0))) fun v24=>b7 (d9 (d6 v23 true) (c9 S3 v24)) fun v25=>b7 (d9 (d6 v23 true) (i5 .eql v25 (.int .i64 0))) fun v26=>b7 (q7 v23 v26 (.bool false)) fun v27=>
     b7 (d9 (d6 v27 true) (j1 2 (.ptr k2 0))) fun v28=>b7 (d9 (d6 v27 true) (c9 S3 v28)) fun v29=>b7 (d9 (d6 v27 true) (some (.fn (.func a0u) [] [.ptr k 0]))) fun v30=>
     V8 (d6 v27 true) (fun K=>l8 Try.prog E w0 A6 [v29,v30] S3 K) S3 fun v31 S32=>b7 (d9 (d6 v27 true) (unD .not v31)) fun v33=>b7 (q7 v27 v33 (.bool false)) fun v34=>i4 E (fun d' S'=>d'= .bool (a0m m t)∧S'=S) v34 S32)
    (b7 (i5 .eql v19 (.int .u8 7)) fun v35=>i9 v35
     (b7 (d9 (d6 (.bool b) true) (j1 4 (.ptr k2 0))) fun v36=>b7 (d9 (d6 (.bool b) true) (c9 S3 v36)) fun v37=>b7 (d9 (d6 (.bool b) true) (i5 .geq v37 (.int .i64 0))) fun v38=>b7 (q7 (.bool b) v38 (.bool false)) fun v39=>
      b7 (d9 (d6 v39 true) (j1 4 (.ptr k2 0))) fun v40=>b7 (d9 (d6 v39 true) (c9 S3 v40)) fun v41=>b7 (d9 (d6 v39 true) (i5 .leq v41 (.int .i64 65536))) fun v42=>b7 (q7 v39 v42 (.bool false)) fun v43=>i4 E (fun d' S'=>d'= .bool (a0m m t)∧S'=S) v43 S3)
     (b7 (i5 .eql v19 (.int .u8 8)) fun v44=>i9 v44
      (b7 (d9 (d6 (.bool b) true) (j1 4 (.ptr k2 0))) fun v45=>b7 (d9 (d6 (.bool b) true) (c9 S3 v45)) fun v46=>b7 (d9 (d6 (.bool b) true) (i5 .eql v46 (.int .i64 0))) fun v47=>b7 (q7 (.bool b) v47 (.bool false)) fun v48=>i4 E (fun d' S'=>d'= .bool (a0m m t)∧S'=S) v48 S3)
      (i4 E (fun d' S'=>d'= .bool (a0m m t)∧S'=S) (.bool false) S3)))):=fun b hb=>by
  rw[h2.ld,q0,oD,U6,oD,K0]
  refine⟨fun k6=> ?_,fun k6=> ?_⟩
  ·have e6:a0m m t=(decide (t.elem=0)&&decide (t.len=0)&&t.fields.all fun f=>K6 m f.2):=by unfold a0m;rw[if_pos k6]
   simp only[h2.ld,q3,oD,U6]
   by_cases c1:t.elem=0
   case neg=>simp only[decide_eq_false c1,K7,t3',vdF,gdF,oD,L7,Bool.false_eq_true,if_false];exact fin false (by rw[e6,decide_eq_false c1];rfl)
   simp only[decide_eq_true c1,K7,t4',vdT,oD,L7,if_true,D8,Nat.zero_add,h2.ld,q4,U6]
   by_cases c2:t.len=0
   case neg=>simp only[decide_eq_false c2,K7,t3',vdF,gdF,oD,L7,Bool.false_eq_true,if_false];exact fin false (by rw[e6,decide_eq_false c2,Bool.and_false];rfl)
   simp only[decide_eq_true c2,K7,t4',vdT,gdT,oD,L7,if_true,D8,Nat.zero_add,h2.ld,q2]
   refine(c3u (p:=fun f=> !K6 m f.2) (by omega) fun f hf=>a1P (cs:=[.ptr k 0]) (by kernel_rfl) (c4a hm (ht.names f hf).2 h0)).use fun d S' ⟨h1,h2⟩=> ?_
   subst h1 h2
   simp only[unN,oD,vdT,L7,if_true]
   refine fin _ ?_
   rw[e6,decide_eq_true c1,decide_eq_true c2,c9A];rfl
  rw[U6,oD,K0]
  refine⟨fun k7=> ?_,fun k7=> ?_⟩
  ·have e7:a0m m t=(c3n m t&&decide (0≤t.len∧t.len≤65536)):=by unfold a0m;rw[if_neg k6,if_pos k7]
   rw[←hb]at e7
   cases b with
   |false=>simp only[K7,t3',vdF,gdF,oD,L7,Bool.false_eq_true,if_false];exact fin false (by rw[e7];rfl)
   |true=>
    simp only[K7,t4',vdT,oD,L7,if_true,D8,Nat.zero_add,h2.ld,q4,a7X]
    by_cases c1:t.len≥0
    ·simp only[decide_eq_true c1,K7,t4',vdT,oD,L7,if_true,D8,Nat.zero_add,h2.ld,q4,d0d]
     exact fin _ (by rw[e7,Bool.true_and];exact decide_eq_decide.2 ⟨fun h=>h.2,fun h=>⟨c1,h⟩⟩)
    ·simp only[decide_eq_false c1,K7,t3',vdF,oD,L7,Bool.false_eq_true,if_false]
     exact fin false (by rw[e7,decide_eq_false (fun h=>c1 h.1)];rfl)
  rw[U6,oD,K0]
  refine⟨fun k8=> ?_,fun k8=>fin false (by unfold a0m;rw[if_neg k6,if_neg k7,if_neg k8])⟩
  have e8:a0m m t=(c3n m t&&decide (t.len=0)):=by unfold a0m;rw[if_neg k6,if_neg k7,if_pos k8]
  rw[←hb]at e8
  cases b with
  |false=>simp only[K7,t3',vdF,gdF,oD,L7,Bool.false_eq_true,if_false];exact fin false (by rw[e8];rfl)
  |true=>
   simp only[K7,t4',vdT,oD,L7,if_true,D8,Nat.zero_add,h2.ld,q4,U6]
   exact fin _ (by rw[e8,Bool.true_and])
 by_cases c1:t.name=[]
 case neg=>
  simp only[decide_eq_false c1,K7,t3',vdF,gdF,oD,L7,Bool.false_eq_true,if_false]
  exact rest false (by rw[c4S,decide_eq_false c1];rfl)
 simp only[decide_eq_true c1,K7,t4',vdT,oD,L7,if_true,h2.ld,q2,a1c,U6,lc]
 by_cases c2:t.fields.length=0
 case neg=>
  simp only[decide_eq_false c2,K7,t3',vdF,gdF,oD,L7,Bool.false_eq_true,if_false]
  exact rest false (by rw[c4S,decide_eq_false c2,Bool.and_false];rfl)
 simp only[decide_eq_true c2,K7,t4',vdT,gdT,oD,L7,if_true,h2.ld,q3]
 rw[h0.all (n:=3) (by decide) rfl,oD]
 refine(show l8 Try.prog E w0 Q9 [moD m, .int .i64 t.elem] S3 _ from(a5G hm ht.elem).use ?_)
 exact rest _ (by rw[c4S,decide_eq_true c1,decide_eq_true c2];rfl)
theorem b4L{m:Mo}(hm:m.Ok){t:Int}(ht:I64 t){S:b8}{k:Nat}(hk:u7 S k 3 (K5 m)):l8 Try.prog E w0 a2q [.int .i64 t, .ptr k 0] S fun d S'=>d= .bool (!K6 m t)∧S'=S:=by
 refine b0s ?_
 unfold a6P
 rw[hk.all (n:=3) (by decide) rfl,oD]
 refine(show l8 Try.prog E w0 Q9 [moD m, .int .i64 t] S _ from(a5G hm ht).use ?_)
 rw[unN,oD]
 exact i4.here ⟨rfl,rfl⟩
theorem c5e{m:Mo}(hm:m.Fits){r:Ro}{y:In}(hy:y.Ok){S:b8}{k k2:Nat}(hk:u7 S k 3 (K5 m))(hk2:u7 S k2 6 (K1 r)):l8 Try.prog E w0 a2J [inD y, .ptr k 0, .ptr k2 0] S fun d S'=>d= .bool (!a1O m r y)∧S'=S:=by
 refine b0y ?_
 unfold a6U
 rw[inD,Q8,oD]
 intro k0 a0 n0
 have c0:u7 (S.set k0 ⟨4,[O2 y],a0⟩) k0 4 (O2 y):=u7.new
 rw[show(O2 y).length=4 from rfl,c0.all (n:=4) (by decide) rfl,oD,(hk.set n0).all (n:=3) (by decide) rfl,oD]
 refine(show l8 Try.prog E w0 a0Q [inD y,moD m] _ _ from(b4Z hy hm).use ?_)
 rintro v S' ⟨p,q,rfl,g⟩
 have hle:=(Two.le g)
 have c0:=c0.le hle
 have c2:=(hk2.set (o:=⟨4,[O2 y],a0⟩) n0).le hle
 have l0:(O2 y)[0]? =some (.int .u8 y.op):=rfl
 have l1:(O2 y)[1]? =some (.int .i64 y.a):=rfl
 have l3:(K1 r)[3]? =some (.int .i64 r.locals):=rfl
 have hS:S.le S':=b8.le_trans (b8.le_new n0) hle
 have fin:∀b:Bool,a1O m r y= !b→i4 E (fun d S'=>d= .bool (!a1O m r y)∧S'=S) (.bool b) S':=fun b h=>by rw[h,Bool.not_not];exact i4.less hS (i4.here ⟨rfl,rfl⟩)
 simp only[exD,List.getElem?_cons_zero,List.getElem?_cons_succ,oD,a1m]
 by_cases c1:(s9 y m).2.2=0
 case neg=>
  simp only[decide_eq_true c1,ne_eq,not_false_eq_true,decide_true,K7,t1',vdF,oD,L7,if_true]
  exact fin true (by unfold a1O;rw[decide_eq_false c1];rfl)
 have c1':decide ((s9 y m).2.2≠0)=false:=decide_eq_false (fun h=>h c1)
 have em:a1O m r y= !(decide (y.op=7∨y.op=8)&&decide (r.locals≤y.a)):=by unfold a1O;rw[decide_eq_true c1,Bool.true_and]
 simp only[c1',K7,t2',vdT,oD,L7,Bool.false_eq_true,if_false,D8,Nat.zero_add,c0.ld,l0,U6]
 by_cases c7:y.op=7
 ·simp only[decide_eq_true c7,K7,t1',t4',vdF,vdT,oD,L7,if_true,D8,Nat.zero_add,c0.ld,c2.ld,l1,l3,a7X]
  refine fin _ ?_
  rw[em,decide_eq_true (.inl c7),Bool.true_and]
 simp only[decide_eq_false c7,K7,t2',vdT,oD,L7,Bool.false_eq_true,if_false,D8,Nat.zero_add,c0.ld,l0,U6]
 by_cases c8:y.op=8
 ·simp only[decide_eq_true c8,K7,t4',vdT,oD,L7,if_true,D8,Nat.zero_add,c0.ld,c2.ld,l1,l3,a7X]
  refine fin _ ?_
  rw[em,decide_eq_true (.inr c8),Bool.true_and]
 ·simp only[decide_eq_false c8,K7,t3',vdF,oD,L7,Bool.false_eq_true,if_false]
  exact fin false (by rw[em,decide_eq_false (fun h=>h.elim c7 c8)];rfl)
end
end
section
theorem c5l{α:Type}{p:α→Bool}(l:List α):(l.any fun a=> !p a)= !l.all p:=by rw[←c9A,Bool.not_not]
section
variable{E:j3}{w0:j8}
theorem b6O{m:Mo}(hm:m.Fits){r:Ro}(hr:r.Ok)(hc:r.code.length<2^30):U1 Try.prog E w0 a1J [moD m, .agg (K1 r)] (.bool (a2P m r)):=fun S=>by
 refine b4s ?_
 unfold a9Q
 rw[moD,Q8,oD]
 intro k a n
 rw[Q8,oD]
 intro k2 a2 n2
 obtain⟨ne2,n2'⟩:=b8.fresh n2
 generalize hS3:(S.set k _).set k2 _=S3
 have h2:u7 S3 k2 6 (K1 r):=by rw[←hS3];exact u7.new
 have h0:u7 S3 k 3 (K5 m):=by rw[←hS3];exact(u7.new).set n2
 have hle:S.le S3:=by rw[←hS3];exact b8.le_set (b8.le_new n) n2'
 have q1:(K1 r)[1]? =some (iD r.params):=rfl
 have q2:(K1 r)[2]? =some (iD r.results):=rfl
 have q3:(K1 r)[3]? =some (.int .i64 r.locals):=rfl
 have q4:(K1 r)[4]? =some (.int .i64 r.stack):=rfl
 have q5:(K1 r)[5]? =some (bD r.code):=rfl
 have fin:∀b:Bool,a2P m r=b→i4 E (fun d' S'=>d'= .bool (a2P m r)∧S'=S) (.bool b) S3:=fun b h=>by rw[h];exact i4.less hle i4.pure
 have hp:=hr.params
 have hq:=hr.results
 have hmo:=hm.ok
 simp only[oD,D8,Nat.zero_add,h2.ld,q1]
 refine(b2d (p:=fun t=> !K6 m t) (by omega) fun t ht=>a1P (cs:=[.ptr k 0]) (by kernel_rfl) (b4L hmo (hr.ints t (List.mem_append_left _ ht)) h0)).use fun d S' ⟨g1,g2⟩=> ?_
 subst g1 g2
 rw[c5l]
 cases c1:r.params.all (K6 m) with
 |false=>
  simp only[Bool.not_false,K7,t1',vdF,gdF,oD,L7,if_true,cdT]
  exact fin false (by unfold a2P;rw[c1];rfl)
 |true=>
 simp only[Bool.not_true,K7,t2',vdT,gdT,oD,h2.ld,D8,Nat.zero_add,q2]
 refine(b2d (p:=fun t=> !K6 m t) (by omega) fun t ht=>a1P (cs:=[.ptr k 0]) (by kernel_rfl) (b4L hmo (hr.ints t (List.mem_append_right _ ht)) h0)).use fun d S' ⟨g1,g2⟩=> ?_
 subst g1 g2
 rw[c5l]
 cases c2:r.results.all (K6 m) with
 |false=>
  simp only[Bool.not_false,K7,t1',vdF,gdF,oD,L7,Bool.false_eq_true,if_false,if_true,cdT]
  exact fin false (by unfold a2P;rw[c1,c2];rfl)
 |true=>
 simp only[Bool.not_true,K7,t2',vdT,gdT,oD,L7,Bool.false_eq_true,if_false,h2.ld,D8,Nat.zero_add,q3,q1,Y7,H6]
 by_cases c3:r.locals<(r.params.length:Int)
 ·simp only[decide_eq_true c3,K7,t1',vdF,gdF,oD,L7,if_true,cdT]
  exact fin false (by unfold a2P;rw[c1,c2,decide_eq_true c3];rfl)
 simp only[decide_eq_false c3,K7,t2',vdT,gdT,oD,L7,Bool.false_eq_true,if_false,h2.ld,D8,Nat.zero_add,q4,H6]
 rw[K0]
 refine⟨fun c4=>fin false (by unfold a2P;rw[c1,c2,decide_eq_false c3,decide_eq_true c4];rfl),fun c4=> ?_⟩
 rw[q5,oD]
 refine(c8c hr.bytes hc).use ?_
 rw[d3z]
 simp only[exD,List.getElem?_cons_zero,List.getElem?_cons_succ,oD,U6]
 obtain⟨i1,i2,i3⟩:=d3x (bs:=r.code) hr.bytes
 have e0:a2P m r=(decide ((a7K (a6D r.code)).2.2=0)&&(a7K (a6D r.code)).1.all (a1O m r)):=by unfold a2P;rw[c1,c2,decide_eq_false c3,decide_eq_false c4];rfl
 by_cases c5:(a7K (a6D r.code)).2.2=0
 ·simp only[decide_eq_true c5,K7,t4',vdT,gdT,oD,L7,if_true]
  refine(d1H (p:=fun y=> !a1O m r y) (by omega) fun y hy=>a1P (cs:=[.ptr k 0, .ptr k2 0]) (by kernel_rfl) (c5e hm (i1 y hy) h0 h2)).use fun d S' ⟨g1,g2⟩=> ?_
  subst g1 g2
  rw[c5l]
  simp only[unN,oD,vdT,L7,if_true,Bool.not_not]
  exact fin _ (by rw[e0,decide_eq_true c5,Bool.true_and])
 ·simp only[decide_eq_false c5,K7,t3',vdF,gdF,oD,L7,Bool.false_eq_true,if_false]
  exact fin false (by rw[e0,decide_eq_false c5,Bool.false_and])
theorem c0j{f:Tx×Int}{S:b8}:l8 Try.prog E w0 a1u [.agg (a1a f)] S fun d S'=>d= .bool (decide (f.1.length>65536))∧S'=S:=by
 refine a9u ?_
 unfold a4I
 rw[Q8,oD]
 intro k0 a0 n0
 have c0:u7 (S.set k0 ⟨2,[a1a f],a0⟩) k0 2 (a1a f):=u7.new
 rw[show(a1a f).length=2 from rfl,D8,oD,c0.ld,show(a1a f)[0+0]? =some (.str f.1) from rfl,oD,lnS,oD,a6n,oD]
 exact i4.drop n0 (i4.here ⟨by rw[decide_eq_decide.2 (show(f.1.length:Int)>65536↔f.1.length>65536 by omega)],rfl⟩)
theorem c1p{t:Tx}{S:b8}:l8 Try.prog E w0 a1r [.str t] S fun d S'=>d= .bool (decide (t.length>65536))∧S'=S:=by
 refine a8N ?_
 unfold a4L
 rw[lnS,oD,a6n,oD]
 exact i4.here ⟨by rw[decide_eq_decide.2 (show(t.length:Int)>65536↔t.length>65536 by omega)],rfl⟩
theorem gtN(a b:Nat):i5 .gtr (.int .i64 (a:Int)) (.int .i64 (b:Int))=some (.bool (decide (a>b))):=by
 rw[a6n,decide_eq_decide.2 (show(a:Int)>(b:Int)↔a>b by omega)]
theorem b3X{m:Mo}(hm:m.Fits):U1 Try.prog E w0 a2K [moD m] (.int .i64 (P0 m)):=fun S=>by
 refine b1f ?_
 unfold a6T
 rw[moD,Q8,oD]
 intro k a n
 have h0:u7 (S.set k ⟨3,[K5 m],a⟩) k 3 (K5 m):=u7.new
 have hle:S.le (S.set k ⟨3,[K5 m],a⟩):=b8.le_new n
 rw[show(K5 m).length=3 from rfl]
 generalize S.set k ⟨3,[K5 m],a⟩=S1 at*
 have hmo:=hm.ok
 have q0:(K5 m)[0]? =some (a8S m.types):=rfl
 have q1:(K5 m)[1]? =some (b0c m.texts):=rfl
 have q2:(K5 m)[2]? =some (a5s m.funcs):=rfl
 have t0:=hm.types
 have t1:=hm.texts
 have t2:=hm.funcs
 have fin:∀ {T:b8} {e:Int},S.le T→P0 m=e→i4 E (fun d' S'=>d'= .int .i64 (P0 m)∧S'=S) (.int .i64 e) T:=fun{T e} hl h=>by rw[h];exact i4.less hl i4.pure
 have g256:∀a:Nat,i5 .gtr (.int .i64 (a:Int)) (.int .i64 256)=some (.bool (decide (a>256))):=fun a=>gtN a 256
 have g32768:∀a:Nat,i5 .gtr (.int .i64 (a:Int)) (.int .i64 32768)=some (.bool (decide (a>32768))):=fun a=>gtN a 32768
 have g65536:∀a:Nat,i5 .gtr (.int .i64 (a:Int)) (.int .i64 65536)=some (.bool (decide (a>65536))):=fun a=>gtN a 65536
 have g32:∀a:Nat,i5 .gtr (.int .i64 (a:Int)) (.int .i64 32)=some (.bool (decide (a>32))):=fun a=>gtN a 32
 have g8:∀a:Nat,i5 .gtr (.int .i64 (a:Int)) (.int .i64 8)=some (.bool (decide (a>8))):=fun a=>gtN a 8
 simp only[D8,oD,Nat.zero_add,h0.ld,q0,a6h,g256]
 by_cases c0:m.types.length>256
 ·simp only[decide_eq_true c0,K7,t1',vdF,oD,L7,if_true,cdT]
  exact fin hle (by unfold P0;rw[if_pos (.inl c0)])
 simp only[decide_eq_false c0,K7,t2',vdT,oD,h0.ld,q1,D8,Nat.zero_add,a8a,g32768,L7,Bool.false_eq_true,if_false]
 by_cases c1:m.texts.length>32768
 ·simp only[decide_eq_true c1,K7,t1',vdF,oD,L7,if_true,cdT]
  exact fin hle (by unfold P0;rw[if_pos (.inr (.inl c1))])
 simp only[decide_eq_false c1,K7,t2',vdT,oD,h0.ld,q2,D8,Nat.zero_add,a4p,g256,L7,Bool.false_eq_true,if_false]
 by_cases c2:m.funcs.length>256
 ·simp only[decide_eq_true c2,cdT]
  exact fin hle (by unfold P0;rw[if_pos (.inr (.inr c2))])
 simp only[decide_eq_false c2,cdF]
 have e0:P0 m=if O1 (a4R m) m.types≠0 then O1 (a4R m) m.types else if m.texts.any (fun t=>decide (t.length>65536))=true then 3 else O1 (a8i m) m.funcs:=by
  unfold P0;rw[if_neg (by omega)]
 refine a8q (I:=fun n x1 x24 x25 x26 T=>x1= .ptr k 0∧x24=a8S m.types∧x25= .int .i64 (m.types.length:Int)∧S.le T∧u7 T k 3 (K5 m)∧∃i:Nat,x26= .int .i64 (i:Int)∧i+n=m.types.length∧O1 (a4R m) m.types=O1 (a4R m) (m.types.drop i)) ?_ (n:=m.types.length)
  ⟨rfl,rfl,rfl,hle,h0,0,rfl,by omega,rfl⟩
 rintro n _ _ _ _ T ⟨rfl,rfl,rfl,hT,cT,i,rfl,hi,hfi⟩
 unfold a1z
 rw[H6,oD,K0]
 refine⟨fun hlt=> ?_,fun hge=> ?_⟩
 ·have hlt:i<m.types.length:=by omega
  obtain⟨t,ht⟩:∃t,t=m.types[i]:=⟨_,rfl⟩
  have et:m.types[i]? =some t:=by rw[List.getElem?_eq_getElem hlt,ht]
  have htm:t∈m.types:=by rw[ht];exact List.getElem_mem _
  have htok:=hmo.ty t htm
  rw[b8b hlt, ←ht]at hfi
  rw[b4F et,oD,d4q,oD]
  intro k2 a2 n2
  refine(u7.new (sz:=5) (c:=[(.int .u8 0),(.str []), .nilSlc,(.int .i64 0),(.int .i64 0)])).st (ds:=V0 t) (Q8 _) ⟨rfl,by decide,by decide⟩ fun a2=> ?_
  rw[b8.set_set,show j9 [(D.int .u8 0),(.str []), .nilSlc,(.int .i64 0),(.int .i64 0)] 0 (V0 t)=V0 t from rfl]
  have c5:u7 (T.set k2 ⟨5,[V0 t],a2⟩) k2 5 (V0 t):=u7.new
  have hT2:S.le (T.set k2 ⟨5,[V0 t],a2⟩):=b8.le_set hT (b8.none_of hT n2)
  have cT2:=cT.set (o:=⟨5,[V0 t],a2⟩) n2
  generalize T.set k2 ⟨5,[V0 t],a2⟩=T2 at*
  have p1:(V0 t)[1]? =some (.str t.name):=rfl
  have p2:(V0 t)[2]? =some (a2N t.fields):=rfl
  have hend:∀b:Bool,a7g t=b→J5 E w0 (fun x1 x24 x25 x26 S_1=>∃m_1,m_1<n∧x1= .ptr k 0∧x24=a8S m.types∧x25= .int .i64 (m.types.length:Int)∧S.le S_1∧u7 S_1 k 3 (K5 m)∧∃i:Nat,x26= .int .i64 (i:Int)∧i+m_1=m.types.length∧O1 (a4R m) m.types=O1 (a4R m) (m.types.drop i))
    (i4 E fun d' S'=>d'= .int .i64 (P0 m)∧S'=S) (.ptr k 0) (.ptr k2 0) (a8S m.types) (.int .i64 (m.types.length:Int)) (.int .i64 (i:Int)) (.bool b) T2:=fun b hb=>by
   refine a7E ?_
   unfold a3X
   cases b with
   |true=>
    rw[cdT]
    have:a4R m t=3:=by unfold a4R;rw[if_pos hb]
    rw[this,if_neg (by decide)]at hfi
    exact fin hT2 (by rw[e0,hfi,if_pos (by decide)])
   |false=>
    rw[cdF,cT2.all (n:=3) (by decide) rfl,oD,c5.all (n:=5) (by decide) rfl,oD]
    refine(show l8 Try.prog E w0 a1I [moD m, .agg (V0 t)] T2 _ from(b7u hmo htok).use ?_)
    rw[unN,oD,cdB]
    refine⟨fun h=> ?_,fun h=> ?_⟩
    ·have h:a0m m t=false:=by simpa using h
     have:a4R m t=130:=by unfold a4R;rw[if_neg (by rw[hb];simp),if_neg (by rw[h];simp)]
     rw[this,if_neg (by decide)]at hfi
     exact fin hT2 (by rw[e0,hfi,if_pos (by decide)])
    ·have h:a0m m t=true:=by simpa using h
     have:a4R m t=0:=by unfold a4R;rw[if_neg (by rw[hb];simp),if_pos h]
     rw[this,if_pos rfl]at hfi
     rw[D5,oD,l7 (by omega) (by omega)]
     exact⟨n - 1,by omega,rfl,rfl,rfl,hT2,cT2,i+1,rfl,by omega,hfi⟩
  simp only[D8,oD,Nat.zero_add,c5.ld,p2,a1c,g32]
  by_cases d1:t.fields.length>32
  ·rw[decide_eq_true d1,cdT]
   exact hend true (by unfold a7g;rw[decide_eq_true d1];rfl)
  rw[decide_eq_false d1,cdF]
  simp only[p1,lnS,oD,g65536]
  by_cases d2:t.name.length>65536
  ·rw[decide_eq_true d2,cdT]
   exact hend true (by unfold a7g;rw[decide_eq_true d2];simp)
  rw[decide_eq_false d2,cdF]
  have hfl:=htok.fields
  refine(c3u (p:=fun f=>decide (f.1.length>65536)) (by omega) fun f hf=>a1P (cs:=[]) (by kernel_rfl) c0j).use fun d S' ⟨g1,g2⟩=> ?_
  subst g1 g2
  exact hend _ (by unfold a7g;rw[decide_eq_false d1,decide_eq_false d2];rfl)
 have hi:i=m.types.length:=by omega
 subst hi
 rw[List.drop_length,O1]at hfi
 rw[hfi,if_neg (by simp)]at e0
 simp only[D8,oD,cT.ld,q1]
 refine(d0q (p:=fun t=>decide (t.length>65536)) (by omega) fun t ht=>a1P (cs:=[]) (by kernel_rfl) c1p).use fun d S' ⟨g1,g2⟩=> ?_
 subst g1 g2
 rw[cdB]
 refine⟨fun h=>fin hT (by rw[e0,if_pos h]),fun h=> ?_⟩
 rw[if_neg (by rw[h];simp)]at e0
 simp only[D8,oD,cT.ld,q2,a4p]
 refine a9F (I:=fun n x1 x52 x53 x54 T=>x1= .ptr k 0∧x52=a5s m.funcs∧x53= .int .i64 (m.funcs.length:Int)∧S.le T∧u7 T k 3 (K5 m)∧∃i:Nat,x54= .int .i64 (i:Int)∧i+n=m.funcs.length∧O1 (a8i m) m.funcs=O1 (a8i m) (m.funcs.drop i)) ?_ (n:=m.funcs.length)
  ⟨rfl,rfl,rfl,hT,cT,0,rfl,by omega,rfl⟩
 rintro n _ _ _ _ T ⟨rfl,rfl,rfl,hT,cT,i,rfl,hi,hfi⟩
 unfold a1w
 rw[H6,oD,K0]
 refine⟨fun hlt=> ?_,fun hge=> ?_⟩
 ·have hlt:i<m.funcs.length:=by omega
  obtain⟨t,ht⟩:∃t,t=m.funcs[i]:=⟨_,rfl⟩
  have et:m.funcs[i]? =some t:=by rw[List.getElem?_eq_getElem hlt,ht]
  have htm:t∈m.funcs:=by rw[ht];exact List.getElem_mem _
  have htok:=hmo.ro t htm
  obtain⟨b1,b2,b3⟩:=hm.params t htm
  rw[b8b hlt, ←ht]at hfi
  rw[a9c et,oD,d4f,oD]
  intro k2 a2 n2
  refine(u7.new (sz:=6) (c:=[(.str []), .nilSlc, .nilSlc,(.int .i64 0),(.int .i64 0), .nilSlc])).st (ds:=K1 t) (Q8 _) ⟨rfl,by decide,by decide⟩ fun a2=> ?_
  rw[b8.set_set,show j9 [(D.str []), .nilSlc, .nilSlc,(.int .i64 0),(.int .i64 0), .nilSlc] 0 (K1 t)=K1 t from rfl]
  have c6:u7 (T.set k2 ⟨6,[K1 t],a2⟩) k2 6 (K1 t):=u7.new
  have hT2:S.le (T.set k2 ⟨6,[K1 t],a2⟩):=b8.le_set hT (b8.none_of hT n2)
  have cT2:=cT.set (o:=⟨6,[K1 t],a2⟩) n2
  generalize T.set k2 ⟨6,[K1 t],a2⟩=T2 at*
  have p0:(K1 t)[0]? =some (.str t.name):=rfl
  have p1:(K1 t)[1]? =some (iD t.params):=rfl
  have p2:(K1 t)[2]? =some (iD t.results):=rfl
  have p3:(K1 t)[3]? =some (.int .i64 t.locals):=rfl
  have p4:(K1 t)[4]? =some (.int .i64 t.stack):=rfl
  have p5:(K1 t)[5]? =some (bD t.code):=rfl
  have hend:∀b:Bool,a2u t=b→B6 E w0 (fun x1 x52 x53 x54 S_1=>∃m_1,m_1<n∧x1= .ptr k 0∧x52=a5s m.funcs∧x53= .int .i64 (m.funcs.length:Int)∧S.le S_1∧u7 S_1 k 3 (K5 m)∧∃i:Nat,x54= .int .i64 (i:Int)∧i+m_1=m.funcs.length∧O1 (a8i m) m.funcs=O1 (a8i m) (m.funcs.drop i))
    (i4 E fun d' S'=>d'= .int .i64 (P0 m)∧S'=S) (.ptr k 0) (.ptr k2 0) (a5s m.funcs) (.int .i64 (m.funcs.length:Int)) (.int .i64 (i:Int)) (.bool b) T2:=fun b hb=>by
   refine a7Y ?_
   unfold a4c
   cases b with
   |true=>
    rw[cdT]
    have:a8i m t=3:=by unfold a8i;rw[if_pos hb]
    rw[this,if_neg (by decide)]at hfi
    exact fin hT2 (by rw[e0,hfi])
   |false=>
    rw[cdF,cT2.all (n:=3) (by decide) rfl,oD,c6.all (n:=6) (by decide) rfl,oD]
    refine(show l8 Try.prog E w0 a1J [moD m, .agg (K1 t)] T2 _ from(b6O hm htok b3).use ?_)
    rw[unN,oD,cdB]
    refine⟨fun h=> ?_,fun h=> ?_⟩
    ·have h:a2P m t=false:=by simpa using h
     have:a8i m t=130:=by unfold a8i;rw[if_neg (by rw[hb];simp),if_neg (by rw[h];simp)]
     rw[this,if_neg (by decide)]at hfi
     exact fin hT2 (by rw[e0,hfi])
    ·have h:a2P m t=true:=by simpa using h
     have:a8i m t=0:=by unfold a8i;rw[if_neg (by rw[hb];simp),if_pos h]
     rw[this,if_pos rfl]at hfi
     rw[D5,oD,l7 (by omega) (by omega)]
     exact⟨n - 1,by omega,rfl,rfl,rfl,hT2,cT2,i+1,rfl,by omega,hfi⟩
  simp only[D8,oD,Nat.zero_add,c6.ld,p1,Y7,g32]
  by_cases d1:t.params.length>32
  ·rw[decide_eq_true d1,cdT]
   exact hend true (by unfold a2u;rw[decide_eq_true d1];simp)
  rw[decide_eq_false d1,cdF]
  simp only[p2,Y7,oD,g8]
  by_cases d2:t.results.length>8
  ·rw[decide_eq_true d2,cdT]
   exact hend true (by unfold a2u;rw[decide_eq_true d2];simp)
  rw[decide_eq_false d2,cdF]
  simp only[p3,oD,a6n]
  by_cases d3:t.locals>256
  ·rw[decide_eq_true d3,cdT]
   exact hend true (by unfold a2u;rw[decide_eq_true d3];simp)
  rw[decide_eq_false d3,cdF]
  simp only[p4,oD,a6n]
  by_cases d4:t.stack>4096
  ·rw[decide_eq_true d4,cdT]
   exact hend true (by unfold a2u;rw[decide_eq_true d4];simp)
  rw[decide_eq_false d4,cdF]
  simp only[p5,a1M,oD,g65536]
  by_cases d5:t.code.length>65536
  ·rw[decide_eq_true d5,cdT]
   exact hend true (by unfold a2u;rw[decide_eq_true d5];simp)
  rw[decide_eq_false d5,cdF]
  simp only[p0,lnS,oD,g65536]
  exact hend _ (by unfold a2u;rw[decide_eq_false d1,decide_eq_false d2,decide_eq_false d3,decide_eq_false d4,decide_eq_false d5];rfl)
 ·have hi:i=m.funcs.length:=by omega
  subst hi
  rw[List.drop_length,O1]at hfi
  exact fin hT (by rw[e0,hfi])
end
end
end Go.Proofs.Ytdkidgkiplcggaa.d
end
