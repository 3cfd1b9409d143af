/-
  ImageOnceSaid: part Naz of its proof.
-/
import Derived.Test.YtchnpgddpaonhaaNav
import Derived.Test.YtchnpgddpaonhaaNay
set_option linter.unusedVariables false
set_option linter.unusedSimpArgs false
set_option maxRecDepth 100000
section
open Go.Proofs Go Go.Am Go.Op
namespace Go.Proofs.Ytchnpgddpaonhaa.d
section
def Y0(m:Mo)(t:Int):Bool:=decide (1≤t∧t≤5)||decide (16≤t∧t - 16<m.types.length)
def c1S(m:Mo)(t:Ty):Bool:=decide (t.name=[])&&decide (t.fields.length=0)&&Y0 m t.elem
def a0o(m:Mo)(t:Ty):Bool:=
 if t.kind=6 then decide (t.elem=0)&&decide (t.len=0)&&t.fields.all fun f=>Y0 m f.2
 else if t.kind=7 then c1S m t&&decide (0≤t.len∧t.len≤65536)
 else if t.kind=8 then c1S m t&&decide (t.len=0) else false
def a8T(m:Mo)(r:Ro)(y:In):Bool:=decide ((a0Z y m).2.2=0)&& !(decide (y.op=7∨y.op=8)&&decide (r.locals≤y.a))
def a3k(m:Mo)(r:Ro):Bool:=
 r.params.all (Y0 m)&&r.results.all (Y0 m)&& !decide (r.locals<r.params.length)&& !decide (r.stack<0)&&
  decide ((b2h (b7Z r.code)).2.2=0)&&(b2h (b7Z r.code)).1.all (a8T m r)
section
variable{E:l9}{w0:o0}
def a4F(E:l9)(w0:o0)(S:b7)(fv d:D)(b:Bool):Prop:=∀K:D→b7→Prop,K (.bool b) S→a1L Try.prog (n9 Try.prog E w0) S fv [d] K
theorem a3u{f:FuncId}(hf:a7Y Try.prog f=true){cs:List D}{d:D}{b:Bool}{S:b7}(h:n9 Try.prog E w0 f (d::cs) S fun d' S'=>d'= .bool b∧S'=S):a4F E w0 S (.fn (.func f) [] cs) d b:=fun K hK=>by
 simp only[a1L,b0r,hf,List.nil_append,List.singleton_append,if_true]
 refine h.use fun d' S' ⟨h1,h2⟩=> ?_
 subst h1 h2
 exact hK
def b8v{α:Type}(p:α→Bool)(l:List α):Int:=match l.findIdx? p with
 |some i=>(i:Int)
 |none=> -1
theorem c3b{α:Type}{p:α→Bool}{l:List α}{i:Nat}(h:(l.take i).any p=false)(hi:i≤l.length):l.findIdx? p=((l.drop i).findIdx? p).map (· +i):=by
 induction l generalizing i with
 |nil=>simp
 |cons a l ih=>
  cases i with
  |zero=>simp
  |succ i=>
   simp only[List.take_succ_cons,List.any_cons,Bool.or_eq_false_iff]at h
   rw[List.drop_succ_cons,List.findIdx?_cons,h.1]
   simp only[Bool.false_eq_true,if_false,ih h.2 (by simpa using hi),Option.map_map]
   cases (l.drop i).findIdx? p<;>simp[Function.comp];omega
theorem b8q{α:Type}{p:α→Bool}{l:List α}:decide (b8v p l≥0)=l.any p:=by
 unfold b8v
 cases h:l.findIdx? p with
 |none=>
  have:∀a∈l,p a=false:=by simpa [List.findIdx?_eq_none_iff]using h
  have:l.any p=false:=by rw[List.any_eq_false];intro a ha;simp[this a ha]
  rw[this];rfl
 |some i=>
  have hi:=List.findIdx?_eq_some_iff_getElem.1 h
  obtain⟨h1,h2,_⟩:=hi
  have:l.any p=true:=List.any_eq_true.2 ⟨_,List.getElem_mem h1,h2⟩
  rw[this]
  exact decide_eq_true (by simp)
theorem b4p{α:Type}{p:α→Bool}{l:List α}{i:Nat}(h:(l.take i).any p=false)(hi:i<l.length):(p l[i]=true→b8v p l=(i:Int))∧(p l[i]=false→(l.take (i+1)).any p=false):=by
 constructor
 ·intro hp
  unfold b8v
  rw[c3b h (by omega),List.drop_eq_getElem_cons hi,List.findIdx?_cons,hp]
  simp
 ·intro hp
  rw[List.take_add_one,List.getElem?_eq_getElem hi,List.any_append,h]
  simpa using hp
theorem b8k{α:Type}{p:α→Bool}{l:List α}(h:l.any p=false):b8v p l= -1:=by
 unfold b8v
 have:l.findIdx? p=none:=by
  rw[List.findIdx?_eq_none_iff]
  intro a ha
  have:=List.any_eq_false.1 h a ha
  simpa using this
 rw[this]
theorem c4O{l:List (Tx×Int)}{p:Tx×Int→Bool}{fv:D}(hl:l.length<2^60){S:b7}(hp:∀y∈l,a4F E w0 S fv (.agg (a0n y)) (p y)):n9 Try.prog E w0 L5 [a5z l,fv] S fun d S'=>d= .int .i64 (b8v p l)∧S'=S:=by
 refine a2Q ?_
 unfold a0f
 rw[a3e,oD]
 refine a2e (I:=fun n x0 x1 x7 x8 T=>S=T∧x0=a5z l∧fv=x1∧x7= .int .i64 (l.length:Int)∧∃i:Nat,x8= .int .i64 (i:Int)∧i+n=l.length∧(l.take i).any p=false) ?_ (n:=l.length) ⟨rfl,rfl,rfl,rfl,0,rfl,by omega,rfl⟩
 rintro n _ _ _ _ _ ⟨rfl,rfl,rfl,rfl,i,rfl,hi,ht⟩
 unfold J1
 rw[M9,oD,O4]
 refine⟨fun hlt=> ?_,fun hge=> ?_⟩
 ·have hlt:i<l.length:=by omega
  obtain⟨s1,s2⟩:=b4p ht hlt
  rw[b4w (List.getElem?_eq_getElem hlt),oD,c9Q,oD]
  refine hp _ (List.getElem_mem _) _ ?_
  rw[cdB]
  refine⟨fun h=>d8.here ⟨by rw[s1 h],rfl⟩,fun h=> ?_⟩
  rw[F7,oD,o3 (by omega) (by omega)]
  exact⟨n - 1,by omega,rfl,rfl,rfl,rfl,i+1,rfl,by omega,s2 h⟩
 ·rw[List.take_of_length_le (by omega)]at ht
  exact d8.here ⟨by rw[b8k ht],rfl⟩
theorem c4Q{l:List Tx}{p:Tx→Bool}{fv:D}(hl:l.length<2^60){S:b7}(hp:∀y∈l,a4F E w0 S fv (.str y) (p y)):n9 Try.prog E w0 O9 [b1g l,fv] S fun d S'=>d= .int .i64 (b8v p l)∧S'=S:=by
 refine a4h ?_
 unfold a1l
 rw[b4s,oD]
 refine a3t (I:=fun n x0 x1 x7 x8 T=>S=T∧x0=b1g l∧fv=x1∧x7= .int .i64 (l.length:Int)∧∃i:Nat,x8= .int .i64 (i:Int)∧i+n=l.length∧(l.take i).any p=false) ?_ (n:=l.length) ⟨rfl,rfl,rfl,rfl,0,rfl,by omega,rfl⟩
 rintro n _ _ _ _ _ ⟨rfl,rfl,rfl,rfl,i,rfl,hi,ht⟩
 unfold M6
 rw[M9,oD,O4]
 refine⟨fun hlt=> ?_,fun hge=> ?_⟩
 ·have hlt:i<l.length:=by omega
  obtain⟨s1,s2⟩:=b4p ht hlt
  rw[c7S (List.getElem?_eq_getElem hlt),oD,lsE,List.getElem?_cons_zero,oD]
  refine hp _ (List.getElem_mem _) _ ?_
  rw[cdB]
  refine⟨fun h=>d8.here ⟨by rw[s1 h],rfl⟩,fun h=> ?_⟩
  rw[F7,oD,o3 (by omega) (by omega)]
  exact⟨n - 1,by omega,rfl,rfl,rfl,rfl,i+1,rfl,by omega,s2 h⟩
 ·rw[List.take_of_length_le (by omega)]at ht
  exact d8.here ⟨by rw[b8k ht],rfl⟩
theorem c5e{l:List Int}{p:Int→Bool}{fv:D}(hl:l.length<2^60){S:b7}(hp:∀y∈l,a4F E w0 S fv (.int .i64 y) (p y)):n9 Try.prog E w0 Z7 [iD l,fv] S fun d S'=>d= .int .i64 (b8v p l)∧S'=S:=by
 refine a6i ?_
 unfold a2J
 rw[c0b,oD]
 refine a4I (I:=fun n x0 x1 x7 x8 T=>S=T∧x0=iD l∧fv=x1∧x7= .int .i64 (l.length:Int)∧∃i:Nat,x8= .int .i64 (i:Int)∧i+n=l.length∧(l.take i).any p=false) ?_ (n:=l.length) ⟨rfl,rfl,rfl,rfl,0,rfl,by omega,rfl⟩
 rintro n _ _ _ _ _ ⟨rfl,rfl,rfl,rfl,i,rfl,hi,ht⟩
 unfold R8
 rw[M9,oD,O4]
 refine⟨fun hlt=> ?_,fun hge=> ?_⟩
 ·have hlt:i<l.length:=by omega
  obtain⟨s1,s2⟩:=b4p ht hlt
  rw[d1J (List.getElem?_eq_getElem hlt),oD,lsE,List.getElem?_cons_zero,oD]
  refine hp _ (List.getElem_mem _) _ ?_
  rw[cdB]
  refine⟨fun h=>d8.here ⟨by rw[s1 h],rfl⟩,fun h=> ?_⟩
  rw[F7,oD,o3 (by omega) (by omega)]
  exact⟨n - 1,by omega,rfl,rfl,rfl,rfl,i+1,rfl,by omega,s2 h⟩
 ·rw[List.take_of_length_le (by omega)]at ht
  exact d8.here ⟨by rw[b8k ht],rfl⟩
theorem d4d(S:b7)(y:In):i9 S 4 (.elt (inC y) 0)=some (.agg (inC y)):=rfl
theorem d0z{l:List In}{i:Nat}{y:In}(h:l[i]? =some y):D1 4 (b9h l) (.int .i64 (i:Int))=some (.elt (inC y) 0):=b5q (by rw[List.getElem?_map,h];rfl)
theorem c6l{l:List In}{p:In→Bool}{fv:D}(hl:l.length<2^60){S:b7}(hp:∀y∈l,a4F E w0 S fv (inD y) (p y)):n9 Try.prog E w0 L3 [b9h l,fv] S fun d S'=>d= .int .i64 (b8v p l)∧S'=S:=by
 refine a2P ?_
 unfold a0e
 rw[show r6 (b9h l)=some (.int .i64 (l.length:Int)) by simp[b9h],oD]
 refine a2i (I:=fun n x0 x1 x7 x8 T=>S=T∧x0=b9h l∧fv=x1∧x7= .int .i64 (l.length:Int)∧∃i:Nat,x8= .int .i64 (i:Int)∧i+n=l.length∧(l.take i).any p=false) ?_ (n:=l.length) ⟨rfl,rfl,rfl,rfl,0,rfl,by omega,rfl⟩
 rintro n _ _ _ _ _ ⟨rfl,rfl,rfl,rfl,i,rfl,hi,ht⟩
 unfold I5
 rw[M9,oD,O4]
 refine⟨fun hlt=> ?_,fun hge=> ?_⟩
 ·have hlt:i<l.length:=by omega
  obtain⟨s1,s2⟩:=b4p ht hlt
  rw[d0z (List.getElem?_eq_getElem hlt),oD,d4d,oD]
  refine hp _ (List.getElem_mem _) _ ?_
  rw[cdB]
  refine⟨fun h=>d8.here ⟨by rw[s1 h],rfl⟩,fun h=> ?_⟩
  rw[F7,oD,o3 (by omega) (by omega)]
  exact⟨n - 1,by omega,rfl,rfl,rfl,rfl,i+1,rfl,by omega,s2 h⟩
 ·rw[List.take_of_length_le (by omega)]at ht
  exact d8.here ⟨by rw[b8k ht],rfl⟩
theorem c1L{l:List (Tx×Int)}{p:Tx×Int→Bool}{fv:D}(hl:l.length<2^60){S:b7}(hp:∀y∈l,a4F E w0 S fv (.agg (a0n y)) (p y)):n9 Try.prog E w0 B4 [a5z l,fv] S fun d S'=>d= .bool (l.any p)∧S'=S:=by
 refine a1K ?_
 unfold U8
 refine(c4O hl hp).use fun d S' ⟨h1,h2⟩=> ?_
 subst h1 h2
 rw[a9V,oD,b8q];exact d8.here ⟨rfl,rfl⟩
theorem c8E{l:List Tx}{p:Tx→Bool}{fv:D}(hl:l.length<2^60){S:b7}(hp:∀y∈l,a4F E w0 S fv (.str y) (p y)):n9 Try.prog E w0 L4 [b1g l,fv] S fun d S'=>d= .bool (l.any p)∧S'=S:=by
 refine a2O ?_
 unfold a0k
 refine(c4Q hl hp).use fun d S' ⟨h1,h2⟩=> ?_
 subst h1 h2
 rw[a9V,oD,b8q];exact d8.here ⟨rfl,rfl⟩
theorem c2b{l:List Int}{p:Int→Bool}{fv:D}(hl:l.length<2^60){S:b7}(hp:∀y∈l,a4F E w0 S fv (.int .i64 y) (p y)):n9 Try.prog E w0 H9 [iD l,fv] S fun d S'=>d= .bool (l.any p)∧S'=S:=by
 refine a4j ?_
 unfold a1k
 refine(c5e hl hp).use fun d S' ⟨h1,h2⟩=> ?_
 subst h1 h2
 rw[a9V,oD,b8q];exact d8.here ⟨rfl,rfl⟩
theorem d0r{l:List In}{p:In→Bool}{fv:D}(hl:l.length<2^60){S:b7}(hp:∀y∈l,a4F E w0 S fv (inD y) (p y)):n9 Try.prog E w0 H8 [b9h l,fv] S fun d S'=>d= .bool (l.any p)∧S'=S:=by
 refine a1N ?_
 unfold U9
 refine(c6l hl hp).use fun d S' ⟨h1,h2⟩=> ?_
 subst h1 h2
 rw[a9V,oD,b8q];exact d8.here ⟨rfl,rfl⟩
theorem t1':(true==false)=false:=rfl
theorem t2':(false==false)=true:=rfl
theorem t3':(false==true)=false:=rfl
theorem t4':(true==true)=true:=rfl
theorem a5F{m:Mo}(hm:m.Ok){t:Int}(ht:I64 t):a0B Try.prog E w0 Q5 [moD m, .int .i64 t] (.bool (Y0 m t)):=fun S=>by
 refine b5Z ?_
 unfold b2M
 rw[moD,clA,oD]
 intro k a n
 have h0:w5 (S.set k ⟨3,[moC m],a⟩) k 3 (moC m):=w5.new
 rw[show(moC m).length=3 from rfl]
 have h2:=hm.types
 obtain⟨i1,i2⟩:=ht
 have ld:c9 (S.set k ⟨3,[moC m],a⟩) (.ptr k 0)=some (b2i m.types):=h0.ld 0
 have fin:∀b:Bool,Y0 m t=b→d8 E (fun d' S'=>d'= .bool (Y0 m t)∧S'=S) (.bool b) (S.set k ⟨3,[moC m],a⟩):=fun b h=>by rw[h];exact d8.drop n d8.pure
 rw[d0u,oD]
 by_cases c1:1≤t
 ·simp only[decide_eq_true c1,wdB,t4',vdT,oD,pdB,if_true,d0u]
  by_cases c2:t≤5
  ·simp only[decide_eq_true c2,wdB,t1',vdF,oD,pdB,if_true]
   exact fin true (by unfold Y0;rw[decide_eq_true ⟨c1,c2⟩];rfl)
  ·simp only[decide_eq_false c2,wdB,t2',vdT,oD,pdB,Bool.false_eq_true,if_false,a9V]
   by_cases c3:t≥16
   ·simp only[decide_eq_true c3,wdB,t4',vdT,oD,pdB,if_true,a9J,I4,Nat.zero_add,ld,b0n,M9]
    rw[o3 (by omega) (by omega)]
    refine fin _ ?_
    unfold Y0
    rw[decide_eq_false (fun h=>c2 h.2),Bool.false_or]
    exact decide_eq_decide.2 ⟨fun h=>h.2,fun h=>⟨c3,h⟩⟩
   ·simp only[decide_eq_false c3,wdB,t3',vdF,oD,pdB,Bool.false_eq_true,if_false]
    exact fin false (by unfold Y0;rw[decide_eq_false (fun h=>c2 h.2),decide_eq_false (fun h=>c3 h.1)];rfl)
 ·have c3:¬t≥16:=by omega
  simp only[decide_eq_false c1,wdB,t3',t2',vdT,vdF,oD,pdB,Bool.false_eq_true,if_false,a9V,decide_eq_false c3]
  exact fin false (by unfold Y0;rw[decide_eq_false (fun h=>c1 h.1),decide_eq_false (fun h=>c3 h.1)];rfl)
end
end
section
def a6A(t:Ty):Bool:=decide (t.fields.length>32)||decide (t.name.length>65536)||t.fields.any fun f=>decide (f.1.length>65536)
def a2o(r:Ro):Bool:=decide (r.params.length>32)||decide (r.results.length>8)||decide (r.locals>256)||decide (r.stack>4096)||decide (r.code.length>65536)||decide (r.name.length>65536)
def a4s(m:Mo)(t:Ty):Int:=if a6A t=true then 3 else if a0o m t=true then 0 else 130
def a7n(m:Mo)(r:Ro):Int:=if a2o r=true then 3 else if a3k m r=true then 0 else 130
def O1{α:Type}(f:α→Int):List α→Int
 | []=>0
 |a::l=>if f a=0 then O1 f l else f a
theorem b7n{α:Type}{f:α→Int}{l:List α}{i:Nat}(hi:i<l.length):O1 f (l.drop i)=if f l[i]=0 then O1 f (l.drop (i+1)) else f l[i]:=by
 rw[List.drop_eq_getElem_cons hi,O1]
def D6(m:Mo):Int:=
 if m.types.length>256∨m.texts.length>32768∨m.funcs.length>256 then 3
 else if O1 (a4s m) m.types≠0 then O1 (a4s m) m.types
 else if m.texts.any (fun t=>decide (t.length>65536))=true then 3 else O1 (a7n m) m.funcs
theorem c7c{α:Type}{p:α→Bool}(l:List α):(!l.any fun a=> !p a)=l.all p:=by
 induction l with
 |nil=>rfl
 |cons a l ih=>rw[List.any_cons,List.all_cons, ←ih];cases p a<;>simp
section
variable{E:l9}{w0:o0}
theorem c2z{m:Mo}(hm:m.Ok){f:Tx×Int}(hf:I64 f.2){S:b7}{k:Nat}(hk:w5 S k 3 (moC m)):n9 Try.prog E w0 a0x [.agg (a0n f), .ptr k 0] S fun d S'=>d= .bool (!Y0 m f.2)∧S'=S:=by
 refine b0e ?_
 unfold a6u
 rw[clA,oD]
 intro k0 a0 n0
 have c0:w5 (S.set k0 ⟨2,[a0n f],a0⟩) k0 2 (a0n f):=w5.new
 rw[show(a0n f).length=2 from rfl,(hk.set n0).all (n:=3) (by decide) rfl,oD,I4,oD,c0.ld,show(a0n f)[0+1]? =some (.int .i64 f.2) from rfl,oD]
 refine(a5F hm hf).use ?_
 rw[unN,oD]
 exact d8.drop n0 (d8.here ⟨rfl,rfl⟩)
theorem c2o{m:Mo}{t:Ty}:c1S m t=(decide (t.name=[])&&decide (t.fields.length=0)&&Y0 m t.elem):=rfl
theorem b6B{m:Mo}(hm:m.Ok){t:Ty}(ht:t.Ok):a0B Try.prog E w0 a1H [moD m, .agg (P3 t)] (.bool (a0o m t)):=fun S=>by
 refine b3P ?_
 unfold a9C
 rw[moD,clA,oD]
 intro k a n
 rw[clA,oD]
 intro k2 a2 n2
 obtain⟨ne2,n2'⟩:=b7.fresh n2
 generalize hS3:(S.set k _).set k2 _=S3
 have h2:w5 S3 k2 5 (P3 t):=by rw[←hS3];exact w5.new
 have h0:w5 S3 k 3 (moC m):=by rw[←hS3];exact(w5.new).set n2
 have hle:S.le S3:=by rw[←hS3];exact b7.le_set (b7.le_new n) n2'
 have q0:(P3 t)[0]? =some (.int .u8 t.kind):=rfl
 have q1:(P3 t)[1]? =some (.str t.name):=rfl
 have q2:(P3 t)[2]? =some (a5z t.fields):=rfl
 have q3:(P3 t)[3]? =some (.int .i64 t.elem):=rfl
 have q4:(P3 t)[4]? =some (.int .i64 t.len):=rfl
 have fin:∀b:Bool,a0o m t=b→d8 E (fun d' S'=>d'= .bool (a0o m t)∧S'=S) (.bool b) S3:=fun b h=>by rw[h];exact d8.less hle d8.pure
 have hfl:=ht.fields
 have beqN:∀a:Tx,b7Y .eql (.str a) (.str [])=some (.bool (decide (a=[]))):=fun a=>by rw[d3h,d3y]
 have lc:decide ((t.fields.length:Int)=0)=decide (t.fields.length=0):=decide_eq_decide.2 (by omega)
 simp only[I4,oD,Nat.zero_add,h2.ld,q1,beqN]
 have rest:∀(b:Bool),b=c1S m t→
   (a9 (c9 S3 (.ptr k2 0)) fun v19=>a9 (d9 .eql v19 (.int .u8 6)) fun v20=>j0 v20
    (a9 (c9 S3 (.ptr k2 3)) fun v22=>a9 (d9 .eql v22 (.int .i64 0)) fun v23=>a9 (j8 (d6 v23 true) (m7 4 (.ptr k2 0))) fun v24=>a9 (j8 (d6 v23 true) (c9 S3 v24)) fun v25=>a9 (j8 (d6 v23 true) (d9 .eql v25 (.int .i64 0))) fun v26=>a9 (w8 v23 v26 (.bool false)) fun v27=>
     a9 (j8 (d6 v27 true) (m7 2 (.ptr k2 0))) fun v28=>a9 (j8 (d6 v27 true) (c9 S3 v28)) fun v29=>a9 (j8 (d6 v27 true) (some (.fn (.func a0x) [] [.ptr k 0]))) fun v30=>
     a4g (d6 v27 true) (fun K=>n9 Try.prog E w0 B4 [v29,v30] S3 K) S3 fun v31 S32=>a9 (j8 (d6 v27 true) (unD .not v31)) fun v33=>a9 (w8 v27 v33 (.bool false)) fun v34=>d8 E (fun d' S'=>d'= .bool (a0o m t)∧S'=S) v34 S32)
    (a9 (d9 .eql v19 (.int .u8 7)) fun v35=>j0 v35
     (a9 (j8 (d6 (.bool b) true) (m7 4 (.ptr k2 0))) fun v36=>a9 (j8 (d6 (.bool b) true) (c9 S3 v36)) fun v37=>a9 (j8 (d6 (.bool b) true) (d9 .geq v37 (.int .i64 0))) fun v38=>a9 (w8 (.bool b) v38 (.bool false)) fun v39=>
      a9 (j8 (d6 v39 true) (m7 4 (.ptr k2 0))) fun v40=>a9 (j8 (d6 v39 true) (c9 S3 v40)) fun v41=>a9 (j8 (d6 v39 true) (d9 .leq v41 (.int .i64 65536))) fun v42=>a9 (w8 v39 v42 (.bool false)) fun v43=>d8 E (fun d' S'=>d'= .bool (a0o m t)∧S'=S) v43 S3)
     (a9 (d9 .eql v19 (.int .u8 8)) fun v44=>j0 v44
      (a9 (j8 (d6 (.bool b) true) (m7 4 (.ptr k2 0))) fun v45=>a9 (j8 (d6 (.bool b) true) (c9 S3 v45)) fun v46=>a9 (j8 (d6 (.bool b) true) (d9 .eql v46 (.int .i64 0))) fun v47=>a9 (w8 (.bool b) v47 (.bool false)) fun v48=>d8 E (fun d' S'=>d'= .bool (a0o m t)∧S'=S) v48 S3)
      (d8 E (fun d' S'=>d'= .bool (a0o m t)∧S'=S) (.bool false) S3)))):=fun b hb=>by
  rw[h2.ld,q0,oD,a4r,oD,O4]
  refine⟨fun k6=> ?_,fun k6=> ?_⟩
  ·have e6:a0o m t=(decide (t.elem=0)&&decide (t.len=0)&&t.fields.all fun f=>Y0 m f.2):=by unfold a0o;rw[if_pos k6]
   simp only[h2.ld,q3,oD,a4r]
   by_cases c1:t.elem=0
   case neg=>simp only[decide_eq_false c1,wdB,t3',vdF,gdF,oD,pdB,Bool.false_eq_true,if_false];exact fin false (by rw[e6,decide_eq_false c1];rfl)
   simp only[decide_eq_true c1,wdB,t4',vdT,oD,pdB,if_true,I4,Nat.zero_add,h2.ld,q4,a4r]
   by_cases c2:t.len=0
   case neg=>simp only[decide_eq_false c2,wdB,t3',vdF,gdF,oD,pdB,Bool.false_eq_true,if_false];exact fin false (by rw[e6,decide_eq_false c2,Bool.and_false];rfl)
   simp only[decide_eq_true c2,wdB,t4',vdT,gdT,oD,pdB,if_true,I4,Nat.zero_add,h2.ld,q2]
   refine(c1L (p:=fun f=> !Y0 m f.2) (by omega) fun f hf=>a3u (cs:=[.ptr k 0]) (by kernel_rfl) (c2z hm (ht.names f hf).2 h0)).use fun d S' ⟨h1,h2⟩=> ?_
   subst h1 h2
   simp only[unN,oD,vdT,pdB,if_true]
   refine fin _ ?_
   rw[e6,decide_eq_true c1,decide_eq_true c2,c7c];rfl
  rw[a4r,oD,O4]
  refine⟨fun k7=> ?_,fun k7=> ?_⟩
  ·have e7:a0o m t=(c1S m t&&decide (0≤t.len∧t.len≤65536)):=by unfold a0o;rw[if_neg k6,if_pos k7]
   rw[←hb]at e7
   cases b with
   |false=>simp only[wdB,t3',vdF,gdF,oD,pdB,Bool.false_eq_true,if_false];exact fin false (by rw[e7];rfl)
   |true=>
    simp only[wdB,t4',vdT,oD,pdB,if_true,I4,Nat.zero_add,h2.ld,q4,a9V]
    by_cases c1:t.len≥0
    ·simp only[decide_eq_true c1,wdB,t4',vdT,oD,pdB,if_true,I4,Nat.zero_add,h2.ld,q4,d0u]
     exact fin _ (by rw[e7,Bool.true_and];exact decide_eq_decide.2 ⟨fun h=>h.2,fun h=>⟨c1,h⟩⟩)
    ·simp only[decide_eq_false c1,wdB,t3',vdF,oD,pdB,Bool.false_eq_true,if_false]
     exact fin false (by rw[e7,decide_eq_false (fun h=>c1 h.1)];rfl)
  rw[a4r,oD,O4]
  refine⟨fun k8=> ?_,fun k8=>fin false (by unfold a0o;rw[if_neg k6,if_neg k7,if_neg k8])⟩
  have e8:a0o m t=(c1S m t&&decide (t.len=0)):=by unfold a0o;rw[if_neg k6,if_neg k7,if_pos k8]
  rw[←hb]at e8
  cases b with
  |false=>simp only[wdB,t3',vdF,gdF,oD,pdB,Bool.false_eq_true,if_false];exact fin false (by rw[e8];rfl)
  |true=>
   simp only[wdB,t4',vdT,oD,pdB,if_true,I4,Nat.zero_add,h2.ld,q4,a4r]
   exact fin _ (by rw[e8,Bool.true_and])
 by_cases c1:t.name=[]
 case neg=>
  simp only[decide_eq_false c1,wdB,t3',vdF,gdF,oD,pdB,Bool.false_eq_true,if_false]
  exact rest false (by rw[c2o,decide_eq_false c1];rfl)
 simp only[decide_eq_true c1,wdB,t4',vdT,oD,pdB,if_true,h2.ld,q2,a3e,a4r,lc]
 by_cases c2:t.fields.length=0
 case neg=>
  simp only[decide_eq_false c2,wdB,t3',vdF,gdF,oD,pdB,Bool.false_eq_true,if_false]
  exact rest false (by rw[c2o,decide_eq_false c2,Bool.and_false];rfl)
 simp only[decide_eq_true c2,wdB,t4',vdT,gdT,oD,pdB,if_true,h2.ld,q3]
 rw[h0.all (n:=3) (by decide) rfl,oD]
 refine(show n9 Try.prog E w0 Q5 [moD m, .int .i64 t.elem] S3 _ from(a5F hm ht.elem).use ?_)
 exact rest _ (by rw[c2o,decide_eq_true c1,decide_eq_true c2];rfl)
theorem b5t{m:Mo}(hm:m.Ok){t:Int}(ht:I64 t){S:b7}{k:Nat}(hk:w5 S k 3 (moC m)):n9 Try.prog E w0 a2r [.int .i64 t, .ptr k 0] S fun d S'=>d= .bool (!Y0 m t)∧S'=S:=by
 refine b0D ?_
 unfold a6v
 rw[hk.all (n:=3) (by decide) rfl,oD]
 refine(show n9 Try.prog E w0 Q5 [moD m, .int .i64 t] S _ from(a5F hm ht).use ?_)
 rw[unN,oD]
 exact d8.here ⟨rfl,rfl⟩
theorem c2A{m:Mo}(hm:m.Fits){r:Ro}{y:In}(hy:y.Ok){S:b7}{k k2:Nat}(hk:w5 S k 3 (moC m))(hk2:w5 S k2 6 (roR r)):n9 Try.prog E w0 a2B [inD y, .ptr k 0, .ptr k2 0] S fun d S'=>d= .bool (!a8T m r y)∧S'=S:=by
 refine b1o ?_
 unfold a6I
 rw[inD,clA,oD]
 intro k0 a0 n0
 have c0:w5 (S.set k0 ⟨4,[inC y],a0⟩) k0 4 (inC y):=w5.new
 rw[show(inC y).length=4 from rfl,c0.all (n:=4) (by decide) rfl,oD,(hk.set n0).all (n:=3) (by decide) rfl,oD]
 refine(show n9 Try.prog E w0 a6s [inD y,moD m] _ _ from(c3x hy hm).use ?_)
 rintro v S' ⟨p,q,rfl,g⟩
 have hle:=(Two.le g)
 have c0:=c0.le hle
 have c2:=(hk2.set (o:=⟨4,[inC y],a0⟩) n0).le hle
 have l0:(inC y)[0]? =some (.int .u8 y.op):=rfl
 have l1:(inC y)[1]? =some (.int .i64 y.a):=rfl
 have l3:(roR r)[3]? =some (.int .i64 r.locals):=rfl
 have hS:S.le S':=b7.le_trans (b7.le_new n0) hle
 have fin:∀b:Bool,a8T m r y= !b→d8 E (fun d S'=>d= .bool (!a8T m r y)∧S'=S) (.bool b) S':=fun b h=>by rw[h,Bool.not_not];exact d8.less hS (d8.here ⟨rfl,rfl⟩)
 simp only[exD,List.getElem?_cons_zero,List.getElem?_cons_succ,oD,c7F]
 by_cases c1:(a0Z y m).2.2=0
 case neg=>
  simp only[decide_eq_true c1,ne_eq,not_false_eq_true,decide_true,wdB,t1',vdF,oD,pdB,if_true]
  exact fin true (by unfold a8T;rw[decide_eq_false c1];rfl)
 have c1':decide ((a0Z y m).2.2≠0)=false:=decide_eq_false (fun h=>h c1)
 have em:a8T m r y= !(decide (y.op=7∨y.op=8)&&decide (r.locals≤y.a)):=by unfold a8T;rw[decide_eq_true c1,Bool.true_and]
 simp only[c1',wdB,t2',vdT,oD,pdB,Bool.false_eq_true,if_false,I4,Nat.zero_add,c0.ld,l0,a4r]
 by_cases c7:y.op=7
 ·simp only[decide_eq_true c7,wdB,t1',t4',vdF,vdT,oD,pdB,if_true,I4,Nat.zero_add,c0.ld,c2.ld,l1,l3,a9V]
  refine fin _ ?_
  rw[em,decide_eq_true (.inl c7),Bool.true_and]
 simp only[decide_eq_false c7,wdB,t2',vdT,oD,pdB,Bool.false_eq_true,if_false,I4,Nat.zero_add,c0.ld,l0,a4r]
 by_cases c8:y.op=8
 ·simp only[decide_eq_true c8,wdB,t4',vdT,oD,pdB,if_true,I4,Nat.zero_add,c0.ld,c2.ld,l1,l3,a9V]
  refine fin _ ?_
  rw[em,decide_eq_true (.inr c8),Bool.true_and]
 ·simp only[decide_eq_false c8,wdB,t3',vdF,oD,pdB,Bool.false_eq_true,if_false]
  exact fin false (by rw[em,decide_eq_false (fun h=>h.elim c7 c8)];rfl)
end
end
section
theorem c6L{α:Type}{p:α→Bool}(l:List α):(l.any fun a=> !p a)= !l.all p:=by rw[←c7c,Bool.not_not]
section
variable{E:l9}{w0:o0}
theorem b6e{m:Mo}(hm:m.Fits){r:Ro}(hr:r.Ok)(hc:r.code.length<2^30):a0B Try.prog E w0 a1G [moD m, .agg (roR r)] (.bool (a3k m r)):=fun S=>by
 refine b3x ?_
 unfold a9E
 rw[moD,clA,oD]
 intro k a n
 rw[clA,oD]
 intro k2 a2 n2
 obtain⟨ne2,n2'⟩:=b7.fresh n2
 generalize hS3:(S.set k _).set k2 _=S3
 have h2:w5 S3 k2 6 (roR r):=by rw[←hS3];exact w5.new
 have h0:w5 S3 k 3 (moC m):=by rw[←hS3];exact(w5.new).set n2
 have hle:S.le S3:=by rw[←hS3];exact b7.le_set (b7.le_new n) n2'
 have q1:(roR r)[1]? =some (iD r.params):=rfl
 have q2:(roR r)[2]? =some (iD r.results):=rfl
 have q3:(roR r)[3]? =some (.int .i64 r.locals):=rfl
 have q4:(roR r)[4]? =some (.int .i64 r.stack):=rfl
 have q5:(roR r)[5]? =some (bD r.code):=rfl
 have fin:∀b:Bool,a3k m r=b→d8 E (fun d' S'=>d'= .bool (a3k m r)∧S'=S) (.bool b) S3:=fun b h=>by rw[h];exact d8.less hle d8.pure
 have hp:=hr.params
 have hq:=hr.results
 have hmo:=hm.ok
 simp only[oD,I4,Nat.zero_add,h2.ld,q1]
 refine(c2b (p:=fun t=> !Y0 m t) (by omega) fun t ht=>a3u (cs:=[.ptr k 0]) (by kernel_rfl) (b5t hmo (hr.ints t (List.mem_append_left _ ht)) h0)).use fun d S' ⟨g1,g2⟩=> ?_
 subst g1 g2
 rw[c6L]
 cases c1:r.params.all (Y0 m) with
 |false=>
  simp only[Bool.not_false,wdB,t1',vdF,gdF,oD,pdB,if_true,cdT]
  exact fin false (by unfold a3k;rw[c1];rfl)
 |true=>
 simp only[Bool.not_true,wdB,t2',vdT,gdT,oD,h2.ld,I4,Nat.zero_add,q2]
 refine(c2b (p:=fun t=> !Y0 m t) (by omega) fun t ht=>a3u (cs:=[.ptr k 0]) (by kernel_rfl) (b5t hmo (hr.ints t (List.mem_append_right _ ht)) h0)).use fun d S' ⟨g1,g2⟩=> ?_
 subst g1 g2
 rw[c6L]
 cases c2:r.results.all (Y0 m) with
 |false=>
  simp only[Bool.not_false,wdB,t1',vdF,gdF,oD,pdB,Bool.false_eq_true,if_false,if_true,cdT]
  exact fin false (by unfold a3k;rw[c1,c2];rfl)
 |true=>
 simp only[Bool.not_true,wdB,t2',vdT,gdT,oD,pdB,Bool.false_eq_true,if_false,h2.ld,I4,Nat.zero_add,q3,q1,c0b,M9]
 by_cases c3:r.locals<(r.params.length:Int)
 ·simp only[decide_eq_true c3,wdB,t1',vdF,gdF,oD,pdB,if_true,cdT]
  exact fin false (by unfold a3k;rw[c1,c2,decide_eq_true c3];rfl)
 simp only[decide_eq_false c3,wdB,t2',vdT,gdT,oD,pdB,Bool.false_eq_true,if_false,h2.ld,I4,Nat.zero_add,q4,M9]
 rw[O4]
 refine⟨fun c4=>fin false (by unfold a3k;rw[c1,c2,decide_eq_false c3,decide_eq_true c4];rfl),fun c4=> ?_⟩
 rw[q5,oD]
 refine(c6W hr.bytes hc).use ?_
 rw[d1o]
 simp only[exD,List.getElem?_cons_zero,List.getElem?_cons_succ,oD,a4r]
 obtain⟨i1,i2,i3⟩:=d0J (bs:=r.code) hr.bytes
 have e0:a3k m r=(decide ((b2h (b7Z r.code)).2.2=0)&&(b2h (b7Z r.code)).1.all (a8T m r)):=by unfold a3k;rw[c1,c2,decide_eq_false c3,decide_eq_false c4];rfl
 by_cases c5:(b2h (b7Z r.code)).2.2=0
 ·simp only[decide_eq_true c5,wdB,t4',vdT,gdT,oD,pdB,if_true]
  refine(d0r (p:=fun y=> !a8T m r y) (by omega) fun y hy=>a3u (cs:=[.ptr k 0, .ptr k2 0]) (by kernel_rfl) (c2A hm (i1 y hy) h0 h2)).use fun d S' ⟨g1,g2⟩=> ?_
  subst g1 g2
  rw[c6L]
  simp only[unN,oD,vdT,pdB,if_true,Bool.not_not]
  exact fin _ (by rw[e0,decide_eq_true c5,Bool.true_and])
 ·simp only[decide_eq_false c5,wdB,t3',vdF,gdF,oD,pdB,Bool.false_eq_true,if_false]
  exact fin false (by rw[e0,decide_eq_false c5,Bool.false_and])
theorem b9w{f:Tx×Int}{S:b7}:n9 Try.prog E w0 a1v [.agg (a0n f)] S fun d S'=>d= .bool (decide (f.1.length>65536))∧S'=S:=by
 refine a9c ?_
 unfold a4l
 rw[clA,oD]
 intro k0 a0 n0
 have c0:w5 (S.set k0 ⟨2,[a0n f],a0⟩) k0 2 (a0n f):=w5.new
 rw[show(a0n f).length=2 from rfl,I4,oD,c0.ld,show(a0n f)[0+0]? =some (.str f.1) from rfl,oD,lnS,oD,a3f,oD]
 exact d8.drop n0 (d8.here ⟨by rw[decide_eq_decide.2 (show(f.1.length:Int)>65536↔f.1.length>65536 by omega)],rfl⟩)
theorem b9G{t:Tx}{S:b7}:n9 Try.prog E w0 a1t [.str t] S fun d S'=>d= .bool (decide (t.length>65536))∧S'=S:=by
 refine a8H ?_
 unfold a4n
 rw[lnS,oD,a3f,oD]
 exact d8.here ⟨by rw[decide_eq_decide.2 (show(t.length:Int)>65536↔t.length>65536 by omega)],rfl⟩
theorem gtN(a b:Nat):d9 .gtr (.int .i64 (a:Int)) (.int .i64 (b:Int))=some (.bool (decide (a>b))):=by
 rw[a3f,decide_eq_decide.2 (show(a:Int)>(b:Int)↔a>b by omega)]
theorem a6c{m:Mo}(hm:m.Fits):a0B Try.prog E w0 P8 [moD m] (.int .i64 (D6 m)):=fun S=>by
 refine b0B ?_
 unfold a6D
 rw[moD,clA,oD]
 intro k a n
 have h0:w5 (S.set k ⟨3,[moC m],a⟩) k 3 (moC m):=w5.new
 have hle:S.le (S.set k ⟨3,[moC m],a⟩):=b7.le_new n
 rw[show(moC m).length=3 from rfl]
 generalize S.set k ⟨3,[moC m],a⟩=S1 at*
 have hmo:=hm.ok
 have q0:(moC m)[0]? =some (b2i m.types):=rfl
 have q1:(moC m)[1]? =some (b1g m.texts):=rfl
 have q2:(moC m)[2]? =some (b2p m.funcs):=rfl
 have t0:=hm.types
 have t1:=hm.texts
 have t2:=hm.funcs
 have fin:∀ {T:b7} {e:Int},S.le T→D6 m=e→d8 E (fun d' S'=>d'= .int .i64 (D6 m)∧S'=S) (.int .i64 e) T:=fun{T e} hl h=>by rw[h];exact d8.less hl d8.pure
 have g256:∀a:Nat,d9 .gtr (.int .i64 (a:Int)) (.int .i64 256)=some (.bool (decide (a>256))):=fun a=>gtN a 256
 have g32768:∀a:Nat,d9 .gtr (.int .i64 (a:Int)) (.int .i64 32768)=some (.bool (decide (a>32768))):=fun a=>gtN a 32768
 have g65536:∀a:Nat,d9 .gtr (.int .i64 (a:Int)) (.int .i64 65536)=some (.bool (decide (a>65536))):=fun a=>gtN a 65536
 have g32:∀a:Nat,d9 .gtr (.int .i64 (a:Int)) (.int .i64 32)=some (.bool (decide (a>32))):=fun a=>gtN a 32
 have g8:∀a:Nat,d9 .gtr (.int .i64 (a:Int)) (.int .i64 8)=some (.bool (decide (a>8))):=fun a=>gtN a 8
 simp only[I4,oD,Nat.zero_add,h0.ld,q0,b0n,g256]
 by_cases c0:m.types.length>256
 ·simp only[decide_eq_true c0,wdB,t1',vdF,oD,pdB,if_true,cdT]
  exact fin hle (by unfold D6;rw[if_pos (.inl c0)])
 simp only[decide_eq_false c0,wdB,t2',vdT,oD,h0.ld,q1,I4,Nat.zero_add,b4s,g32768,pdB,Bool.false_eq_true,if_false]
 by_cases c1:m.texts.length>32768
 ·simp only[decide_eq_true c1,wdB,t1',vdF,oD,pdB,if_true,cdT]
  exact fin hle (by unfold D6;rw[if_pos (.inr (.inl c1))])
 simp only[decide_eq_false c1,wdB,t2',vdT,oD,h0.ld,q2,I4,Nat.zero_add,b4b,g256,pdB,Bool.false_eq_true,if_false]
 by_cases c2:m.funcs.length>256
 ·simp only[decide_eq_true c2,cdT]
  exact fin hle (by unfold D6;rw[if_pos (.inr (.inr c2))])
 simp only[decide_eq_false c2,cdF]
 have e0:D6 m=if O1 (a4s m) m.types≠0 then O1 (a4s m) m.types else if m.texts.any (fun t=>decide (t.length>65536))=true then 3 else O1 (a7n m) m.funcs:=by
  unfold D6;rw[if_neg (by omega)]
 refine a8R (I:=fun n x1 x24 x25 x26 T=>x1= .ptr k 0∧x24=b2i m.types∧x25= .int .i64 (m.types.length:Int)∧S.le T∧w5 T k 3 (moC m)∧∃i:Nat,x26= .int .i64 (i:Int)∧i+n=m.types.length∧O1 (a4s m) m.types=O1 (a4s m) (m.types.drop i)) ?_ (n:=m.types.length)
  ⟨rfl,rfl,rfl,hle,h0,0,rfl,by omega,rfl⟩
 rintro n _ _ _ _ T ⟨rfl,rfl,rfl,hT,cT,i,rfl,hi,hfi⟩
 unfold a1s
 rw[M9,oD,O4]
 refine⟨fun hlt=> ?_,fun hge=> ?_⟩
 ·have hlt:i<m.types.length:=by omega
  obtain⟨t,ht⟩:∃t,t=m.types[i]:=⟨_,rfl⟩
  have et:m.types[i]? =some t:=by rw[List.getElem?_eq_getElem hlt,ht]
  have htm:t∈m.types:=by rw[ht];exact List.getElem_mem _
  have htok:=hmo.ty t htm
  rw[b7n hlt, ←ht]at hfi
  rw[c2M et,oD,d2A,oD]
  intro k2 a2 n2
  refine(w5.new (sz:=5) (c:=[(.int .u8 0),(.str []), .nilSlc,(.int .i64 0),(.int .i64 0)])).st (ds:=P3 t) (clA _) ⟨rfl,by decide,by decide⟩ fun a2=> ?_
  rw[b7.set_set,show o5 [(D.int .u8 0),(.str []), .nilSlc,(.int .i64 0),(.int .i64 0)] 0 (P3 t)=P3 t from rfl]
  have c5:w5 (T.set k2 ⟨5,[P3 t],a2⟩) k2 5 (P3 t):=w5.new
  have hT2:S.le (T.set k2 ⟨5,[P3 t],a2⟩):=b7.le_set hT (b7.none_of hT n2)
  have cT2:=cT.set (o:=⟨5,[P3 t],a2⟩) n2
  generalize T.set k2 ⟨5,[P3 t],a2⟩=T2 at*
  have p1:(P3 t)[1]? =some (.str t.name):=rfl
  have p2:(P3 t)[2]? =some (a5z t.fields):=rfl
  have hend:∀b:Bool,a6A t=b→K1 E w0 (fun x1 x24 x25 x26 S_1=>∃m_1,m_1<n∧x1= .ptr k 0∧x24=b2i m.types∧x25= .int .i64 (m.types.length:Int)∧S.le S_1∧w5 S_1 k 3 (moC m)∧∃i:Nat,x26= .int .i64 (i:Int)∧i+m_1=m.types.length∧O1 (a4s m) m.types=O1 (a4s m) (m.types.drop i))
    (d8 E fun d' S'=>d'= .int .i64 (D6 m)∧S'=S) (.ptr k 0) (.ptr k2 0) (b2i m.types) (.int .i64 (m.types.length:Int)) (.int .i64 (i:Int)) (.bool b) T2:=fun b hb=>by
   refine a7o ?_
   unfold a3V
   cases b with
   |true=>
    rw[cdT]
    have:a4s m t=3:=by unfold a4s;rw[if_pos hb]
    rw[this,if_neg (by decide)]at hfi
    exact fin hT2 (by rw[e0,hfi,if_pos (by decide)])
   |false=>
    rw[cdF,cT2.all (n:=3) (by decide) rfl,oD,c5.all (n:=5) (by decide) rfl,oD]
    refine(show n9 Try.prog E w0 a1H [moD m, .agg (P3 t)] T2 _ from(b6B hmo htok).use ?_)
    rw[unN,oD,cdB]
    refine⟨fun h=> ?_,fun h=> ?_⟩
    ·have h:a0o m t=false:=by simpa using h
     have:a4s m t=130:=by unfold a4s;rw[if_neg (by rw[hb];simp),if_neg (by rw[h];simp)]
     rw[this,if_neg (by decide)]at hfi
     exact fin hT2 (by rw[e0,hfi,if_pos (by decide)])
    ·have h:a0o m t=true:=by simpa using h
     have:a4s m t=0:=by unfold a4s;rw[if_neg (by rw[hb];simp),if_pos h]
     rw[this,if_pos rfl]at hfi
     rw[F7,oD,o3 (by omega) (by omega)]
     exact⟨n - 1,by omega,rfl,rfl,rfl,hT2,cT2,i+1,rfl,by omega,hfi⟩
  simp only[I4,oD,Nat.zero_add,c5.ld,p2,a3e,g32]
  by_cases d1:t.fields.length>32
  ·rw[decide_eq_true d1,cdT]
   exact hend true (by unfold a6A;rw[decide_eq_true d1];rfl)
  rw[decide_eq_false d1,cdF]
  simp only[p1,lnS,oD,g65536]
  by_cases d2:t.name.length>65536
  ·rw[decide_eq_true d2,cdT]
   exact hend true (by unfold a6A;rw[decide_eq_true d2];simp)
  rw[decide_eq_false d2,cdF]
  have hfl:=htok.fields
  refine(c1L (p:=fun f=>decide (f.1.length>65536)) (by omega) fun f hf=>a3u (cs:=[]) (by kernel_rfl) b9w).use fun d S' ⟨g1,g2⟩=> ?_
  subst g1 g2
  exact hend _ (by unfold a6A;rw[decide_eq_false d1,decide_eq_false d2];rfl)
 have hi:i=m.types.length:=by omega
 subst hi
 rw[List.drop_length,O1]at hfi
 rw[hfi,if_neg (by simp)]at e0
 simp only[I4,oD,cT.ld,q1]
 refine(c8E (p:=fun t=>decide (t.length>65536)) (by omega) fun t ht=>a3u (cs:=[]) (by kernel_rfl) b9G).use fun d S' ⟨g1,g2⟩=> ?_
 subst g1 g2
 rw[cdB]
 refine⟨fun h=>fin hT (by rw[e0,if_pos h]),fun h=> ?_⟩
 rw[if_neg (by rw[h];simp)]at e0
 simp only[I4,oD,cT.ld,q2,b4b]
 refine a9n (I:=fun n x1 x52 x53 x54 T=>x1= .ptr k 0∧x52=b2p m.funcs∧x53= .int .i64 (m.funcs.length:Int)∧S.le T∧w5 T k 3 (moC m)∧∃i:Nat,x54= .int .i64 (i:Int)∧i+n=m.funcs.length∧O1 (a7n m) m.funcs=O1 (a7n m) (m.funcs.drop i)) ?_ (n:=m.funcs.length)
  ⟨rfl,rfl,rfl,hT,cT,0,rfl,by omega,rfl⟩
 rintro n _ _ _ _ T ⟨rfl,rfl,rfl,hT,cT,i,rfl,hi,hfi⟩
 unfold a1w
 rw[M9,oD,O4]
 refine⟨fun hlt=> ?_,fun hge=> ?_⟩
 ·have hlt:i<m.funcs.length:=by omega
  obtain⟨t,ht⟩:∃t,t=m.funcs[i]:=⟨_,rfl⟩
  have et:m.funcs[i]? =some t:=by rw[List.getElem?_eq_getElem hlt,ht]
  have htm:t∈m.funcs:=by rw[ht];exact List.getElem_mem _
  have htok:=hmo.ro t htm
  obtain⟨b1,b2,b3⟩:=hm.params t htm
  rw[b7n hlt, ←ht]at hfi
  rw[c3o et,oD,d3k,oD]
  intro k2 a2 n2
  refine(w5.new (sz:=6) (c:=[(.str []), .nilSlc, .nilSlc,(.int .i64 0),(.int .i64 0), .nilSlc])).st (ds:=roR t) (clA _) ⟨rfl,by decide,by decide⟩ fun a2=> ?_
  rw[b7.set_set,show o5 [(D.str []), .nilSlc, .nilSlc,(.int .i64 0),(.int .i64 0), .nilSlc] 0 (roR t)=roR t from rfl]
  have c6:w5 (T.set k2 ⟨6,[roR t],a2⟩) k2 6 (roR t):=w5.new
  have hT2:S.le (T.set k2 ⟨6,[roR t],a2⟩):=b7.le_set hT (b7.none_of hT n2)
  have cT2:=cT.set (o:=⟨6,[roR t],a2⟩) n2
  generalize T.set k2 ⟨6,[roR t],a2⟩=T2 at*
  have p0:(roR t)[0]? =some (.str t.name):=rfl
  have p1:(roR t)[1]? =some (iD t.params):=rfl
  have p2:(roR t)[2]? =some (iD t.results):=rfl
  have p3:(roR t)[3]? =some (.int .i64 t.locals):=rfl
  have p4:(roR t)[4]? =some (.int .i64 t.stack):=rfl
  have p5:(roR t)[5]? =some (bD t.code):=rfl
  have hend:∀b:Bool,a2o t=b→B8 E w0 (fun x1 x52 x53 x54 S_1=>∃m_1,m_1<n∧x1= .ptr k 0∧x52=b2p m.funcs∧x53= .int .i64 (m.funcs.length:Int)∧S.le S_1∧w5 S_1 k 3 (moC m)∧∃i:Nat,x54= .int .i64 (i:Int)∧i+m_1=m.funcs.length∧O1 (a7n m) m.funcs=O1 (a7n m) (m.funcs.drop i))
    (d8 E fun d' S'=>d'= .int .i64 (D6 m)∧S'=S) (.ptr k 0) (.ptr k2 0) (b2p m.funcs) (.int .i64 (m.funcs.length:Int)) (.int .i64 (i:Int)) (.bool b) T2:=fun b hb=>by
   refine a7L ?_
   unfold a3R
   cases b with
   |true=>
    rw[cdT]
    have:a7n m t=3:=by unfold a7n;rw[if_pos hb]
    rw[this,if_neg (by decide)]at hfi
    exact fin hT2 (by rw[e0,hfi])
   |false=>
    rw[cdF,cT2.all (n:=3) (by decide) rfl,oD,c6.all (n:=6) (by decide) rfl,oD]
    refine(show n9 Try.prog E w0 a1G [moD m, .agg (roR t)] T2 _ from(b6e hm htok b3).use ?_)
    rw[unN,oD,cdB]
    refine⟨fun h=> ?_,fun h=> ?_⟩
    ·have h:a3k m t=false:=by simpa using h
     have:a7n m t=130:=by unfold a7n;rw[if_neg (by rw[hb];simp),if_neg (by rw[h];simp)]
     rw[this,if_neg (by decide)]at hfi
     exact fin hT2 (by rw[e0,hfi])
    ·have h:a3k m t=true:=by simpa using h
     have:a7n m t=0:=by unfold a7n;rw[if_neg (by rw[hb];simp),if_pos h]
     rw[this,if_pos rfl]at hfi
     rw[F7,oD,o3 (by omega) (by omega)]
     exact⟨n - 1,by omega,rfl,rfl,rfl,hT2,cT2,i+1,rfl,by omega,hfi⟩
  simp only[I4,oD,Nat.zero_add,c6.ld,p1,c0b,g32]
  by_cases d1:t.params.length>32
  ·rw[decide_eq_true d1,cdT]
   exact hend true (by unfold a2o;rw[decide_eq_true d1];simp)
  rw[decide_eq_false d1,cdF]
  simp only[p2,c0b,oD,g8]
  by_cases d2:t.results.length>8
  ·rw[decide_eq_true d2,cdT]
   exact hend true (by unfold a2o;rw[decide_eq_true d2];simp)
  rw[decide_eq_false d2,cdF]
  simp only[p3,oD,a3f]
  by_cases d3:t.locals>256
  ·rw[decide_eq_true d3,cdT]
   exact hend true (by unfold a2o;rw[decide_eq_true d3];simp)
  rw[decide_eq_false d3,cdF]
  simp only[p4,oD,a3f]
  by_cases d4:t.stack>4096
  ·rw[decide_eq_true d4,cdT]
   exact hend true (by unfold a2o;rw[decide_eq_true d4];simp)
  rw[decide_eq_false d4,cdF]
  simp only[p5,M5,oD,g65536]
  by_cases d5:t.code.length>65536
  ·rw[decide_eq_true d5,cdT]
   exact hend true (by unfold a2o;rw[decide_eq_true d5];simp)
  rw[decide_eq_false d5,cdF]
  simp only[p0,lnS,oD,g65536]
  exact hend _ (by unfold a2o;rw[decide_eq_false d1,decide_eq_false d2,decide_eq_false d3,decide_eq_false d4,decide_eq_false d5];rfl)
 ·have hi:i=m.funcs.length:=by omega
  subst hi
  rw[List.drop_length,O1]at hfi
  exact fin hT (by rw[e0,hfi])
end
end
end Go.Proofs.Ytchnpgddpaonhaa.d
end
