/-
  ImageBackSaid: part Kav of its proof.
-/
import Derived.Test.YtchnpgddpaonhaaKau
import Derived.Test.YtchnpgddpaonhaaKat
import Derived.Test.YtchnpgddpaonhaaRows
import Derived.Test.YtchnpgddpaonhaaKaq
import Derived.KernelRfl
set_option linter.unusedVariables false
set_option linter.unusedSimpArgs false
set_option maxRecDepth 100000
section
open Go.Proofs Go Go.Am Go.Op
namespace Go.Proofs.Ytchnpgddpaonhaa.d
section
def iC(l:List Int):List (List D):=B0 (l.map (D.int .i64))
def iD(l:List Int):D:= .lst (iC l) 1
@[simp] theorem d5d(l:List Int):(iC l).length=l.length:=by simp[iC]
theorem d5X{l:List Int}{i:Nat}{n:Int}(h:l[i]? =some n):(iC l)[i]? =some [.int .i64 n]:=b5K (by rw[List.getElem?_map,h];rfl)
theorem d0e{l:List Int}{i:Nat}{n:Int}(h:l[i]? =some n):A0 1 (iD l) (.int .i64 (i:Int))=some (.elt [.int .i64 n] 0):=b5P (d5X h)
@[simp] theorem b1R(l:List Int):p7 (iD l)=some (.int .i64 l.length):=by simp[iD]
@[simp] theorem c9q(S:b7)(l:List Int):rowsS S 1 (iD l)=some (iC l):=by simp[iD,rowsS,L7]
theorem c4e(a b:List Int):iC (a++b)=iC a++iC b:=by simp[iC,B0]
section
variable{E:m7}{w0:o0}
theorem b0F{a b:List Int}(hl:a.length<2^60)(hb:b.length<2^60):X6 Try.prog E w0 a2V [iD a,iD b] (.bool (decide (a=b))):=fun S=>by
 refine b7a ?_
 unfold b1X
 simp only[b1R,oD,b0B]
 have e:((a.length:Int) != b.length)=decide (a.length≠b.length):=by
  by_cases h:a.length=b.length<;>simp[h,bne]
  intro h';exact h (by omega)
 rw[e,J6]
 refine⟨fun h=> ?_,fun h=> ?_⟩
 ·rw[decide_eq_false (fun e=>h (by rw[e]))]
  exact d9.pure
 have h:a.length=b.length:=by omega
 refine b3T (I:=fun n x0 x1 x5 S'=>S'=S∧x0=iD a∧x1=iD b∧∃i:Nat,x5= .int .i64 (i:Int)∧i+n=a.length∧a.take i=b.take i) ?_ (n:=a.length) ⟨rfl,rfl,rfl,0,rfl,by omega,rfl⟩
 rintro n _ _ _ _ ⟨rfl,rfl,rfl,i,rfl,hi,ht⟩
 unfold a4f
 simp only[b1R,oD,J0]
 rw[J6]
 refine⟨fun hlt=> ?_,fun hge=> ?_⟩
 ·have hlt:i<a.length:=by omega
  have ea:a[i]? =some a[i]:=List.getElem?_eq_getElem hlt
  have eb:b[i]? =some b[i]:=List.getElem?_eq_getElem (by omega)
  simp only[d0e ea,d0e eb,oD,lsE,List.getElem?_cons_zero,b0B]
  have e:(a[i] != b[i])=decide (a[i]≠b[i]):=by by_cases h:a[i]=b[i]<;>simp[h,bne]
  rw[e,J6]
  refine⟨fun hne=> ?_,fun he=> ?_⟩
  ·rw[decide_eq_false (fun e=>hne (by simp only[e]))]
   exact d9.pure
  ·rw[C4,oD,m8 (by omega) (by omega)]
   refine⟨n - 1,by omega,by trivial,by trivial,by trivial,i+1,rfl,by omega, ?_⟩
   rw[List.take_add_one,List.take_add_one,ht,ea,eb,Classical.not_not.1 he]
 ·rw[List.take_of_length_le (by omega),List.take_of_length_le (by omega)]at ht
  rw[decide_eq_true ht]
  exact d9.pure
end
end
section
def a8P(bs:List Int):List UInt8:=bs.map fun b=>UInt8.ofNat b.toNat
theorem d2q(l:List Int):(B0 (l.map (D.int .u8))).mapM c0V=some (a8P l):=by
 induction l with
 |nil=>rfl
 |cons b l ih=>
  have:(B0 ((b::l).map (D.int .u8)))=[D.int .u8 b]::B0 (l.map (D.int .u8)):=rfl
  rw[this,List.mapM_cons,ih]
  rfl
theorem c9n(S:b7)(l:List Int):b0x S (bD l)=some (.str (a8P l)):=by
 have:L7 S 1 (bD l)=some (B0 (l.map (D.int .u8))):=by simp[bD,L7]
 simp only[b0x,this,d2q,Option.map_some]
@[simp] theorem d5g(S:b7)(arms:List (Int×Int)):rowsS S 2 (b8q arms)=some (arms.map a2I):=by simp[b8q,rowsS,L7]
def d4H(r k:Option Bool):Option Bool:=match r with
 |some true=>k
 |r=>r
theorem d2h(a b:Bool):d4H (some a) (some b)=some (a&&b):=by cases a<;>rfl
theorem c6y(a b:Int):(a != b)=decide (a≠b):=by by_cases h:a=b<;>simp[h,bne]
section
variable{E:m7}{w0:o0}
end
end
section
abbrev Tx:=List UInt8
structure Ty where
 kind:Int
 name:Tx
 fields:List (Tx×Int)
 elem:Int
 len:Int
 deriving DecidableEq
structure Ro where
 name:Tx
 params:List Int
 results:List Int
 locals:Int
 stack:Int
 code:List Int
 deriving DecidableEq
structure Mo where
 types:List Ty
 texts:List Tx
 funcs:List Ro
 deriving DecidableEq
structure Ty.Ok (t:Ty):Prop where
 kind:0≤t.kind∧t.kind≤255
 name:t.name.length<2^47
 fields:t.fields.length<2^47
 names:∀f∈t.fields,f.1.length<2^47∧I64 f.2
 elem:I64 t.elem
 len:I64 t.len
structure Ro.Ok (r:Ro):Prop where
 name:r.name.length<2^47
 params:r.params.length<2^47
 results:r.results.length<2^47
 ints:∀n∈r.params++r.results,I64 n
 locals:I64 r.locals
 stack:I64 r.stack
 code:r.code.length<2^47
 bytes:∀b∈r.code,K4 b
structure Mo.Ok (m:Mo):Prop where
 types:m.types.length<2^47
 texts:m.texts.length<2^47
 funcs:m.funcs.length<2^47
 ty:∀t∈m.types,t.Ok
 tx:∀t∈m.texts,t.length<2^47
 ro:∀r∈m.funcs,r.Ok
def U4(f:Tx×Int):List D:=[.str f.1, .int .i64 f.2]
def a0U(fs:List (Tx×Int)):D:= .lst (fs.map U4) 2
def M1(t:Ty):List D:=[.int .u8 t.kind, .str t.name,a0U t.fields, .int .i64 t.elem, .int .i64 t.len]
def b3J(l:List Ty):D:= .lst (l.map M1) 5
def b0Y(l:List Tx):D:= .lst (B0 (l.map D.str)) 1
def roR(r:Ro):List D:=[.str r.name,iD r.params,iD r.results, .int .i64 r.locals, .int .i64 r.stack,bD r.code]
def b3S(l:List Ro):D:= .lst (l.map roR) 6
def moC(m:Mo):List D:=[b3J m.types,b0Y m.texts,b3S m.funcs]
def moD(m:Mo):D:= .agg (moC m)
theorem a6S{l:List (Tx×Int)}{i:Nat}{y:Tx×Int}(h:l[i]? =some y):A0 2 (a0U l) (.int .i64 (i:Int))=some (.elt (U4 y) 0):=b5P (by rw[List.getElem?_map,h];rfl)
theorem b0n{l:List Ty}{i:Nat}{y:Ty}(h:l[i]? =some y):A0 5 (b3J l) (.int .i64 (i:Int))=some (.elt (M1 y) 0):=b5P (by rw[List.getElem?_map,h];rfl)
theorem b6J{l:List Tx}{i:Nat}{y:Tx}(h:l[i]? =some y):A0 1 (b0Y l) (.int .i64 (i:Int))=some (.elt [.str y] 0):=b5P (b5K (by rw[List.getElem?_map,h];rfl))
theorem b3w{l:List Ro}{i:Nat}{y:Ro}(h:l[i]? =some y):A0 6 (b3S l) (.int .i64 (i:Int))=some (.elt (roR y) 0):=b5P (by rw[List.getElem?_map,h];rfl)
@[simp] theorem Y5(l:List (Tx×Int)):p7 (a0U l)=some (.int .i64 l.length):=by simp[a0U]
@[simp] theorem a3l(l:List Ty):p7 (b3J l)=some (.int .i64 l.length):=by simp[b3J]
@[simp] theorem a4H(l:List Tx):p7 (b0Y l)=some (.int .i64 l.length):=by simp[b0Y]
@[simp] theorem a4Q(l:List Ro):p7 (b3S l)=some (.int .i64 l.length):=by simp[b3S]
@[simp] theorem c9C(S:b7)(p:Tx×Int):j0 S 2 (.elt (U4 p) 0)=some (.agg (U4 p)):=(rfl)
@[simp] theorem d3j(S:b7)(p:Ty):j0 S 5 (.elt (M1 p) 0)=some (.agg (M1 p)):=(rfl)
@[simp] theorem d3N(S:b7)(p:Ro):j0 S 6 (.elt (roR p) 0)=some (.agg (roR p)):=(rfl)
theorem d0A(a b:Tx):(a==b)=decide (a=b):=by by_cases h:a=b<;>simp[h]
theorem c9Q(k:IntKind)(a b:Int):d8 .neq (.int k a) (.int k b)=some (.bool (decide (a≠b))):=by rw[b0B,c6y]
theorem a5k(k:IntKind)(a b:Int):d8 .eql (.int k a) (.int k b)=some (.bool (decide (a=b))):=by rw[a0E,b1V]
theorem d4s(p q:Tx×Int):d2D Try.prog b2I (.agg (U4 p)) (.agg (U4 q))=some (decide (p=q)):=by
 have h:d2D Try.prog b2I (.agg (U4 p)) (.agg (U4 q))=d4H (some (p.1==q.1)) (d4H (some (p.2==q.2)) (some true)):=by kernel_rfl
 rw[h,d2h,d2h,Bool.and_true]
 congr 1
 rw[b1V,d0A, ←Bool.decide_and]
 congr 1
 rw[Prod.ext_iff]
theorem c6J:∀ {a b:List Int},(∀x∈a,K4 x)→(∀x∈b,K4 x)→a8P a=a8P b→a=b
 | [],[],_,_,_=>rfl
 | [],_::_,_,_,h=>by simp[a8P]at h
 |_::_,[],_,_,h=>by simp[a8P]at h
 |x::a,y::b,ha,hb,h=>by
  simp only[a8P,List.map_cons,List.cons.injEq]at h
  obtain⟨h1,h2⟩:=h
  have hx:=ha x List.mem_cons_self
  have hy:=hb y List.mem_cons_self
  have e:=congrArg UInt8.toNat h1
  obtain⟨x0,x1⟩:=hx
  obtain⟨y0,y1⟩:=hy
  simp only[UInt8.toNat_ofNat']at e
  have hxy:x=y:=by omega
  rw[hxy,c6J (fun z hz=>ha z (List.mem_cons_of_mem _ hz)) (fun z hz=>hb z (List.mem_cons_of_mem _ hz)) h2]
section
variable{E:m7}{w0:o0}
theorem t1:(true==false)=false:=rfl
theorem t2:(false==false)=true:=rfl
theorem t3:(false==true)=false:=rfl
theorem t4:(true==true)=true:=rfl
theorem b6P{a b:List (Tx×Int)}(hl:a.length<2^60)(hb:b.length<2^60):X6 Try.prog E w0 a3V [a0U a,a0U b] (.bool (decide (a=b))):=fun S=>by
 refine b3x ?_
 unfold a8m
 simp only[Y5,oD,b0B]
 rw[c6y,J6]
 refine⟨fun h=> ?_,fun h=> ?_⟩
 ·rw[decide_eq_false (fun e=>h (by rw[e]))]
  exact d9.pure
 have h:a.length=b.length:=by omega
 refine b1a (I:=fun n x0 x1 x5 S'=>S'=S∧x0=a0U a∧x1=a0U b∧∃i:Nat,x5= .int .i64 (i:Int)∧i+n=a.length∧a.take i=b.take i) ?_ (n:=a.length) ⟨rfl,rfl,rfl,0,rfl,by omega,rfl⟩
 rintro n _ _ _ _ ⟨rfl,rfl,rfl,i,rfl,hi,ht⟩
 unfold a2q
 simp only[Y5,oD,J0]
 rw[J6]
 refine⟨fun hlt=> ?_,fun hge=> ?_⟩
 ·have hlt:i<a.length:=by omega
  have ea:a[i]? =some a[i]:=List.getElem?_eq_getElem hlt
  have eb:b[i]? =some b[i]:=List.getElem?_eq_getElem (by omega)
  simp only[a6S ea,a6S eb,oD,c9C,d4s,eqN]
  rw[←decide_not,J6]
  refine⟨fun hne=> ?_,fun he=> ?_⟩
  ·rw[decide_eq_false (fun e=>hne (by simp only[e]))]
   exact d9.pure
  ·rw[C4,oD,m8 (by omega) (by omega)]
   refine⟨n - 1,by omega,by trivial,by trivial,by trivial,i+1,rfl,by omega, ?_⟩
   rw[List.take_add_one,List.take_add_one,ht,ea,eb,Classical.not_not.1 he]
 ·rw[List.take_of_length_le (by omega),List.take_of_length_le (by omega)]at ht
  rw[decide_eq_true ht]
  exact d9.pure
theorem b9S{y z:Ty}(hy:y.Ok)(hz:z.Ok):X6 Try.prog E w0 a6o [.agg (M1 y), .agg (M1 z)] (.bool (decide (y=z))):=fun S=>by
 refine b6k ?_
 unfold b1Z
 rw[clA,oD]
 intro k a n
 rw[clA,oD]
 intro k2 a2 n2
 obtain⟨ne2,n2'⟩:=b7.fresh n2
 generalize hS3:(S.set k _).set k2 _=S3
 have h2:S3 k2=some ⟨5,[M1 z],a2⟩:=by rw[←hS3];exact b7.set_same _ _ _
 have h0:S3 k=some ⟨5,[M1 y],a⟩:=by rw[←hS3,b7.set_ne _ _ _ (Ne.symm ne2)];exact b7.set_same _ _ _
 have hle:S.le S3:=by rw[←hS3];exact b7.le_set (b7.le_new n) n2'
 have hx:∀y:Ty,(M1 y)[0]? =some (.int .u8 y.kind)∧(M1 y)[1]? =some (.str y.name)∧(M1 y)[2]? =some (a0U y.fields)∧(M1 y)[3]? =some (.int .i64 y.elem)∧(M1 y)[4]? =some (.int .i64 y.len):=fun _=>⟨rfl,rfl,rfl,rfl,rfl⟩
 have fin:∀b:Bool,decide (y=z)=b→d9 E (fun d' S'=>d'=D.bool (decide (y=z))∧S'=S) (.bool b) S3:=fun b h=>by rw[h];exact d9.less hle d9.pure
 simp only[H5,oD,ldP h2,ldP h0,Nat.zero_add,(hx y).1,(hx z).1,a0E]
 rw[b1V]
 by_cases c1:y.kind=z.kind
 ·rw[decide_eq_true c1]
  simp only[R7,t4,vdT,oD,ldP h2,ldP h0,(hx y).2.1,(hx z).2.1,d3l,U3,if_true]
  rw[d0A]
  by_cases c2:y.name=z.name
  ·rw[decide_eq_true c2]
   simp only[R7,t4,vdT,oD,ldP h2,ldP h0,(hx y).2.2.2.1,(hx z).2.2.2.1,a0E,U3,if_true]
   rw[b1V]
   by_cases c3:y.elem=z.elem
   ·rw[decide_eq_true c3]
    simp only[R7,t4,vdT,oD,ldP h2,ldP h0,(hx y).2.2.2.2,(hx z).2.2.2.2,a0E,U3,if_true]
    rw[b1V]
    by_cases c4:y.len=z.len
    ·rw[decide_eq_true c4]
     simp only[R7,t4,vdT,oD,ldP h2,ldP h0,(hx y).2.2.1,(hx z).2.2.1,gdT]
     have:=hy.fields;have:=hz.fields
     refine(b6P (by omega) (by omega)).use ?_
     rw[if_pos trivial]
     refine fin _ ?_
     congr 1
     refine propext ⟨fun e=>by rw[e],fun e=> ?_⟩
     obtain⟨y1,y2,y3,y4,y5⟩:=y
     obtain⟨z1,z2,z3,z4,z5⟩:=z
     simp only at c1 c2 c3 c4 e
     simp only[c1,c2,c3,c4,e]
    ·rw[decide_eq_false c4]
     simp only[R7,t3,vdF,gdF,oD,U3,Bool.false_eq_true,if_false]
     exact fin false (decide_eq_false fun e=>c4 (by rw[e]))
   ·rw[decide_eq_false c3]
    simp only[R7,t3,vdF,gdF,oD,U3,Bool.false_eq_true,if_false]
    exact fin false (decide_eq_false fun e=>c3 (by rw[e]))
  ·rw[decide_eq_false c2]
   simp only[R7,t3,vdF,gdF,oD,U3,Bool.false_eq_true,if_false]
   exact fin false (decide_eq_false fun e=>c2 (by rw[e]))
 ·rw[decide_eq_false c1]
  simp only[R7,t3,vdF,gdF,oD,U3,Bool.false_eq_true,if_false]
  exact fin false (decide_eq_false fun e=>c1 (by rw[e]))
theorem b4M{y z:Ro}(hy:y.Ok)(hz:z.Ok):X6 Try.prog E w0 a2Y [.agg (roR y), .agg (roR z)] (.bool (decide (y=z))):=fun S=>by
 refine b1G ?_
 unfold a7y
 rw[clA,oD]
 intro k a n
 rw[clA,oD]
 intro k2 a2 n2
 obtain⟨ne2,n2'⟩:=b7.fresh n2
 generalize hS3:(S.set k _).set k2 _=S3
 have h2:S3 k2=some ⟨6,[roR z],a2⟩:=by rw[←hS3];exact b7.set_same _ _ _
 have h0:S3 k=some ⟨6,[roR y],a⟩:=by rw[←hS3,b7.set_ne _ _ _ (Ne.symm ne2)];exact b7.set_same _ _ _
 have hle:S.le S3:=by rw[←hS3];exact b7.le_set (b7.le_new n) n2'
 have hx:∀y:Ro,(roR y)[0]? =some (.str y.name)∧(roR y)[1]? =some (iD y.params)∧(roR y)[2]? =some (iD y.results)∧(roR y)[3]? =some (.int .i64 y.locals)∧(roR y)[4]? =some (.int .i64 y.stack)∧(roR y)[5]? =some (bD y.code):=fun _=>⟨rfl,rfl,rfl,rfl,rfl,rfl⟩
 have fin:∀b:Bool,decide (y=z)=b→d9 E (fun d' S'=>d'=D.bool (decide (y=z))∧S'=S) (.bool b) S3:=fun b h=>by rw[h];exact d9.less hle d9.pure
 have hp1:=hy.params;have hp2:=hz.params;have hr1:=hy.results;have hr2:=hz.results
 simp only[H5,oD,ldP h2,ldP h0,Nat.zero_add,(hx y).1,(hx z).1,d3l]
 rw[d0A]
 by_cases c1:y.name=z.name
 ·rw[decide_eq_true c1]
  simp only[R7,t4,vdT,oD,ldP h2,ldP h0,(hx y).2.2.2.1,(hx z).2.2.2.1,a0E,U3,if_true]
  rw[b1V]
  by_cases c2:y.locals=z.locals
  ·rw[decide_eq_true c2]
   simp only[R7,t4,vdT,oD,ldP h2,ldP h0,(hx y).2.2.2.2.1,(hx z).2.2.2.2.1,a0E,U3,if_true]
   rw[b1V]
   by_cases c3:y.stack=z.stack
   ·rw[decide_eq_true c3]
    simp only[R7,t4,vdT,oD,ldP h2,ldP h0,(hx y).2.1,(hx z).2.1,gdT,U3,if_true]
    refine(b0F (by omega) (by omega)).use ?_
    by_cases c4:y.params=z.params
    ·rw[decide_eq_true c4]
     simp only[R7,t4,vdT,oD,ldP h2,ldP h0,(hx y).2.2.1,(hx z).2.2.1,gdT,U3,if_true]
     refine(b0F (by omega) (by omega)).use ?_
     by_cases c5:y.results=z.results
     ·rw[decide_eq_true c5]
      simp only[R7,t4,vdT,oD,ldP h2,ldP h0,(hx y).2.2.2.2.2,(hx z).2.2.2.2.2,c9n,d3l,U3,if_true]
      rw[d0A]
      refine fin _ ?_
      congr 1
      refine propext ⟨fun e=>by rw[e],fun e=> ?_⟩
      have e:=c6J hy.bytes hz.bytes e
      obtain⟨y1,y2,y3,y4,y5,y6⟩:=y
      obtain⟨z1,z2,z3,z4,z5,z6⟩:=z
      simp only at c1 c2 c3 c4 c5 e
      simp only[c1,c2,c3,c4,c5,e]
     ·rw[decide_eq_false c5]
      simp only[R7,t3,vdF,gdF,oD,U3,Bool.false_eq_true,if_false]
      exact fin false (decide_eq_false fun e=>c5 (by rw[e]))
    ·rw[decide_eq_false c4]
     simp only[R7,t3,vdF,gdF,oD,U3,Bool.false_eq_true,if_false]
     exact fin false (decide_eq_false fun e=>c4 (by rw[e]))
   ·rw[decide_eq_false c3]
    simp only[R7,t3,vdF,gdF,oD,U3,Bool.false_eq_true,if_false]
    exact fin false (decide_eq_false fun e=>c3 (by rw[e]))
  ·rw[decide_eq_false c2]
   simp only[R7,t3,vdF,gdF,oD,U3,Bool.false_eq_true,if_false]
   exact fin false (decide_eq_false fun e=>c2 (by rw[e]))
 ·rw[decide_eq_false c1]
  simp only[R7,t3,vdF,gdF,oD,U3,Bool.false_eq_true,if_false]
  exact fin false (decide_eq_false fun e=>c1 (by rw[e]))
end
end
end Go.Proofs.Ytchnpgddpaonhaa.d
end
section
open Go.Proofs Go Go.Am
namespace Go.Proofs.Ytchnpgddpaonhaa.d
def a5X:List (Nat×List Nat):=[]
def a6c:List (Nat×List Nat):=[(20,[0,3,6,8])]
def a6t:List (Nat×X5):=[]
noncomputable def b2k:Code:=(l9 [1,1,1,1,1,1] (Try.f95.body.getD .skip))
def b0V(E:m7)(w0:o0)(Q:D→b7→Prop):r6→List D→b7→Prop:=
 (G8 Try.prog Try.f95 Q)
def a4G(E:m7)(w0:o0)(Q:D→b7→Prop)(x0 x3 x6 x8:D)(S:b7):Prop:=
 a9 (m6 1 x3) fun v25=>
 a9 (b9 S v25) fun v26=>
 a2f Try.prog (o5 Try.prog E w0) S v26 [x8] fun v27 S28=>
 a9 (unD .not v27) fun v29=>
 j8 v29
 (a9 (W6 x0) fun v30=>
 a9 (m6 2 v30) fun v31=>
 i9 S28 1 v31 (.int .i64 120) fun v32 S33=>
 Q (.int .i64 0) S33)
 (a9 (W6 x0) fun v34=>
 a9 (m6 1 v34) fun v35=>
 i9 S28 1 v35 x6 fun v36 S37=>
 Q x8 S37)
def M0(E:m7)(w0:o0)(Q:D→b7→Prop)(x0 x3 x6 x8:D)(S:b7):Prop:=j9 Try.prog E w0 b2k (n9 65 [0,3,6,8] [x0,x3,x6,x8]) S (b0V E w0 Q)
theorem a8D{E:m7}{w0:o0}{Q:D→b7→Prop}{x0 x3 x6 x8:D}{S:b7}(h:a4G E w0 Q x0 x3 x6 x8 S):M0 E w0 Q x0 x3 x6 x8 S:=l8 a5X a6c a6t o7 (by kernel_rfl) h
def a7q(E:m7)(w0:o0)(Q:D→b7→Prop)(a0 a1:D)(S:b7):Prop:=
 a9 (r4 a1) fun cs=>o6 S cs fun v0 S1=>
 a9 (W6 a0) fun v2=>
 a9 (m6 2 v2) fun v3=>
 a9 (b9 S1 v3) fun v4=>
 a9 (d8 .neq v4 (.int .i64 0)) fun v5=>
 j8 v5
 (Q (.int .i64 0) S1)
 (a9 (W6 a0) fun v6=>
 a9 (m6 0 v6) fun v7=>
 a9 (b9 S1 v7) fun v8=>
 a9 (W6 a0) fun v9=>
 a9 (m6 1 v9) fun v10=>
 a9 (b9 S1 v10) fun v11=>
 a9 (m6 0 v0) fun v12=>
 a9 (b9 S1 v12) fun v13=>
 o5 Try.prog E w0 a4N [v8,v11,v13] S1 fun v14 S15=>
 a9 (o9 v14 0) fun v16=>
 a9 (o9 v14 1) fun v17=>
 a9 (o9 v14 2) fun v18=>
 a9 (d8 .neq v18 (.int .i64 0)) fun v19=>
 j8 v19
 (a9 (W6 a0) fun v20=>
 a9 (m6 2 v20) fun v21=>
 i9 S15 1 v21 (.int .i64 10) fun v22 S23=>
 Q (.int .i64 0) S23)
 (a9 (I8 .i64 v16) fun v24=>
 a9 (m6 1 v0) fun v38=>
 a9 (b9 S15 v38) fun v39=>
 a2f Try.prog (o5 Try.prog E w0) S15 v39 [v24] fun v40 S41=>
 a9 (unD .not v40) fun v42=>
 a9 (f0 (d6 v42 true) (m6 0 v0)) fun v43=>
 a9 (f0 (d6 v42 true) (b9 S41 v43)) fun v44=>
 a9 (f0 (d6 v42 true) (d8 .lss v44 (.int .i64 8))) fun v45=>
 a9 (t8 v42 v45 (.bool false)) fun v46=>
 j8 v46
 (a9 (m6 0 v0) fun v47=>
 a9 (b9 S41 v47) fun v48=>
 a9 (d8 .mul (.int .i64 8) v48) fun v49=>
 a9 (d8 .shl (.int .i64 1) v49) fun v50=>
 a9 (d8 .sub v24 v50) fun v51=>
 M0 E w0 Q a0 v0 v17 v51 S41)
 (M0 E w0 Q a0 v0 v17 v24 S41)))
theorem b3a{E:m7}{w0:o0}{Q:D→b7→Prop}{a0 a1:D}{S:b7}(h:a7q E w0 (d9 E Q) a0 a1 S):o5 Try.prog E w0 C3 [a0,a1] S Q:=
 m9 a5X a6c a6t (fn:=Try.f95) (c:=Try.f95.body.getD .skip) o7 Try.func95 (by kernel_rfl) (by kernel_rfl) h
def U6:List (Nat×List Nat):=[(18,[4,7,10,45,46,47]),(36,[4,7,10,13,14,15])]
def X2:List (Nat×List Nat):=[(34,[4,7,10,13,14]),(46,[4,7,10])]
def U7:List (Nat×X5):=[(16,(.node 0 7 (.node 0 8 (.node 5 7 (.node 5 8 (.node 7 8 (.leaf [2,3,4,0,1,5,6,7,8,9,10]) (.leaf [2,3,4,0,1,5,6,8,7,9,10])) (.leaf [2,3,4,0,1,8,5,6,7,9,10])) (.node 5 8 (.leaf [2,3,4,0,1,7,5,6,8,9,10]) (.node 7 8 (.leaf [2,3,4,0,1,7,8,5,6,9,10]) (.leaf [2,3,4,0,1,8,7,5,6,9,10])))) (.node 5 7 (.leaf [2,3,4,8,0,1,5,6,7,9,10]) (.leaf [2,3,4,8,0,1,7,5,6,9,10]))) (.node 0 8 (.node 5 8 (.leaf [2,3,4,7,0,1,5,6,8,9,10]) (.leaf [2,3,4,7,0,1,8,5,6,9,10])) (.node 7 8 (.leaf [2,3,4,7,8,0,1,5,6,9,10]) (.leaf [2,3,4,8,7,0,1,5,6,9,10])))))]
noncomputable def a5e:Code:=(l9 [1,1,1,1,1,1,1,1] (Try.f83.body.getD .skip))
def b7x(E:m7)(w0:o0)(Q:D→b7→Prop):r6→List D→b7→Prop:=
 (G8 Try.prog Try.f83 Q)
def b0S(E:m7)(w0:o0)(Q:D→b7→Prop)(x4 x7 x10:D)(S:b7):Prop:=
 a9 (W6 x10) fun v57=>
 a9 (m6 2 v57) fun v58=>
 a9 (b9 S v58) fun v59=>
 a9 (d8 .neq v59 (.int .i64 0)) fun v60=>
 j8 v60
 (a9 (E6 (w6 [(.int .u8 0),(.int .i64 0),(.int .i64 0), .nilSlc] [])) fun v61=>
 a9 (W6 x10) fun v62=>
 a9 (m6 2 v62) fun v63=>
 a9 (b9 S v63) fun v64=>
 i9 S 4 x4 v61 fun v65 S66=>
 t6 v63 S S66∧a9 (j0 S66 4 x4) fun v67=>Q (.tup [v67,(.int .i64 0),v64]) S66)
 (a9 (j0 S 4 x7) fun v68=>
 a9 (W6 x10) fun v69=>
 a9 (m6 1 v69) fun v70=>
 a9 (b9 S v70) fun v71=>
 i9 S 4 x4 v68 fun v72 S73=>
 t6 v70 S S73∧a9 (j0 S73 4 x4) fun v74=>Q (.tup [v74,v71,(.int .i64 0)]) S73)
def a0y(E:m7)(w0:o0)(Q:D→b7→Prop)(x4 x7 x10:D)(S:b7):Prop:=j9 Try.prog E w0 a5e (n9 120 [4,7,10] [x4,x7,x10]) S (b7x E w0 Q)
theorem b4T{E:m7}{w0:o0}{Q:D→b7→Prop}{x4 x7 x10:D}{S:b7}(h:b0S E w0 Q x4 x7 x10 S):a0y E w0 Q x4 x7 x10 S:=l8 U6 X2 U7 o7 (by kernel_rfl) h
noncomputable def a6J:Code:=(l9 [1,1,1,1,1,1,1,0,1,0,1,0,1,0,0] (Try.f83.body.getD .skip))
def a6w(E:m7)(w0:o0)(Q:D→b7→Prop):r6→List D→b7→Prop:=
 (s8 2 (G7 Try.prog E w0 U6 X2 U7 (l9 [1,1,1,1,1,1,1,0,1,0,1,1] (Try.f83.body.getD .skip)) (d5B Try.prog E w0 120 [4,7,10] a5e (G8 Try.prog Try.f83 Q))))
def a5Y(E:m7)(w0:o0)(N1:D→D→D→D→D→D→b7→Prop)(Q:D→b7→Prop)(x4 x7 x10 x13 x14 x15:D)(S:b7):Prop:=
 a9 (d8 .gtr x15 (.int .i64 0)) fun v83=>
 a9 (f0 (d6 v83 true) (some x10)) fun v84=>
 a9 (f0 (d6 v83 true) (W6 v84)) fun v85=>
 a9 (f0 (d6 v83 true) (m6 2 v85)) fun v86=>
 a9 (f0 (d6 v83 true) (b9 S v86)) fun v87=>
 a9 (f0 (d6 v83 true) (d8 .eql v87 (.int .i64 0))) fun v88=>
 a9 (t8 v83 v88 (.bool false)) fun v89=>
 j8 v89
 (a9 (j0 S 2 x14) fun v90=>
 o5 Try.prog E w0 C3 [x10,v90] S fun v91 S92=>
 a9 (m6 3 x7) fun v93=>
 a9 (b9 S92 v93) fun v94=>
 a9 (j0 S92 2 x13) fun v95=>
 o5 Try.prog E w0 C3 [x10,v95] S92 fun v96 S97=>
 t6 v93 S92 S97∧a9 (E6 (w6 [(.int .i64 0),(.int .i64 0)] [(0,1,v91),(1,1,v96)])) fun v98=>
 u6 S97 2 (q9 2 (List.replicate 1 [(.int .i64 0),(.int .i64 0)]) [(0,v98)]) 1 fun v99 S100=>
 t6 v93 S92 S100∧A1 S100 2 16 v94 v99 fun v101 S102=>
 a9 (m6 3 x7) fun v103=>
 i9 S102 1 v103 v101 fun v104 S105=>
 a9 (d8 .sub x15 (.int .i64 1)) fun v106=>
 N1 x4 x7 x10 x13 x14 v106 S105)
 (a9 (j0 S 2 x13) fun v107=>
 o5 Try.prog E w0 C3 [x10,v107] S fun v108 S109=>
 a9 (m6 2 x7) fun v110=>
 i9 S109 1 v110 v108 fun v111 S112=>
 a0y E w0 Q x4 x7 x10 S112)
theorem b6p{E:m7}{w0:o0}{N1:D→D→D→D→D→D→b7→Prop}{Q:D→b7→Prop}{x4 x7 x10 x13 x14 x15:D}{S:b7}(h:a5Y E w0 N1 Q x4 x7 x10 x13 x14 x15 S):
  j9 Try.prog E w0 a6J (n9 120 [4,7,10,13,14,15] [x4,x7,x10,x13,x14,x15]) S (A8 (fun T S=>N1 (T.getD 4 b8) (T.getD 7 b8) (T.getD 10 b8) (T.getD 13 b8) (T.getD 14 b8) (T.getD 15 b8) S) (a6w E w0 Q)):=l8 U6 X2 U7 o7 (by kernel_rfl) h
theorem b7c{E:m7}{w0:o0}{Q:D→b7→Prop}(I:Nat→D→D→D→D→D→D→b7→Prop)
  (step:∀n x4 x7 x10 x13 x14 x15 S,I n x4 x7 x10 x13 x14 x15 S→a5Y E w0 (fun x4 x7 x10 x13 x14 x15 S=>∃m,m<n∧I m x4 x7 x10 x13 x14 x15 S) Q x4 x7 x10 x13 x14 x15 S)
  {n:Nat} {x4 x7 x10 x13 x14 x15:D} {S:b7} (h:I n x4 x7 x10 x13 x14 x15 S):j9 Try.prog E w0 (.loop a6J) (n9 120 [4,7,10,13,14,15] [x4,x7,x10,x13,x14,x15]) S (a6w E w0 Q):=
 r0 (k:=120) (n:=n) (I:=fun n T S=>I n (T.getD 4 b8) (T.getD 7 b8) (T.getD 10 b8) (T.getD 13 b8) (T.getD 14 b8) (T.getD 15 b8) S) (fun n T S hl hI=>r9 [4,7,10,13,14,15] hl (j9.mono (b6p (step n _ _ _ _ _ _ S hI)) fun ex T' S' _ hq=>by cases ex<;>exact hq)) (o3 ..) (Eq.mp (by kernel_rfl) h)
noncomputable def b9P:Code:=(l9 [1,1,1,1,1,1,1,0,1,0,1] (Try.f83.body.getD .skip))
def b8l(E:m7)(w0:o0)(Q:D→b7→Prop):r6→List D→b7→Prop:=
 (d5B Try.prog E w0 120 [4,7,10] a5e (G8 Try.prog Try.f83 Q))
def b0R(E:m7)(w0:o0)(Q:D→b7→Prop)(x4 x7 x10 x13 x14:D)(S:b7):Prop:=
 o5 Try.prog E w0 u5 [(.int .i64 0),(.int .i64 65535)] S fun v78 S79=>
 a9 (E6 (w6 [(.int .i64 0), .nilFn] [(0,1,(.int .i64 2)),(1,1,v78)])) fun v80=>
 o5 Try.prog E w0 C3 [x10,v80] S79 fun v81 S82=>
 j9 Try.prog E w0 (.loop a6J) (n9 120 [4,7,10,13,14,15] [x4,x7,x10,x13,x14,v81]) S82 (a6w E w0 Q)
def u7(E:m7)(w0:o0)(Q:D→b7→Prop)(x4 x7 x10 x13 x14:D)(S:b7):Prop:=j9 Try.prog E w0 b9P (n9 120 [4,7,10,13,14] [x4,x7,x10,x13,x14]) S (b8l E w0 Q)
theorem b4F{E:m7}{w0:o0}{Q:D→b7→Prop}{x4 x7 x10 x13 x14:D}{S:b7}(h:b0R E w0 Q x4 x7 x10 x13 x14 S):u7 E w0 Q x4 x7 x10 x13 x14 S:=l8 U6 X2 U7 o7 (by kernel_rfl) h
noncomputable def a6K:Code:=(l9 [1,1,1,1,1,1,0,1,0,0] (Try.f83.body.getD .skip))
def a5N(E:m7)(w0:o0)(Q:D→b7→Prop):r6→List D→b7→Prop:=
 (s8 0 (G7 Try.prog E w0 U6 X2 U7 (l9 [1,1,1,1,1,1,1] (Try.f83.body.getD .skip)) (G8 Try.prog Try.f83 Q)))
def a6W(E:m7)(w0:o0)(N0:D→D→D→D→D→D→b7→Prop)(Q:D→b7→Prop)(x4 x7 x10 x45 x46 x47:D)(S:b7):Prop:=
 a9 (d8 .lss x47 x46) fun v35=>
 j8 v35
 (a9 (A0 2 x45 x47) fun v36=>
 a9 (j0 S 2 v36) fun v37=>
 o6 S [(.int .i64 0), .nilFn] fun v38 S39=>
 i9 S39 2 v38 v37 fun v40 S41=>
 a9 (d8 .eql x47 (.int .i64 0)) fun v42=>
 j8 v42
 (a9 (j0 S41 2 v38) fun v43=>
 o5 Try.prog E w0 C3 [x10,v43] S41 fun v44 S45=>
 a9 (m6 1 x7) fun v46=>
 i9 S45 1 v46 v44 fun v47 S48=>
 a9 (d8 .add x47 (.int .i64 1)) fun v49=>
 N0 x4 x7 x10 x45 x46 v49 S48)
 (a9 (j0 S41 2 v38) fun v50=>
 o5 Try.prog E w0 C3 [x10,v50] S41 fun v51 S52=>
 a9 (m6 2 x7) fun v53=>
 i9 S52 1 v53 v51 fun v54 S55=>
 a9 (d8 .add x47 (.int .i64 1)) fun v56=>
 N0 x4 x7 x10 x45 x46 v56 S55))
 (a9 (m6 0 x7) fun v75=>
 a9 (b9 S v75) fun v76=>
 a9 (d8 .eql v76 (.int .u8 49)) fun v77=>
 j8 v77
 ((((((a9 (m6 1 x7) fun v113=>
 a9 (b9 S v113) fun v114=>
 a9 (I8 .u8 v114) fun v115=>
 o5 Try.prog E w0 u5 [(.int .i64 0),(.int .i64 4294967295)] S fun v116 S117=>
 t6 v113 S S117∧a9 (E6 (w6 [(.int .i64 0), .nilFn] [(0,1,(.int .i64 4)),(1,1,v116)])) fun v118=>
 o5 Try.prog E w0 E2 [v115] S117 fun v119 S120=>
 a9 (E6 (w6 [(.int .i64 0), .nilFn] [(0,1,(.int .i64 8)),(1,1,v119)])) fun v121=>
 o6 S120 [(.int .i64 0), .nilFn] fun v122 S123=>
 o6 S123 [(.int .i64 0), .nilFn] fun v124 S125=>
 i9 S125 2 v122 v118 fun v126 S127=>
 i9 S127 2 v124 v121 fun v128 S129=>
 u7 E w0 Q x4 x7 x10 v122 v124 S129)∧
 (a9 (m6 1 x7) fun v130=>
 a9 (b9 S v130) fun v131=>
 a9 (I8 .u8 v131) fun v132=>
 o5 Try.prog E w0 u5 [(.int .i64 0),(.int .i64 4294967295)] S fun v133 S134=>
 t6 v130 S S134∧a9 (E6 (w6 [(.int .i64 0), .nilFn] [(0,1,(.int .i64 4)),(1,1,v133)])) fun v135=>
 o5 Try.prog E w0 E2 [v132] S134 fun v136 S137=>
 a9 (E6 (w6 [(.int .i64 0), .nilFn] [(0,1,(.int .i64 8)),(1,1,v136)])) fun v138=>
 o6 S137 [(.int .i64 0), .nilFn] fun v139 S140=>
 o6 S140 [(.int .i64 0), .nilFn] fun v141 S142=>
 i9 S142 2 v141 v135 fun v143 S144=>
 i9 S144 2 v139 v138 fun v145 S146=>
 u7 E w0 Q x4 x7 x10 v141 v139 S146))∧
 (a9 (m6 1 x7) fun v147=>
 a9 (b9 S v147) fun v148=>
 a9 (I8 .u8 v148) fun v149=>
 o5 Try.prog E w0 u5 [(.int .i64 0),(.int .i64 4294967295)] S fun v150 S151=>
 t6 v147 S S151∧a9 (E6 (w6 [(.int .i64 0), .nilFn] [(0,1,(.int .i64 4)),(1,1,v150)])) fun v152=>
 o6 S151 [(.int .i64 0), .nilFn] fun v153 S154=>
 t6 v147 S S154∧o5 Try.prog E w0 E2 [v149] S154 fun v155 S156=>
 a9 (E6 (w6 [(.int .i64 0), .nilFn] [(0,1,(.int .i64 8)),(1,1,v155)])) fun v157=>
 o6 S156 [(.int .i64 0), .nilFn] fun v158 S159=>
 i9 S159 2 v158 v152 fun v160 S161=>
 i9 S161 2 v153 v157 fun v162 S163=>
 u7 E w0 Q x4 x7 x10 v158 v153 S163))∧
 ((a9 (m6 1 x7) fun v164=>
 a9 (b9 S v164) fun v165=>
 a9 (I8 .u8 v165) fun v166=>
 o5 Try.prog E w0 u5 [(.int .i64 0),(.int .i64 4294967295)] S fun v167 S168=>
 t6 v164 S S168∧a9 (E6 (w6 [(.int .i64 0), .nilFn] [(0,1,(.int .i64 4)),(1,1,v167)])) fun v169=>
 o6 S168 [(.int .i64 0), .nilFn] fun v170 S171=>
 t6 v164 S S171∧o5 Try.prog E w0 E2 [v166] S171 fun v172 S173=>
 a9 (E6 (w6 [(.int .i64 0), .nilFn] [(0,1,(.int .i64 8)),(1,1,v172)])) fun v174=>
 o6 S173 [(.int .i64 0), .nilFn] fun v175 S176=>
 i9 S176 2 v170 v169 fun v177 S178=>
 i9 S178 2 v175 v174 fun v179 S180=>
 u7 E w0 Q x4 x7 x10 v170 v175 S180)∧
 ((a9 (m6 1 x7) fun v181=>
 a9 (b9 S v181) fun v182=>
 a9 (I8 .u8 v182) fun v183=>
 o5 Try.prog E w0 u5 [(.int .i64 0),(.int .i64 4294967295)] S fun v184 S185=>
 t6 v181 S S185∧a9 (E6 (w6 [(.int .i64 0), .nilFn] [(0,1,(.int .i64 4)),(1,1,v184)])) fun v186=>
 o6 S185 [(.int .i64 0), .nilFn] fun v187 S188=>
 t6 v181 S S188∧o6 S188 [(.int .i64 0), .nilFn] fun v189 S190=>
 t6 v181 S S190∧o5 Try.prog E w0 E2 [v183] S190 fun v191 S192=>
 a9 (E6 (w6 [(.int .i64 0), .nilFn] [(0,1,(.int .i64 8)),(1,1,v191)])) fun v193=>
 i9 S192 2 v187 v186 fun v194 S195=>
 i9 S195 2 v189 v193 fun v196 S197=>
 u7 E w0 Q x4 x7 x10 v187 v189 S197)∧
 (a9 (m6 1 x7) fun v198=>
 a9 (b9 S v198) fun v199=>
 a9 (I8 .u8 v199) fun v200=>
 o5 Try.prog E w0 u5 [(.int .i64 0),(.int .i64 4294967295)] S fun v201 S202=>
 t6 v198 S S202∧a9 (E6 (w6 [(.int .i64 0), .nilFn] [(0,1,(.int .i64 4)),(1,1,v201)])) fun v203=>
 o6 S202 [(.int .i64 0), .nilFn] fun v204 S205=>
 t6 v198 S S205∧o6 S205 [(.int .i64 0), .nilFn] fun v206 S207=>
 t6 v198 S S207∧o5 Try.prog E w0 E2 [v200] S207 fun v208 S209=>
 a9 (E6 (w6 [(.int .i64 0), .nilFn] [(0,1,(.int .i64 8)),(1,1,v208)])) fun v210=>
 i9 S209 2 v206 v203 fun v211 S212=>
 i9 S212 2 v204 v210 fun v213 S214=>
 u7 E w0 Q x4 x7 x10 v206 v204 S214))))∧
 ((a9 (m6 1 x7) fun v215=>
 a9 (b9 S v215) fun v216=>
 a9 (I8 .u8 v216) fun v217=>
 o6 S [(.int .i64 0), .nilFn] fun v218 S219=>
 t6 v215 S S219∧o5 Try.prog E w0 u5 [(.int .i64 0),(.int .i64 4294967295)] S219 fun v220 S221=>
 t6 v215 S S221∧a9 (E6 (w6 [(.int .i64 0), .nilFn] [(0,1,(.int .i64 4)),(1,1,v220)])) fun v222=>
 o5 Try.prog E w0 E2 [v217] S221 fun v223 S224=>
 a9 (E6 (w6 [(.int .i64 0), .nilFn] [(0,1,(.int .i64 8)),(1,1,v223)])) fun v225=>
 o6 S224 [(.int .i64 0), .nilFn] fun v226 S227=>
 i9 S227 2 v226 v222 fun v228 S229=>
 i9 S229 2 v218 v225 fun v230 S231=>
 u7 E w0 Q x4 x7 x10 v226 v218 S231)∧
 (a9 (m6 1 x7) fun v232=>
 a9 (b9 S v232) fun v233=>
 a9 (I8 .u8 v233) fun v234=>
 o6 S [(.int .i64 0), .nilFn] fun v235 S236=>
 t6 v232 S S236∧o5 Try.prog E w0 u5 [(.int .i64 0),(.int .i64 4294967295)] S236 fun v237 S238=>
 t6 v232 S S238∧a9 (E6 (w6 [(.int .i64 0), .nilFn] [(0,1,(.int .i64 4)),(1,1,v237)])) fun v239=>
 o6 S238 [(.int .i64 0), .nilFn] fun v240 S241=>
 t6 v232 S S241∧o5 Try.prog E w0 E2 [v234] S241 fun v242 S243=>
 a9 (E6 (w6 [(.int .i64 0), .nilFn] [(0,1,(.int .i64 8)),(1,1,v242)])) fun v244=>
 i9 S243 2 v240 v239 fun v245 S246=>
 i9 S246 2 v235 v244 fun v247 S248=>
 u7 E w0 Q x4 x7 x10 v240 v235 S248)))∧
 (((a9 (m6 1 x7) fun v249=>
 a9 (b9 S v249) fun v250=>
 a9 (I8 .u8 v250) fun v251=>
 o6 S [(.int .i64 0), .nilFn] fun v252 S253=>
 t6 v249 S S253∧o5 Try.prog E w0 u5 [(.int .i64 0),(.int .i64 4294967295)] S253 fun v254 S255=>
 t6 v249 S S255∧a9 (E6 (w6 [(.int .i64 0), .nilFn] [(0,1,(.int .i64 4)),(1,1,v254)])) fun v256=>
 o5 Try.prog E w0 E2 [v251] S255 fun v257 S258=>
 a9 (E6 (w6 [(.int .i64 0), .nilFn] [(0,1,(.int .i64 8)),(1,1,v257)])) fun v259=>
 o6 S258 [(.int .i64 0), .nilFn] fun v260 S261=>
 i9 S261 2 v252 v256 fun v262 S263=>
 i9 S263 2 v260 v259 fun v264 S265=>
 u7 E w0 Q x4 x7 x10 v252 v260 S265)∧
 (a9 (m6 1 x7) fun v266=>
 a9 (b9 S v266) fun v267=>
 a9 (I8 .u8 v267) fun v268=>
 o6 S [(.int .i64 0), .nilFn] fun v269 S270=>
 t6 v266 S S270∧o5 Try.prog E w0 u5 [(.int .i64 0),(.int .i64 4294967295)] S270 fun v271 S272=>
 t6 v266 S S272∧a9 (E6 (w6 [(.int .i64 0), .nilFn] [(0,1,(.int .i64 4)),(1,1,v271)])) fun v273=>
 o6 S272 [(.int .i64 0), .nilFn] fun v274 S275=>
 t6 v266 S S275∧o5 Try.prog E w0 E2 [v268] S275 fun v276 S277=>
 a9 (E6 (w6 [(.int .i64 0), .nilFn] [(0,1,(.int .i64 8)),(1,1,v276)])) fun v278=>
 i9 S277 2 v269 v273 fun v279 S280=>
 i9 S280 2 v274 v278 fun v281 S282=>
 u7 E w0 Q x4 x7 x10 v269 v274 S282))∧
 ((a9 (m6 1 x7) fun v283=>
 a9 (b9 S v283) fun v284=>
 a9 (I8 .u8 v284) fun v285=>
 o6 S [(.int .i64 0), .nilFn] fun v286 S287=>
 t6 v283 S S287∧o6 S287 [(.int .i64 0), .nilFn] fun v288 S289=>
 t6 v283 S S289∧o5 Try.prog E w0 u5 [(.int .i64 0),(.int .i64 4294967295)] S289 fun v290 S291=>
 t6 v283 S S291∧a9 (E6 (w6 [(.int .i64 0), .nilFn] [(0,1,(.int .i64 4)),(1,1,v290)])) fun v292=>
 o5 Try.prog E w0 E2 [v285] S291 fun v293 S294=>
 a9 (E6 (w6 [(.int .i64 0), .nilFn] [(0,1,(.int .i64 8)),(1,1,v293)])) fun v295=>
 i9 S294 2 v286 v292 fun v296 S297=>
 i9 S297 2 v288 v295 fun v298 S299=>
 u7 E w0 Q x4 x7 x10 v286 v288 S299)∧
 (a9 (m6 1 x7) fun v300=>
 a9 (b9 S v300) fun v301=>
 a9 (I8 .u8 v301) fun v302=>
 o6 S [(.int .i64 0), .nilFn] fun v303 S304=>
 t6 v300 S S304∧o6 S304 [(.int .i64 0), .nilFn] fun v305 S306=>
 t6 v300 S S306∧o5 Try.prog E w0 u5 [(.int .i64 0),(.int .i64 4294967295)] S306 fun v307 S308=>
 t6 v300 S S308∧a9 (E6 (w6 [(.int .i64 0), .nilFn] [(0,1,(.int .i64 4)),(1,1,v307)])) fun v309=>
 o5 Try.prog E w0 E2 [v302] S308 fun v310 S311=>
 a9 (E6 (w6 [(.int .i64 0), .nilFn] [(0,1,(.int .i64 8)),(1,1,v310)])) fun v312=>
 i9 S311 2 v305 v309 fun v313 S314=>
 i9 S314 2 v303 v312 fun v315 S316=>
 u7 E w0 Q x4 x7 x10 v305 v303 S316))))
 (a0y E w0 Q x4 x7 x10 S))
theorem b5T{E:m7}{w0:o0}{N0:D→D→D→D→D→D→b7→Prop}{Q:D→b7→Prop}{x4 x7 x10 x45 x46 x47:D}{S:b7}(h:a6W E w0 N0 Q x4 x7 x10 x45 x46 x47 S):
  j9 Try.prog E w0 a6K (n9 120 [4,7,10,45,46,47] [x4,x7,x10,x45,x46,x47]) S (A8 (fun T S=>N0 (T.getD 4 b8) (T.getD 7 b8) (T.getD 10 b8) (T.getD 45 b8) (T.getD 46 b8) (T.getD 47 b8) S) (a5N E w0 Q)):=l8 U6 X2 U7 o7 (by kernel_rfl) h
theorem b6t{E:m7}{w0:o0}{Q:D→b7→Prop}(I:Nat→D→D→D→D→D→D→b7→Prop)
  (step:∀n x4 x7 x10 x45 x46 x47 S,I n x4 x7 x10 x45 x46 x47 S→a6W E w0 (fun x4 x7 x10 x45 x46 x47 S=>∃m,m<n∧I m x4 x7 x10 x45 x46 x47 S) Q x4 x7 x10 x45 x46 x47 S)
  {n:Nat} {x4 x7 x10 x45 x46 x47:D} {S:b7} (h:I n x4 x7 x10 x45 x46 x47 S):j9 Try.prog E w0 (.loop a6K) (n9 120 [4,7,10,45,46,47] [x4,x7,x10,x45,x46,x47]) S (a5N E w0 Q):=
 r0 (k:=120) (n:=n) (I:=fun n T S=>I n (T.getD 4 b8) (T.getD 7 b8) (T.getD 10 b8) (T.getD 45 b8) (T.getD 46 b8) (T.getD 47 b8) S) (fun n T S hl hI=>r9 [4,7,10,45,46,47] hl (j9.mono (b5T (step n _ _ _ _ _ _ S hI)) fun ex T' S' _ hq=>by cases ex<;>exact hq)) (o3 ..) (Eq.mp (by kernel_rfl) h)
def b6A(E:m7)(w0:o0)(Q:D→b7→Prop)(a0 a1:D)(S:b7):Prop:=
 o6 S [(.int .u8 0),(.int .i64 0),(.int .i64 0), .nilSlc] fun v0 S1=>
 a9 (d8 .lss a1 (.int .i64 0)) fun v2=>
 a9 (f0 (d6 v2 false) (some a1)) fun v3=>
 a9 (f0 (d6 v2 false) (some a0)) fun v4=>
 a9 (f0 (d6 v2 false) (p7 v4)) fun v5=>
 a9 (f0 (d6 v2 false) (d8 .geq v3 v5)) fun v6=>
 a9 (t8 v2 (.bool true) v6) fun v7=>
 j8 v7
 (a9 (E6 (w6 [(.int .u8 0),(.int .i64 0),(.int .i64 0), .nilSlc] [])) fun v8=>
 i9 S1 4 v0 v8 fun v9 S10=>
 a9 (j0 S10 4 v0) fun v11=>Q (.tup [v11,(.int .i64 0),(.int .i64 2)]) S10)
 (a9 (A0 1 a0 a1) fun v12=>
 a9 (b9 S1 v12) fun v13=>
 a9 (E6 (w6 [(.int .u8 0),(.int .i64 0),(.int .i64 0), .nilSlc] [(0,1,v13)])) fun v14=>
 o6 S1 [(.int .u8 0),(.int .i64 0),(.int .i64 0), .nilSlc] fun v15 S16=>
 i9 S16 4 v15 v14 fun v17 S18=>
 a9 (m6 0 v15) fun v19=>
 a9 (b9 S18 v19) fun v20=>
 o5 Try.prog E w0 a5s [v20] S18 fun v21 S22=>
 a9 (o9 v21 0) fun v23=>
 a9 (o9 v21 1) fun v24=>
 a9 (unD .not v24) fun v25=>
 j8 v25
 (a9 (E6 (w6 [(.int .u8 0),(.int .i64 0),(.int .i64 0), .nilSlc] [])) fun v26=>
 i9 S22 4 v0 v26 fun v27 S28=>
 a9 (j0 S28 4 v0) fun v29=>Q (.tup [v29,(.int .i64 0),(.int .i64 120)]) S28)
 (a9 (d8 .add a1 (.int .i64 1)) fun v30=>
 a9 (E6 (w6 [.nilSlc,(.int .i64 0),(.int .i64 0)] [(0,1,a0),(1,1,v30)])) fun v31=>
 a9 (r4 v31) fun cs=>o6 S22 cs fun v32 S33=>
 a9 (p7 v23) fun v34=>
 j9 Try.prog E w0 (.loop a6K) (n9 120 [4,7,10,45,46,47] [v0,v15,v32,v23,v34,(.int .i64 0)]) S33 (a5N E w0 Q)))
theorem b9p{E:m7}{w0:o0}{Q:D→b7→Prop}{a0 a1:D}{S:b7}(h:b6A E w0 (d9 E Q) a0 a1 S):o5 Try.prog E w0 a5H [a0,a1] S Q:=
 m9 U6 X2 U7 (fn:=Try.f83) (c:=Try.f83.body.getD .skip) o7 Try.func83 (by kernel_rfl) (by kernel_rfl) h
def b4Q:List (Nat×List Nat):=[(8,[0,5,6,7])]
def b4I:List (Nat×List Nat):=[]
def b4X:List (Nat×X5):=[]
noncomputable def b2d:Code:=(l9 [1,1,1,0,1,0,0] (Try.f74.body.getD .skip))
def b2r(E:m7)(w0:o0)(Q:D→b7→Prop):r6→List D→b7→Prop:=
 (s8 0 (G7 Try.prog E w0 b4Q b4I b4X (l9 [1,1,1,1] (Try.f74.body.getD .skip)) (G8 Try.prog Try.f74 Q)))
def b2A(E:m7)(w0:o0)(N0:D→D→D→D→b7→Prop)(Q:D→b7→Prop)(x0 x5 x6 x7:D)(S:b7):Prop:=
 a9 (p7 x0) fun v0=>
 a9 (d8 .lss x7 v0) fun v1=>
 j8 v1
 (o5 Try.prog E w0 a5H [x0,x7] S fun v2 S3=>
 a9 (o9 v2 0) fun v4=>
 a9 (o9 v2 1) fun v5=>
 a9 (o9 v2 2) fun v6=>
 o6 S3 [(.int .u8 0),(.int .i64 0),(.int .i64 0), .nilSlc] fun v7 S8=>
 i9 S8 4 v7 v4 fun v9 S10=>
 a9 (d8 .neq v6 (.int .i64 0)) fun v11=>
 j8 v11
 (Q (.tup [.nilSlc, .nilSlc,v6]) S10)
 (a9 (j0 S10 4 v7) fun v12=>
 u6 S10 4 (q9 4 (List.replicate 1 [(.int .u8 0),(.int .i64 0),(.int .i64 0), .nilSlc]) [(0,v12)]) 1 fun v13 S14=>
 A1 S14 4 48 x5 v13 fun v15 S16=>
 u6 S16 1 (q9 1 (List.replicate 1 [(.int .i64 0)]) [(0,x7)]) 1 fun v17 S18=>
 A1 S18 1 8 x6 v17 fun v19 S20=>
 N0 x0 v15 v19 v5 S20))
 (Q (.tup [x5,x6,(.int .i64 0)]) S)
theorem c1X{E:m7}{w0:o0}{N0:D→D→D→D→b7→Prop}{Q:D→b7→Prop}{x0 x5 x6 x7:D}{S:b7}(h:b2A E w0 N0 Q x0 x5 x6 x7 S):
  j9 Try.prog E w0 b2d (n9 36 [0,5,6,7] [x0,x5,x6,x7]) S (A8 (fun T S=>N0 (T.getD 0 b8) (T.getD 5 b8) (T.getD 6 b8) (T.getD 7 b8) S) (b2r E w0 Q)):=l8 b4Q b4I b4X o7 (by kernel_rfl) h
theorem c1w{E:m7}{w0:o0}{Q:D→b7→Prop}(I:Nat→D→D→D→D→b7→Prop)
  (step:∀n x0 x5 x6 x7 S,I n x0 x5 x6 x7 S→b2A E w0 (fun x0 x5 x6 x7 S=>∃m,m<n∧I m x0 x5 x6 x7 S) Q x0 x5 x6 x7 S)
  {n:Nat} {x0 x5 x6 x7:D} {S:b7} (h:I n x0 x5 x6 x7 S):j9 Try.prog E w0 (.loop b2d) (n9 36 [0,5,6,7] [x0,x5,x6,x7]) S (b2r E w0 Q):=
 r0 (k:=36) (n:=n) (I:=fun n T S=>I n (T.getD 0 b8) (T.getD 5 b8) (T.getD 6 b8) (T.getD 7 b8) S) (fun n T S hl hI=>r9 [0,5,6,7] hl (j9.mono (c1X (step n _ _ _ _ S hI)) fun ex T' S' _ hq=>by cases ex<;>exact hq)) (o3 ..) (Eq.mp (by kernel_rfl) h)
def c3L(E:m7)(w0:o0)(Q:D→b7→Prop)(a0:D)(S:b7):Prop:=
 j9 Try.prog E w0 (.loop b2d) (n9 36 [0,5,6,7] [a0, .nilSlc, .nilSlc,(.int .i64 0)]) S (b2r E w0 Q)
theorem c4O{E:m7}{w0:o0}{Q:D→b7→Prop}{a0:D}{S:b7}(h:c3L E w0 (d9 E Q) a0 S):o5 Try.prog E w0 b7O [a0] S Q:=
 m9 b4Q b4I b4X (fn:=Try.f74) (c:=Try.f74.body.getD .skip) o7 Try.func74 (by kernel_rfl) (by kernel_rfl) h
end Go.Proofs.Ytchnpgddpaonhaa.d
end
section
open Go.Proofs Go Go.Am Go.Op
namespace Go.Proofs.Ytchnpgddpaonhaa.d
def rdC(bs:List Int)(s:Nat×Int):List D:=[bD bs, .int .i64 (s.1:Int), .int .i64 s.2]
theorem d6m{s:Nat}(h:s<8):(2:Nat)^(8*s)≤2^56:=Nat.pow_le_pow_right (by decide) (by omega)
section
variable{E:m7}{w0:o0}
theorem c6P{bs:List Int}(hb:∀b∈bs,K4 b)(hl:bs.length<2^60){s:Nat×Int}(hs:s.1≤bs.length){row:List D}{f:Fld}(hf:c1h row f)(h1:1≤f.size)(h8:f.size≤8){S:b7}{k:Nat}{acs:List AV}(hk:S k=some ⟨3,[rdC bs s],acs⟩):
  o5 Try.prog E w0 C3 [.ptr k 0, .agg row] S fun v S'=>v= .int .i64 (H8 bs f s).1∧∃acs',S'=S.set k ⟨3,[rdC bs (H8 bs f s).2],acs'⟩:=by
 obtain⟨fv,rfl,hm⟩:=hf
 refine b3a ?_
 unfold a7q
 rw[clA,oD]
 intro k0 a0 n0
 have d:k≠k0:=b7.ne_of hk n0
 generalize hS1:S.set k0 _=S1
 have bk:S1 k=some ⟨3,[rdC bs s],acs⟩:=by rw[←hS1,b7.set_ne _ _ _ d];exact hk
 have b0:S1 k0=some ⟨2,[[.int .i64 (f.size:Int),fv]],a0⟩:=by rw[←hS1];exact b7.set_same _ _ _
 have drop:∀ {o:M4} {Q:D→b7→Prop} {v:D},d9 E Q v (S.set k o)→d9 E Q v (S1.set k o):=fun{o Q v} h=>by
  rw[←hS1,b7.set_comm _ (Ne.symm d)]
  exact d9.drop (by rw[b7.set_ne _ _ _ (Ne.symm d)];exact n0) h
 have l2:b9 S1 (.ptr k 2)=some (.int .i64 s.2):=ldP bk
 have l1:b9 S1 (.ptr k 1)=some (.int .i64 (s.1:Int)):=ldP bk
 have l0:b9 S1 (.ptr k 0)=some (bD bs):=ldP bk
 have m0:b9 S1 (.ptr k0 0)=some (.int .i64 (f.size:Int)):=ldP b0
 have m1:b9 S1 (.ptr k0 1)=some fv:=ldP b0
 simp only[ndP,H5,oD,Nat.zero_add,l2,l1,l0,m0,b0B]
 rw[c6y,J6]
 refine⟨fun he=> ?_,fun he=> ?_⟩
 ·rw[c9f he, ←hS1]
  exact d9.drop n0 (d9.here ⟨rfl,acs,(b7.set_self hk).symm⟩)
 have he:s.2=0:=Classical.not_not.1 he
 refine(a9H hb hl hs h1 h8).use ?_
 have hset:∀n m:Int,o8 (rdC bs (s.1,n)) 2 [.int .i64 m]=rdC bs (s.1,m):=fun _ _=>rfl
 have hset1:∀m:Nat,o8 (rdC bs s) 1 [.int .i64 (m:Int)]=rdC bs (m,s.2):=fun _=>rfl
 by_cases hsh:bs.length<s.1+f.size
 ·rw[if_pos hsh]
  have e:H8 bs f s=(0,s.1,10):=by unfold H8;rw[if_neg (by simp[he]),if_pos hsh]
  simp only[exD,List.getElem?_cons_zero,List.getElem?_cons_succ,oD,b0B]
  rw[show((10:Int) != 0)=true from rfl,cdT]
  refine stP bk (clI _ _) ⟨rfl,by decide,by simp[rdC]⟩ fun acs'=>drop (d9.here ?_)
  rw[e]
  exact⟨rfl,acs',rfl⟩
 rw[if_neg hsh]
 simp only[exD,List.getElem?_cons_zero,List.getElem?_cons_succ,oD,b0B,cvI]
 rw[show((0:Int) != 0)=false from rfl,cdF]
 obtain⟨u,hu⟩:∃u,u=leN ((bs.drop s.1).take f.size):=⟨_,rfl⟩
 have hur:H8 bs f s=match rdN f u with|some n=>(n,s.1+f.size,0)|none=>(0,s.1,120):=by
  unfold H8;rw[if_neg (by simp[he]),if_neg hsh, ←hu]
  cases rdN f u<;>rfl
 have hult:u<2^(8*f.size):=by
  rw[hu]
  have hbs:∀b∈(bs.drop s.1).take f.size,K4 b:=fun b hb'=>hb b (List.mem_of_mem_drop (List.mem_of_mem_take hb'))
  have:=b4S hbs
  rwa [show((bs.drop s.1).take f.size).length=f.size by rw[List.length_take,List.length_drop];omega]at this
 rw[←hu]
 obtain⟨n,hn⟩:∃n,n=IntKind.i64.wrap (u:Int):=⟨_,rfl⟩
 have hn64:I64 n:=by rw[hn];exact c6H _
 rw[←hn,m1,oD]
 have tail:∀n':Int,I64 n'→n'=(if f.may n=false∧f.size<8 then n - 2^(8*f.size) else n)→M0 E w0 (d9 E fun v S'=>v= .int .i64 (H8 bs f s).1∧∃acs',S'=S.set k ⟨3,[rdC bs (H8 bs f s).2],acs'⟩) (.ptr k 0) (.ptr k0 0) (.int .i64 ((s.1+f.size:Nat):Int)) (.int .i64 n') S1:=fun n' hn' he'=>by
  refine a8D ?_
  unfold a4G
  simp only[H5,oD,Nat.zero_add,m1]
  refine c2g hm hn' ?_
  rw[unN,oD]
  have hrd:rdN f u=if f.may n'=true then some n' else none:=by
   unfold rdN;simp only;rw[←hn, ←he']
  have hmm:decide (f.lo≤n'∧n'≤f.hi)=f.may n':=rfl
  rw[hmm,cdB]
  refine⟨fun hf=> ?_,fun hf=> ?_⟩
  ·have hf:f.may n'=false:=by simpa using hf
   rw[hf,if_neg (by decide)]at hrd
   rw[hrd]at hur
   simp only[ndP,H5,oD,Nat.zero_add]
   refine stP bk (clI _ _) ⟨rfl,by decide,by simp[rdC]⟩ fun acs'=>drop (d9.here ?_)
   rw[hur]
   exact⟨rfl,acs',rfl⟩
  ·have hf:f.may n'=true:=by simpa using hf
   rw[if_pos hf]at hrd
   rw[hrd]at hur
   simp only[ndP,H5,oD,Nat.zero_add]
   refine stP bk (clI _ _) ⟨rfl,by decide,by simp[rdC]⟩ fun acs'=>drop (d9.here ?_)
   rw[hur,hset1,he]
   exact⟨rfl,acs',rfl⟩
 refine c2g hm hn64 ?_
 have hmm:decide (f.lo≤n∧n≤f.hi)=f.may n:=rfl
 rw[hmm,unN,oD]
 have e8:decide ((f.size:Int)<8)=decide (f.size<8):=decide_eq_decide.2 (by omega)
 have key:(a9 (d8 .mul (.int .i64 8) (.int .i64 (f.size:Int))) fun v49=>a9 (d8 .shl (.int .i64 1) v49) fun v50=>a9 (d8 .sub (.int .i64 n) v50) fun v51=>M0 E w0 (d9 E fun v S'=>v= .int .i64 (H8 bs f s).1∧∃acs',S'=S.set k ⟨3,[rdC bs (H8 bs f s).2],acs'⟩) (.ptr k 0) (.ptr k0 0) (.int .i64 ((s.1+f.size:Nat):Int)) v51 S1)∨¬(f.may n=false∧f.size<8):=by
  by_cases hc:f.may n=false∧f.size<8
  ·left
   have h56:=d6m hc.2
   have hnu:n=u:=by rw[hn];exact m8 (by omega) (by omega)
   rw[c9X,oD,m8 (by omega) (by omega),d3X _ _ _ _ (by omega),oD]
   have e1:min (8*(f.size:Int)).toNat IntKind.i64.bits=8*f.size:=by
    have:IntKind.i64.bits=64:=rfl
    omega
   have e2:(1:Int)*2^(8*f.size)=((2^(8*f.size):Nat):Int):=by rw[Int.one_mul];exact_mod_cast rfl
   rw[e1,e2,m8 (by omega) (by omega),b0O,oD,m8 (by omega) (by omega)]
   refine tail _ ⟨by omega,by omega⟩ ?_
   rw[if_pos hc]
   congr 1
  ·exact .inr hc
 cases hmn:f.may n with
 |true=>
  simp only[Bool.not_true,R7,vdF,oD,U3,Bool.false_eq_true,if_false,cdF,show((false==true)=false) from rfl]
  exact tail n hn64 (by rw[if_neg (by rw[hmn];simp)])
 |false=>
  simp only[Bool.not_false,R7,vdT,oD,U3,if_true,show((true==true)=true) from rfl,m0,J0,e8]
  rw[J6]
  refine⟨fun h=> ?_,fun h=> ?_⟩
  ·exact key.resolve_right fun hc=>hc ⟨hmn,h⟩
  ·exact tail n hn64 (by rw[if_neg (fun hc=>h hc.2)])
end
end Go.Proofs.Ytchnpgddpaonhaa.d
end
