/-
  BlocksReachesSaid: part Mau of its proof.
-/
import Derived.Test.YtdkidgkiplcggaaMat
import Derived.Test.YtdkidgkiplcggaaRows
import Derived.Test.YtdkidgkiplcggaaMar
import Derived.KernelRfl
set_option linter.unusedVariables false
set_option linter.unusedSimpArgs false
set_option maxRecDepth 100000
section
open Go.Proofs Go Go.Am Go.Op
namespace Go.Proofs.Ytdkidgkiplcggaa.d
section
def iC(l:List Int):List (List D):=Z7 (l.map (D.int .i64))
def iD(l:List Int):D:= .lst (iC l) 1
@[simp] theorem j3(l:List Int):(iC l).length=l.length:=by simp[iC]
theorem c3B{l:List Int}{i:Nat}{n:Int}(h:l[i]? =some n):(iC l)[i]? =some [.int .i64 n]:=b8F (by rw[List.getElem?_map,h];rfl)
theorem a3q{l:List Int}{i:Nat}{n:Int}(h:l[i]? =some n):j5 1 (iD l) (.int .i64 (i:Int))=some (.elt [.int .i64 n] 0):=b5t (c3B h)
@[simp] theorem a0c(l:List Int):m6 (iD l)=some (.int .i64 l.length):=by simp[iD]
@[simp] theorem c4p(S:b4)(l:List Int):rowsS S 1 (iD l)=some (iC l):=by simp[iD,rowsS,E0]
theorem J9(a b:List Int):iC (a++b)=iC a++iC b:=by simp[iC,Z7]
def iX(l:List Int):D:= .ext (iC l) (iC [-771, -772, -773]) 1
theorem c5h(l:List Int):Wk (iX l) (iD l):=Wk.ext _ _ _
section
variable{E:d6}{w0:i5}
theorem a1F{a b:List Int}(hl:a.length<2^60)(hb:b.length<2^60):a1o Try.prog E w0 A1 [iD a,iD b] (.bool (decide (a=b))):=fun S=>by
 refine a3h ?_
 unfold a2G
 simp only[a0c,oD,a9f]
 have e:((a.length:Int) != b.length)=decide (a.length≠b.length):=by
  by_cases h:a.length=b.length<;>simp[h,bne]
  intro h';exact h (by omega)
 rw[e,cdI]
 refine⟨fun h=> ?_,fun h=> ?_⟩
 ·rw[decide_eq_false (fun e=>h (by rw[e]))]
  exact b9.pure
 have h:a.length=b.length:=by omega
 refine a1I (I:=fun n x0 x1 x5 S'=>S'=S∧x0=iD a∧x1=iD b∧∃i:Nat,x5= .int .i64 (i:Int)∧i+n=a.length∧a.take i=b.take i) ?_ (n:=a.length) ⟨rfl,rfl,rfl,0,rfl,by omega,rfl⟩
 rintro n _ _ _ _ ⟨rfl,rfl,rfl,i,rfl,hi,ht⟩
 unfold U2
 simp only[a0c,oD,V6]
 rw[cdI]
 refine⟨fun hlt=> ?_,fun hge=> ?_⟩
 ·have hlt:i<a.length:=by omega
  have ea:a[i]? =some a[i]:=List.getElem?_eq_getElem hlt
  have eb:b[i]? =some b[i]:=List.getElem?_eq_getElem (by omega)
  simp only[a3q ea,a3q eb,oD,lsE,List.getElem?_cons_zero,a9f]
  have e:(a[i] != b[i])=decide (a[i]≠b[i]):=by by_cases h:a[i]=b[i]<;>simp[h,bne]
  rw[e,cdI]
  refine⟨fun hne=> ?_,fun he=> ?_⟩
  ·rw[decide_eq_false (fun e=>hne (by simp only[e]))]
   exact b9.pure
  ·rw[C6,oD,g9 (by omega) (by omega)]
   refine⟨n - 1,by omega,by trivial,by trivial,by trivial,i+1,rfl,by omega, ?_⟩
   rw[List.take_add_one,List.take_add_one,ht,ea,eb,Classical.not_not.1 he]
 ·rw[List.take_of_length_le (by omega),List.take_of_length_le (by omega)]at ht
  rw[decide_eq_true ht]
  exact b9.pure
theorem b2p{l:List Int}(hl:l.length<2^30):a1o Try.prog E w0 a0i [iD l] (iX l):=fun S=>by
 refine a9N ?_
 unfold a5Y
 refine(Grw.nil S 1).push (c4p _ _) (by simp;omega) fun t S1 g=> ?_
 refine a7p (I:=fun n x0 x3 x4 S'=>x0=iD l∧∃j:Nat,x4= .int .i64 (j:Int)∧j+n=3∧((j<3∧Grw S x3 (iC (l++[-771, -772, -773].take j)) 1 S')∨(j=3∧x3=iD (l++[-771, -772, -773])∧S'=S))) ?_ (n:=3) ⟨rfl,0,rfl,by omega, .inl ⟨by omega,by simpa using g⟩⟩
 rintro n _ x3 _ S2 ⟨rfl,j,rfl,hj,hc⟩
 unfold a0z
 rw[V6,oD,cdI]
 refine⟨fun hlt=> ?_,fun hge=> ?_⟩
 ·obtain⟨_,g⟩:=hc.resolve_right fun h=>by omega
  rw[a3V,oD,g9 (by omega) (by omega)]
  have hr:s4 1 (List.replicate 1 [D.int .i64 0]) [(0, .int .i64 (-771 - (j:Int)))]=some (iC [-771 - (j:Int)]):=rfl
  rw[hr]
  refine I8 rfl ?_
  have hm:l++List.take j [-771, -772, -773]++[-771 - (j:Int)]=l++List.take (j+1) [-771, -772, -773]:=by
   rcases j with _|_|_|j
   ·simp
   ·simp
   ·simp
   ·omega
  by_cases h2:j=2
  ·subst h2
   refine g.last (news:=iC [-771 - ((2:Nat):Int)]) rfl (by simp[iC,Z7]) (by simp;omega) ?_
   rw[C6,oD,g9 (by omega) (by omega), ←J9,hm]
   exact⟨0,by omega,rfl,3,rfl,rfl, .inr ⟨rfl,rfl,rfl⟩⟩
  ·refine g.push (news:=iC [-771 - (j:Int)]) rfl (by simp;omega) fun t' S' g'=> ?_
   rw[C6,oD,g9 (by omega) (by omega)]
   rw[←J9,hm]at g'
   exact⟨n - 1,by omega,rfl,j+1,rfl,by omega, .inl ⟨by omega,g'⟩⟩
 ·obtain⟨h3,rfl,rfl⟩:=hc.resolve_left fun h=>by omega
  rw[a0c,oD,iD,c7H (by simp),oD]
  rw[J9,List.take_left' (by simp),List.drop_left' (by simp)]
  exact b9.pure
theorem b2z{l:List Int}(hl:l.length<2^60):a1o Try.prog E w0 a0b [iX l,iD l] (.bool true):=fun S=>by
 refine a9V ?_
 unfold a6f
 refine DF.weak (es:=[iD l,iD l]) ⟨c5h l,Wk.refl _,trivial⟩ ((a1F hl hl).use ?_)
 rw[unN,oD,decide_eq_true rfl,Bool.not_true,cdF,a0c,oD,C6,oD,g9 (by omega) (by omega)]
 have e:((l.length:Int)+3)=((l.length+3:Nat):Int):=by omega
 rw[e,iX,c7Q (by simp),oD]
 have e2:b7L ((iC l++iC [-771, -772, -773]).take (l.length+3)) ((iC l++iC [-771, -772, -773]).drop (l.length+3)) 1=iD (l++[-771, -772, -773]):=by
  rw[←J9,List.take_of_length_le (by simp),List.drop_of_length_le (by simp)];rfl
 rw[e2]
 refine a7t (I:=fun n x1 x5 x6 S'=>S'=S∧x1=iD l∧x5=iD (l++[-771, -772, -773])∧∃j:Nat,x6= .int .i64 (j:Int)∧j+n=3) ?_ (n:=3) ⟨rfl,rfl,rfl,0,rfl,rfl⟩
 rintro n _ _ _ _ ⟨rfl,rfl,rfl,j,rfl,hj⟩
 unfold a0y
 rw[V6,oD,cdI]
 refine⟨fun hlt=> ?_,fun hge=> ?_⟩
 ·have ej:(l++[-771, -772, -773]:List Int)[l.length+j]? =some (-771 - (j:Int)):=by
   rw[List.getElem?_append_right (by omega),Nat.add_sub_cancel_left]
   rcases j with _|_|_|j
   ·rfl
   ·rfl
   ·rfl
   ·omega
  rw[a0c,oD,C6,oD,g9 (by omega) (by omega),show(l.length:Int)+(j:Int)=((l.length+j:Nat):Int) by omega,a3q ej,oD,lsE,List.getElem?_cons_zero,oD,a3V,oD,g9 (by omega) (by omega),a9f,oD]
  rw[bne_self_eq_false,cdF,C6,oD,g9 (by omega) (by omega)]
  exact⟨n - 1,by omega,rfl,rfl,rfl,j+1,rfl,by omega⟩
 ·exact b9.pure
end
end
section
@[simp] theorem c6x(S:b4)(arms:List (Int×Int)):rowsS S 2 (b4v arms)=some (arms.map a0L):=by simp[b4v,rowsS,E0]
theorem c1J(a b:Int):(a != b)=decide (a≠b):=by by_cases h:a=b<;>simp[h,bne]
section
variable{E:d6}{w0:i5}
end
end
section
abbrev Tx:=List UInt8
structure Ty where
 kind:Int
 name:Tx
 fields:List (Tx×Int)
 elem:Int
 len:Int
 deriving DecidableEq
structure Ro where
 name:Tx
 params:List Int
 results:List Int
 locals:Int
 stack:Int
 code:List Int
 deriving DecidableEq
structure Mo where
 types:List Ty
 texts:List Tx
 funcs:List Ro
 deriving DecidableEq
structure Ty.Ok (t:Ty):Prop where
 kind:0≤t.kind∧t.kind≤255
 name:t.name.length<2^47
 fields:t.fields.length<2^47
 names:∀f∈t.fields,f.1.length<2^47∧I64 f.2
 elem:I64 t.elem
 len:I64 t.len
structure Ro.Ok (r:Ro):Prop where
 name:r.name.length<2^47
 params:r.params.length<2^47
 results:r.results.length<2^47
 ints:∀n∈r.params++r.results,I64 n
 locals:I64 r.locals
 stack:I64 r.stack
 code:r.code.length<2^47
 bytes:∀b∈r.code,W3 b
structure Mo.Ok (m:Mo):Prop where
 types:m.types.length<2^47
 texts:m.texts.length<2^47
 funcs:m.funcs.length<2^47
 ty:∀t∈m.types,t.Ok
 tx:∀t∈m.texts,t.length<2^47
 ro:∀r∈m.funcs,r.Ok
def c4Y(f:Tx×Int):List D:=[.str f.1, .int .i64 f.2]
def b7Y(fs:List (Tx×Int)):D:= .lst (fs.map c4Y) 2
def tyR(t:Ty):List D:=[.int .u8 t.kind, .str t.name,b7Y t.fields, .int .i64 t.elem, .int .i64 t.len]
def c7g(l:List Ty):D:= .lst (l.map tyR) 5
def c4B(l:List Tx):D:= .lst (Z7 (l.map D.str)) 1
def roR(r:Ro):List D:=[.str r.name,iD r.params,iD r.results, .int .i64 r.locals, .int .i64 r.stack,bD r.code]
def c7a(l:List Ro):D:= .lst (l.map roR) 6
@[simp] theorem c6C(l:List (Tx×Int)):m6 (b7Y l)=some (.int .i64 l.length):=by simp[b7Y]
@[simp] theorem c6K(l:List Ty):m6 (c7g l)=some (.int .i64 l.length):=by simp[c7g]
@[simp] theorem c6N(l:List Tx):m6 (c4B l)=some (.int .i64 l.length):=by simp[c4B]
@[simp] theorem c6J(l:List Ro):m6 (c7a l)=some (.int .i64 l.length):=by simp[c7a]
@[simp] theorem c8c(S:b4)(p:Tx×Int):s8 S 2 (.elt (c4Y p) 0)=some (.agg (c4Y p)):=(rfl)
@[simp] theorem c8v(S:b4)(p:Ty):s8 S 5 (.elt (tyR p) 0)=some (.agg (tyR p)):=(rfl)
@[simp] theorem c8s(S:b4)(p:Ro):s8 S 6 (.elt (roR p) 0)=some (.agg (roR p)):=(rfl)
theorem c5e(k:IntKind)(a b:Int):d4 .neq (.int k a) (.int k b)=some (.bool (decide (a≠b))):=by rw[a9f,c1J]
theorem a4e(k:IntKind)(a b:Int):d4 .eql (.int k a) (.int k b)=some (.bool (decide (a=b))):=by rw[a7j,c6S]
section
variable{E:d6}{w0:i5}
theorem t1:(true==false)=false:=rfl
theorem t2:(false==false)=true:=rfl
theorem t3:(false==true)=false:=rfl
theorem t4:(true==true)=true:=rfl
end
end
end Go.Proofs.Ytdkidgkiplcggaa.d
end
section
open Go.Proofs Go Go.Am
namespace Go.Proofs.Ytdkidgkiplcggaa.d
def a2F:List (Nat×List Nat):=[]
def a2m:List (Nat×List Nat):=[(20,[0,3,6,8])]
def a2P:List (Nat×Arr):=[]
noncomputable def a6r:Code:=(f0 [1,1,1,1,1,1] (Try.f61.body.getD .skip))
def a5w(E:d6)(w0:i5)(Q:D→b4→Prop):j2→List D→b4→Prop:=
 (E3 Try.prog Try.f61 Q)
def a1i(E:d6)(w0:i5)(Q:D→b4→Prop)(x0 x3 x6 x8:D)(S:b4):Prop:=
 b5 (t8 1 x3) fun v25=>
 b5 (c9 S v25) fun v26=>
 a5N Try.prog (r8 Try.prog E w0) S v26 [x8] fun v27 S28=>
 b5 (unD .not v27) fun v29=>
 g8 v29
 (b5 (a3O x0) fun v30=>
 b5 (t8 2 v30) fun v31=>
 j4 S28 1 v31 (.int .i64 120) fun v32 S33=>
 Q (.int .i64 0) S33)
 (b5 (a3O x0) fun v34=>
 b5 (t8 1 v34) fun v35=>
 j4 S28 1 v35 x6 fun v36 S37=>
 Q x8 S37)
def D3(E:d6)(w0:i5)(Q:D→b4→Prop)(x0 x3 x6 x8:D)(S:b4):Prop:=b8 Try.prog E w0 a6r (d8 65 [0,3,6,8] [x0,x3,x6,x8]) S (a5w E w0 Q)
theorem a4k{E:d6}{w0:i5}{Q:D→b4→Prop}{x0 x3 x6 x8:D}{S:b4}(h:a1i E w0 Q x0 x3 x6 x8 S):D3 E w0 Q x0 x3 x6 x8 S:=d5 a2F a2m a2P mixed (by kernel_rfl) h
def a3t(E:d6)(w0:i5)(Q:D→b4→Prop)(a0 a1:D)(S:b4):Prop:=
 b5 (s6 a1) fun cs=>q7 S cs fun v0 S1=>
 b5 (a3O a0) fun v2=>
 b5 (t8 2 v2) fun v3=>
 b5 (c9 S1 v3) fun v4=>
 b5 (d4 .neq v4 (.int .i64 0)) fun v5=>
 g8 v5
 (Q (.int .i64 0) S1)
 (b5 (a3O a0) fun v6=>
 b5 (t8 0 v6) fun v7=>
 b5 (c9 S1 v7) fun v8=>
 b5 (a3O a0) fun v9=>
 b5 (t8 1 v9) fun v10=>
 b5 (c9 S1 v10) fun v11=>
 b5 (t8 0 v0) fun v12=>
 b5 (c9 S1 v12) fun v13=>
 r8 Try.prog E w0 a5P [v8,v11,v13] S1 fun v14 S15=>
 b5 (u4 v14 0) fun v16=>
 b5 (u4 v14 1) fun v17=>
 b5 (u4 v14 2) fun v18=>
 b5 (d4 .neq v18 (.int .i64 0)) fun v19=>
 g8 v19
 (b5 (a3O a0) fun v20=>
 b5 (t8 2 v20) fun v21=>
 j4 S15 1 v21 (.int .i64 10) fun v22 S23=>
 Q (.int .i64 0) S23)
 (b5 (V3 .i64 v16) fun v24=>
 b5 (t8 1 v0) fun v38=>
 b5 (c9 S15 v38) fun v39=>
 a5N Try.prog (r8 Try.prog E w0) S15 v39 [v24] fun v40 S41=>
 b5 (unD .not v40) fun v42=>
 b5 (d9 (b7 v42 true) (t8 0 v0)) fun v43=>
 b5 (d9 (b7 v42 true) (c9 S41 v43)) fun v44=>
 b5 (d9 (b7 v42 true) (d4 .lss v44 (.int .i64 8))) fun v45=>
 b5 (H5 v42 v45 (.bool false)) fun v46=>
 g8 v46
 (b5 (t8 0 v0) fun v47=>
 b5 (c9 S41 v47) fun v48=>
 b5 (d4 .mul (.int .i64 8) v48) fun v49=>
 b5 (d4 .shl (.int .i64 1) v49) fun v50=>
 b5 (d4 .sub v24 v50) fun v51=>
 D3 E w0 Q a0 v0 v17 v51 S41)
 (D3 E w0 Q a0 v0 v17 v24 S41)))
theorem a5A{E:d6}{w0:i5}{Q:D→b4→Prop}{a0 a1:D}{S:b4}(h:a3t E w0 (b9 E Q) a0 a1 S):r8 Try.prog E w0 t6 [a0,a1] S Q:=
 o6 a2F a2m a2P (fn:=Try.f61) (c:=Try.f61.body.getD .skip) mixed Try.func61 (by kernel_rfl) (by kernel_rfl) h
def I2:List (Nat×List Nat):=[(18,[4,7,10,45,46,47]),(36,[4,7,10,13,14,15])]
def I6:List (Nat×List Nat):=[(34,[4,7,10,13,14]),(46,[4,7,10])]
def I5:List (Nat×Arr):=[(16,(.node 0 7 (.node 0 8 (.node 5 7 (.node 5 8 (.node 7 8 (.leaf [2,3,4,0,1,5,6,7,8,9,10]) (.leaf [2,3,4,0,1,5,6,8,7,9,10])) (.leaf [2,3,4,0,1,8,5,6,7,9,10])) (.node 5 8 (.leaf [2,3,4,0,1,7,5,6,8,9,10]) (.node 7 8 (.leaf [2,3,4,0,1,7,8,5,6,9,10]) (.leaf [2,3,4,0,1,8,7,5,6,9,10])))) (.node 5 7 (.leaf [2,3,4,8,0,1,5,6,7,9,10]) (.leaf [2,3,4,8,0,1,7,5,6,9,10]))) (.node 0 8 (.node 5 8 (.leaf [2,3,4,7,0,1,5,6,8,9,10]) (.leaf [2,3,4,7,0,1,8,5,6,9,10])) (.node 7 8 (.leaf [2,3,4,7,8,0,1,5,6,9,10]) (.leaf [2,3,4,8,7,0,1,5,6,9,10])))))]
noncomputable def a1u:Code:=(f0 [1,1,1,1,1,1,1,1] (Try.f44.body.getD .skip))
def b0F(E:d6)(w0:i5)(Q:D→b4→Prop):j2→List D→b4→Prop:=
 (E3 Try.prog Try.f44 Q)
def a5q(E:d6)(w0:i5)(Q:D→b4→Prop)(x4 x7 x10:D)(S:b4):Prop:=
 b5 (a3O x10) fun v57=>
 b5 (t8 2 v57) fun v58=>
 b5 (c9 S v58) fun v59=>
 b5 (d4 .neq v59 (.int .i64 0)) fun v60=>
 g8 v60
 (b5 (E4 (s9 [(.int .u8 0),(.int .i64 0),(.int .i64 0), .nilSlc] [])) fun v61=>
 b5 (a3O x10) fun v62=>
 b5 (t8 2 v62) fun v63=>
 b5 (c9 S v63) fun v64=>
 j4 S 4 x4 v61 fun v65 S66=>
 B3 v63 S S66∧b5 (s8 S66 4 x4) fun v67=>Q (.tup [v67,(.int .i64 0),v64]) S66)
 (b5 (s8 S 4 x7) fun v68=>
 b5 (a3O x10) fun v69=>
 b5 (t8 1 v69) fun v70=>
 b5 (c9 S v70) fun v71=>
 j4 S 4 x4 v68 fun v72 S73=>
 B3 v70 S S73∧b5 (s8 S73 4 x4) fun v74=>Q (.tup [v74,v71,(.int .i64 0)]) S73)
def L4(E:d6)(w0:i5)(Q:D→b4→Prop)(x4 x7 x10:D)(S:b4):Prop:=b8 Try.prog E w0 a1u (d8 120 [4,7,10] [x4,x7,x10]) S (b0F E w0 Q)
theorem a7W{E:d6}{w0:i5}{Q:D→b4→Prop}{x4 x7 x10:D}{S:b4}(h:a5q E w0 Q x4 x7 x10 S):L4 E w0 Q x4 x7 x10 S:=d5 I2 I6 I5 mixed (by kernel_rfl) h
noncomputable def a2D:Code:=(f0 [1,1,1,1,1,1,1,0,1,0,1,0,1,0,0] (Try.f44.body.getD .skip))
def a2v(E:d6)(w0:i5)(Q:D→b4→Prop):j2→List D→b4→Prop:=
 (i4 2 (J0 Try.prog E w0 I2 I6 I5 (f0 [1,1,1,1,1,1,1,0,1,0,1,1] (Try.f44.body.getD .skip)) (a7h Try.prog E w0 120 [4,7,10] a1u (E3 Try.prog Try.f44 Q))))
def a2Q(E:d6)(w0:i5)(N1:D→D→D→D→D→D→b4→Prop)(Q:D→b4→Prop)(x4 x7 x10 x13 x14 x15:D)(S:b4):Prop:=
 b5 (d4 .gtr x15 (.int .i64 0)) fun v83=>
 b5 (d9 (b7 v83 true) (some x10)) fun v84=>
 b5 (d9 (b7 v83 true) (a3O v84)) fun v85=>
 b5 (d9 (b7 v83 true) (t8 2 v85)) fun v86=>
 b5 (d9 (b7 v83 true) (c9 S v86)) fun v87=>
 b5 (d9 (b7 v83 true) (d4 .eql v87 (.int .i64 0))) fun v88=>
 b5 (H5 v83 v88 (.bool false)) fun v89=>
 g8 v89
 (b5 (s8 S 2 x14) fun v90=>
 r8 Try.prog E w0 t6 [x10,v90] S fun v91 S92=>
 b5 (t8 3 x7) fun v93=>
 b5 (c9 S92 v93) fun v94=>
 b5 (s8 S92 2 x13) fun v95=>
 r8 Try.prog E w0 t6 [x10,v95] S92 fun v96 S97=>
 B3 v93 S92 S97∧b5 (E4 (s9 [(.int .i64 0),(.int .i64 0)] [(0,1,v91),(1,1,v96)])) fun v98=>
 I4 S97 2 (s4 2 (List.replicate 1 [(.int .i64 0),(.int .i64 0)]) [(0,v98)]) 1 fun v99 S100=>
 B3 v93 S92 S100∧s0 S100 2 16 v94 v99 fun v101 S102=>
 b5 (t8 3 x7) fun v103=>
 j4 S102 1 v103 v101 fun v104 S105=>
 b5 (d4 .sub x15 (.int .i64 1)) fun v106=>
 N1 x4 x7 x10 x13 x14 v106 S105)
 (b5 (s8 S 2 x13) fun v107=>
 r8 Try.prog E w0 t6 [x10,v107] S fun v108 S109=>
 b5 (t8 2 x7) fun v110=>
 j4 S109 1 v110 v108 fun v111 S112=>
 L4 E w0 Q x4 x7 x10 S112)
theorem a9B{E:d6}{w0:i5}{N1:D→D→D→D→D→D→b4→Prop}{Q:D→b4→Prop}{x4 x7 x10 x13 x14 x15:D}{S:b4}(h:a2Q E w0 N1 Q x4 x7 x10 x13 x14 x15 S):
  b8 Try.prog E w0 a2D (d8 120 [4,7,10,13,14,15] [x4,x7,x10,x13,x14,x15]) S (m9 (fun T S=>N1 (T.getD 4 a8) (T.getD 7 a8) (T.getD 10 a8) (T.getD 13 a8) (T.getD 14 a8) (T.getD 15 a8) S) (a2v E w0 Q)):=d5 I2 I6 I5 mixed (by kernel_rfl) h
theorem a9C{E:d6}{w0:i5}{Q:D→b4→Prop}(I:Nat→D→D→D→D→D→D→b4→Prop)
  (step:∀n x4 x7 x10 x13 x14 x15 S,I n x4 x7 x10 x13 x14 x15 S→a2Q E w0 (fun x4 x7 x10 x13 x14 x15 S=>∃m,m<n∧I m x4 x7 x10 x13 x14 x15 S) Q x4 x7 x10 x13 x14 x15 S)
  {n:Nat} {x4 x7 x10 x13 x14 x15:D} {S:b4} (h:I n x4 x7 x10 x13 x14 x15 S):b8 Try.prog E w0 (.loop a2D) (d8 120 [4,7,10,13,14,15] [x4,x7,x10,x13,x14,x15]) S (a2v E w0 Q):=
 j7 (k:=120) (n:=n) (I:=fun n T S=>I n (T.getD 4 a8) (T.getD 7 a8) (T.getD 10 a8) (T.getD 13 a8) (T.getD 14 a8) (T.getD 15 a8) S) (fun n T S hl hI=>l9 [4,7,10,13,14,15] hl (b8.mono (a9B (step n _ _ _ _ _ _ S hI)) fun ex T' S' _ hq=>by cases ex<;>exact hq)) (f9 ..) (Eq.mp (by kernel_rfl) h)
noncomputable def b2w:Code:=(f0 [1,1,1,1,1,1,1,0,1,0,1] (Try.f44.body.getD .skip))
def b0v(E:d6)(w0:i5)(Q:D→b4→Prop):j2→List D→b4→Prop:=
 (a7h Try.prog E w0 120 [4,7,10] a1u (E3 Try.prog Try.f44 Q))
def a5s(E:d6)(w0:i5)(Q:D→b4→Prop)(x4 x7 x10 x13 x14:D)(S:b4):Prop:=
 r8 Try.prog E w0 l8 [(.int .i64 0),(.int .i64 65535)] S fun v78 S79=>
 b5 (E4 (s9 [(.int .i64 0), .nilFn] [(0,1,(.int .i64 2)),(1,1,v78)])) fun v80=>
 r8 Try.prog E w0 t6 [x10,v80] S79 fun v81 S82=>
 b8 Try.prog E w0 (.loop a2D) (d8 120 [4,7,10,13,14,15] [x4,x7,x10,x13,x14,v81]) S82 (a2v E w0 Q)
def k9(E:d6)(w0:i5)(Q:D→b4→Prop)(x4 x7 x10 x13 x14:D)(S:b4):Prop:=b8 Try.prog E w0 b2w (d8 120 [4,7,10,13,14] [x4,x7,x10,x13,x14]) S (b0v E w0 Q)
theorem a8H{E:d6}{w0:i5}{Q:D→b4→Prop}{x4 x7 x10 x13 x14:D}{S:b4}(h:a5s E w0 Q x4 x7 x10 x13 x14 S):k9 E w0 Q x4 x7 x10 x13 x14 S:=d5 I2 I6 I5 mixed (by kernel_rfl) h
noncomputable def a2o:Code:=(f0 [1,1,1,1,1,1,0,1,0,0] (Try.f44.body.getD .skip))
def a2S(E:d6)(w0:i5)(Q:D→b4→Prop):j2→List D→b4→Prop:=
 (i4 0 (J0 Try.prog E w0 I2 I6 I5 (f0 [1,1,1,1,1,1,1] (Try.f44.body.getD .skip)) (E3 Try.prog Try.f44 Q)))
def a2c(E:d6)(w0:i5)(N0:D→D→D→D→D→D→b4→Prop)(Q:D→b4→Prop)(x4 x7 x10 x45 x46 x47:D)(S:b4):Prop:=
 b5 (d4 .lss x47 x46) fun v35=>
 g8 v35
 (b5 (j5 2 x45 x47) fun v36=>
 b5 (s8 S 2 v36) fun v37=>
 q7 S [(.int .i64 0), .nilFn] fun v38 S39=>
 j4 S39 2 v38 v37 fun v40 S41=>
 b5 (d4 .eql x47 (.int .i64 0)) fun v42=>
 g8 v42
 (b5 (s8 S41 2 v38) fun v43=>
 r8 Try.prog E w0 t6 [x10,v43] S41 fun v44 S45=>
 b5 (t8 1 x7) fun v46=>
 j4 S45 1 v46 v44 fun v47 S48=>
 b5 (d4 .add x47 (.int .i64 1)) fun v49=>
 N0 x4 x7 x10 x45 x46 v49 S48)
 (b5 (s8 S41 2 v38) fun v50=>
 r8 Try.prog E w0 t6 [x10,v50] S41 fun v51 S52=>
 b5 (t8 2 x7) fun v53=>
 j4 S52 1 v53 v51 fun v54 S55=>
 b5 (d4 .add x47 (.int .i64 1)) fun v56=>
 N0 x4 x7 x10 x45 x46 v56 S55))
 (b5 (t8 0 x7) fun v75=>
 b5 (c9 S v75) fun v76=>
 b5 (d4 .eql v76 (.int .u8 49)) fun v77=>
 g8 v77
 ((((((b5 (t8 1 x7) fun v113=>
 b5 (c9 S v113) fun v114=>
 b5 (V3 .u8 v114) fun v115=>
 r8 Try.prog E w0 l8 [(.int .i64 0),(.int .i64 4294967295)] S fun v116 S117=>
 B3 v113 S S117∧b5 (E4 (s9 [(.int .i64 0), .nilFn] [(0,1,(.int .i64 4)),(1,1,v116)])) fun v118=>
 r8 Try.prog E w0 A0 [v115] S117 fun v119 S120=>
 b5 (E4 (s9 [(.int .i64 0), .nilFn] [(0,1,(.int .i64 8)),(1,1,v119)])) fun v121=>
 q7 S120 [(.int .i64 0), .nilFn] fun v122 S123=>
 q7 S123 [(.int .i64 0), .nilFn] fun v124 S125=>
 j4 S125 2 v122 v118 fun v126 S127=>
 j4 S127 2 v124 v121 fun v128 S129=>
 k9 E w0 Q x4 x7 x10 v122 v124 S129)∧
 (b5 (t8 1 x7) fun v130=>
 b5 (c9 S v130) fun v131=>
 b5 (V3 .u8 v131) fun v132=>
 r8 Try.prog E w0 l8 [(.int .i64 0),(.int .i64 4294967295)] S fun v133 S134=>
 B3 v130 S S134∧b5 (E4 (s9 [(.int .i64 0), .nilFn] [(0,1,(.int .i64 4)),(1,1,v133)])) fun v135=>
 r8 Try.prog E w0 A0 [v132] S134 fun v136 S137=>
 b5 (E4 (s9 [(.int .i64 0), .nilFn] [(0,1,(.int .i64 8)),(1,1,v136)])) fun v138=>
 q7 S137 [(.int .i64 0), .nilFn] fun v139 S140=>
 q7 S140 [(.int .i64 0), .nilFn] fun v141 S142=>
 j4 S142 2 v141 v135 fun v143 S144=>
 j4 S144 2 v139 v138 fun v145 S146=>
 k9 E w0 Q x4 x7 x10 v141 v139 S146))∧
 (b5 (t8 1 x7) fun v147=>
 b5 (c9 S v147) fun v148=>
 b5 (V3 .u8 v148) fun v149=>
 r8 Try.prog E w0 l8 [(.int .i64 0),(.int .i64 4294967295)] S fun v150 S151=>
 B3 v147 S S151∧b5 (E4 (s9 [(.int .i64 0), .nilFn] [(0,1,(.int .i64 4)),(1,1,v150)])) fun v152=>
 q7 S151 [(.int .i64 0), .nilFn] fun v153 S154=>
 B3 v147 S S154∧r8 Try.prog E w0 A0 [v149] S154 fun v155 S156=>
 b5 (E4 (s9 [(.int .i64 0), .nilFn] [(0,1,(.int .i64 8)),(1,1,v155)])) fun v157=>
 q7 S156 [(.int .i64 0), .nilFn] fun v158 S159=>
 j4 S159 2 v158 v152 fun v160 S161=>
 j4 S161 2 v153 v157 fun v162 S163=>
 k9 E w0 Q x4 x7 x10 v158 v153 S163))∧
 ((b5 (t8 1 x7) fun v164=>
 b5 (c9 S v164) fun v165=>
 b5 (V3 .u8 v165) fun v166=>
 r8 Try.prog E w0 l8 [(.int .i64 0),(.int .i64 4294967295)] S fun v167 S168=>
 B3 v164 S S168∧b5 (E4 (s9 [(.int .i64 0), .nilFn] [(0,1,(.int .i64 4)),(1,1,v167)])) fun v169=>
 q7 S168 [(.int .i64 0), .nilFn] fun v170 S171=>
 B3 v164 S S171∧r8 Try.prog E w0 A0 [v166] S171 fun v172 S173=>
 b5 (E4 (s9 [(.int .i64 0), .nilFn] [(0,1,(.int .i64 8)),(1,1,v172)])) fun v174=>
 q7 S173 [(.int .i64 0), .nilFn] fun v175 S176=>
 j4 S176 2 v170 v169 fun v177 S178=>
 j4 S178 2 v175 v174 fun v179 S180=>
 k9 E w0 Q x4 x7 x10 v170 v175 S180)∧
 ((b5 (t8 1 x7) fun v181=>
 b5 (c9 S v181) fun v182=>
 b5 (V3 .u8 v182) fun v183=>
 r8 Try.prog E w0 l8 [(.int .i64 0),(.int .i64 4294967295)] S fun v184 S185=>
 B3 v181 S S185∧b5 (E4 (s9 [(.int .i64 0), .nilFn] [(0,1,(.int .i64 4)),(1,1,v184)])) fun v186=>
 q7 S185 [(.int .i64 0), .nilFn] fun v187 S188=>
 B3 v181 S S188∧q7 S188 [(.int .i64 0), .nilFn] fun v189 S190=>
 B3 v181 S S190∧r8 Try.prog E w0 A0 [v183] S190 fun v191 S192=>
 b5 (E4 (s9 [(.int .i64 0), .nilFn] [(0,1,(.int .i64 8)),(1,1,v191)])) fun v193=>
 j4 S192 2 v187 v186 fun v194 S195=>
 j4 S195 2 v189 v193 fun v196 S197=>
 k9 E w0 Q x4 x7 x10 v187 v189 S197)∧
 (b5 (t8 1 x7) fun v198=>
 b5 (c9 S v198) fun v199=>
 b5 (V3 .u8 v199) fun v200=>
 r8 Try.prog E w0 l8 [(.int .i64 0),(.int .i64 4294967295)] S fun v201 S202=>
 B3 v198 S S202∧b5 (E4 (s9 [(.int .i64 0), .nilFn] [(0,1,(.int .i64 4)),(1,1,v201)])) fun v203=>
 q7 S202 [(.int .i64 0), .nilFn] fun v204 S205=>
 B3 v198 S S205∧q7 S205 [(.int .i64 0), .nilFn] fun v206 S207=>
 B3 v198 S S207∧r8 Try.prog E w0 A0 [v200] S207 fun v208 S209=>
 b5 (E4 (s9 [(.int .i64 0), .nilFn] [(0,1,(.int .i64 8)),(1,1,v208)])) fun v210=>
 j4 S209 2 v206 v203 fun v211 S212=>
 j4 S212 2 v204 v210 fun v213 S214=>
 k9 E w0 Q x4 x7 x10 v206 v204 S214))))∧
 ((b5 (t8 1 x7) fun v215=>
 b5 (c9 S v215) fun v216=>
 b5 (V3 .u8 v216) fun v217=>
 q7 S [(.int .i64 0), .nilFn] fun v218 S219=>
 B3 v215 S S219∧r8 Try.prog E w0 l8 [(.int .i64 0),(.int .i64 4294967295)] S219 fun v220 S221=>
 B3 v215 S S221∧b5 (E4 (s9 [(.int .i64 0), .nilFn] [(0,1,(.int .i64 4)),(1,1,v220)])) fun v222=>
 r8 Try.prog E w0 A0 [v217] S221 fun v223 S224=>
 b5 (E4 (s9 [(.int .i64 0), .nilFn] [(0,1,(.int .i64 8)),(1,1,v223)])) fun v225=>
 q7 S224 [(.int .i64 0), .nilFn] fun v226 S227=>
 j4 S227 2 v226 v222 fun v228 S229=>
 j4 S229 2 v218 v225 fun v230 S231=>
 k9 E w0 Q x4 x7 x10 v226 v218 S231)∧
 (b5 (t8 1 x7) fun v232=>
 b5 (c9 S v232) fun v233=>
 b5 (V3 .u8 v233) fun v234=>
 q7 S [(.int .i64 0), .nilFn] fun v235 S236=>
 B3 v232 S S236∧r8 Try.prog E w0 l8 [(.int .i64 0),(.int .i64 4294967295)] S236 fun v237 S238=>
 B3 v232 S S238∧b5 (E4 (s9 [(.int .i64 0), .nilFn] [(0,1,(.int .i64 4)),(1,1,v237)])) fun v239=>
 q7 S238 [(.int .i64 0), .nilFn] fun v240 S241=>
 B3 v232 S S241∧r8 Try.prog E w0 A0 [v234] S241 fun v242 S243=>
 b5 (E4 (s9 [(.int .i64 0), .nilFn] [(0,1,(.int .i64 8)),(1,1,v242)])) fun v244=>
 j4 S243 2 v240 v239 fun v245 S246=>
 j4 S246 2 v235 v244 fun v247 S248=>
 k9 E w0 Q x4 x7 x10 v240 v235 S248)))∧
 (((b5 (t8 1 x7) fun v249=>
 b5 (c9 S v249) fun v250=>
 b5 (V3 .u8 v250) fun v251=>
 q7 S [(.int .i64 0), .nilFn] fun v252 S253=>
 B3 v249 S S253∧r8 Try.prog E w0 l8 [(.int .i64 0),(.int .i64 4294967295)] S253 fun v254 S255=>
 B3 v249 S S255∧b5 (E4 (s9 [(.int .i64 0), .nilFn] [(0,1,(.int .i64 4)),(1,1,v254)])) fun v256=>
 r8 Try.prog E w0 A0 [v251] S255 fun v257 S258=>
 b5 (E4 (s9 [(.int .i64 0), .nilFn] [(0,1,(.int .i64 8)),(1,1,v257)])) fun v259=>
 q7 S258 [(.int .i64 0), .nilFn] fun v260 S261=>
 j4 S261 2 v252 v256 fun v262 S263=>
 j4 S263 2 v260 v259 fun v264 S265=>
 k9 E w0 Q x4 x7 x10 v252 v260 S265)∧
 (b5 (t8 1 x7) fun v266=>
 b5 (c9 S v266) fun v267=>
 b5 (V3 .u8 v267) fun v268=>
 q7 S [(.int .i64 0), .nilFn] fun v269 S270=>
 B3 v266 S S270∧r8 Try.prog E w0 l8 [(.int .i64 0),(.int .i64 4294967295)] S270 fun v271 S272=>
 B3 v266 S S272∧b5 (E4 (s9 [(.int .i64 0), .nilFn] [(0,1,(.int .i64 4)),(1,1,v271)])) fun v273=>
 q7 S272 [(.int .i64 0), .nilFn] fun v274 S275=>
 B3 v266 S S275∧r8 Try.prog E w0 A0 [v268] S275 fun v276 S277=>
 b5 (E4 (s9 [(.int .i64 0), .nilFn] [(0,1,(.int .i64 8)),(1,1,v276)])) fun v278=>
 j4 S277 2 v269 v273 fun v279 S280=>
 j4 S280 2 v274 v278 fun v281 S282=>
 k9 E w0 Q x4 x7 x10 v269 v274 S282))∧
 ((b5 (t8 1 x7) fun v283=>
 b5 (c9 S v283) fun v284=>
 b5 (V3 .u8 v284) fun v285=>
 q7 S [(.int .i64 0), .nilFn] fun v286 S287=>
 B3 v283 S S287∧q7 S287 [(.int .i64 0), .nilFn] fun v288 S289=>
 B3 v283 S S289∧r8 Try.prog E w0 l8 [(.int .i64 0),(.int .i64 4294967295)] S289 fun v290 S291=>
 B3 v283 S S291∧b5 (E4 (s9 [(.int .i64 0), .nilFn] [(0,1,(.int .i64 4)),(1,1,v290)])) fun v292=>
 r8 Try.prog E w0 A0 [v285] S291 fun v293 S294=>
 b5 (E4 (s9 [(.int .i64 0), .nilFn] [(0,1,(.int .i64 8)),(1,1,v293)])) fun v295=>
 j4 S294 2 v286 v292 fun v296 S297=>
 j4 S297 2 v288 v295 fun v298 S299=>
 k9 E w0 Q x4 x7 x10 v286 v288 S299)∧
 (b5 (t8 1 x7) fun v300=>
 b5 (c9 S v300) fun v301=>
 b5 (V3 .u8 v301) fun v302=>
 q7 S [(.int .i64 0), .nilFn] fun v303 S304=>
 B3 v300 S S304∧q7 S304 [(.int .i64 0), .nilFn] fun v305 S306=>
 B3 v300 S S306∧r8 Try.prog E w0 l8 [(.int .i64 0),(.int .i64 4294967295)] S306 fun v307 S308=>
 B3 v300 S S308∧b5 (E4 (s9 [(.int .i64 0), .nilFn] [(0,1,(.int .i64 4)),(1,1,v307)])) fun v309=>
 r8 Try.prog E w0 A0 [v302] S308 fun v310 S311=>
 b5 (E4 (s9 [(.int .i64 0), .nilFn] [(0,1,(.int .i64 8)),(1,1,v310)])) fun v312=>
 j4 S311 2 v305 v309 fun v313 S314=>
 j4 S314 2 v303 v312 fun v315 S316=>
 k9 E w0 Q x4 x7 x10 v305 v303 S316))))
 (L4 E w0 Q x4 x7 x10 S))
theorem b0k{E:d6}{w0:i5}{N0:D→D→D→D→D→D→b4→Prop}{Q:D→b4→Prop}{x4 x7 x10 x45 x46 x47:D}{S:b4}(h:a2c E w0 N0 Q x4 x7 x10 x45 x46 x47 S):
  b8 Try.prog E w0 a2o (d8 120 [4,7,10,45,46,47] [x4,x7,x10,x45,x46,x47]) S (m9 (fun T S=>N0 (T.getD 4 a8) (T.getD 7 a8) (T.getD 10 a8) (T.getD 45 a8) (T.getD 46 a8) (T.getD 47 a8) S) (a2S E w0 Q)):=d5 I2 I6 I5 mixed (by kernel_rfl) h
theorem a8X{E:d6}{w0:i5}{Q:D→b4→Prop}(I:Nat→D→D→D→D→D→D→b4→Prop)
  (step:∀n x4 x7 x10 x45 x46 x47 S,I n x4 x7 x10 x45 x46 x47 S→a2c E w0 (fun x4 x7 x10 x45 x46 x47 S=>∃m,m<n∧I m x4 x7 x10 x45 x46 x47 S) Q x4 x7 x10 x45 x46 x47 S)
  {n:Nat} {x4 x7 x10 x45 x46 x47:D} {S:b4} (h:I n x4 x7 x10 x45 x46 x47 S):b8 Try.prog E w0 (.loop a2o) (d8 120 [4,7,10,45,46,47] [x4,x7,x10,x45,x46,x47]) S (a2S E w0 Q):=
 j7 (k:=120) (n:=n) (I:=fun n T S=>I n (T.getD 4 a8) (T.getD 7 a8) (T.getD 10 a8) (T.getD 45 a8) (T.getD 46 a8) (T.getD 47 a8) S) (fun n T S hl hI=>l9 [4,7,10,45,46,47] hl (b8.mono (b0k (step n _ _ _ _ _ _ S hI)) fun ex T' S' _ hq=>by cases ex<;>exact hq)) (f9 ..) (Eq.mp (by kernel_rfl) h)
def b0h(E:d6)(w0:i5)(Q:D→b4→Prop)(a0 a1:D)(S:b4):Prop:=
 q7 S [(.int .u8 0),(.int .i64 0),(.int .i64 0), .nilSlc] fun v0 S1=>
 b5 (d4 .lss a1 (.int .i64 0)) fun v2=>
 b5 (d9 (b7 v2 false) (some a1)) fun v3=>
 b5 (d9 (b7 v2 false) (some a0)) fun v4=>
 b5 (d9 (b7 v2 false) (m6 v4)) fun v5=>
 b5 (d9 (b7 v2 false) (d4 .geq v3 v5)) fun v6=>
 b5 (H5 v2 (.bool true) v6) fun v7=>
 g8 v7
 (b5 (E4 (s9 [(.int .u8 0),(.int .i64 0),(.int .i64 0), .nilSlc] [])) fun v8=>
 j4 S1 4 v0 v8 fun v9 S10=>
 b5 (s8 S10 4 v0) fun v11=>Q (.tup [v11,(.int .i64 0),(.int .i64 2)]) S10)
 (b5 (j5 1 a0 a1) fun v12=>
 b5 (c9 S1 v12) fun v13=>
 b5 (E4 (s9 [(.int .u8 0),(.int .i64 0),(.int .i64 0), .nilSlc] [(0,1,v13)])) fun v14=>
 q7 S1 [(.int .u8 0),(.int .i64 0),(.int .i64 0), .nilSlc] fun v15 S16=>
 j4 S16 4 v15 v14 fun v17 S18=>
 b5 (t8 0 v15) fun v19=>
 b5 (c9 S18 v19) fun v20=>
 r8 Try.prog E w0 a4K [v20] S18 fun v21 S22=>
 b5 (u4 v21 0) fun v23=>
 b5 (u4 v21 1) fun v24=>
 b5 (unD .not v24) fun v25=>
 g8 v25
 (b5 (E4 (s9 [(.int .u8 0),(.int .i64 0),(.int .i64 0), .nilSlc] [])) fun v26=>
 j4 S22 4 v0 v26 fun v27 S28=>
 b5 (s8 S28 4 v0) fun v29=>Q (.tup [v29,(.int .i64 0),(.int .i64 120)]) S28)
 (b5 (d4 .add a1 (.int .i64 1)) fun v30=>
 b5 (E4 (s9 [.nilSlc,(.int .i64 0),(.int .i64 0)] [(0,1,a0),(1,1,v30)])) fun v31=>
 b5 (s6 v31) fun cs=>q7 S22 cs fun v32 S33=>
 b5 (m6 v23) fun v34=>
 b8 Try.prog E w0 (.loop a2o) (d8 120 [4,7,10,45,46,47] [v0,v15,v32,v23,v34,(.int .i64 0)]) S33 (a2S E w0 Q)))
theorem b2i{E:d6}{w0:i5}{Q:D→b4→Prop}{a0 a1:D}{S:b4}(h:b0h E w0 (b9 E Q) a0 a1 S):r8 Try.prog E w0 a1M [a0,a1] S Q:=
 o6 I2 I6 I5 (fn:=Try.f44) (c:=Try.f44.body.getD .skip) mixed Try.func44 (by kernel_rfl) (by kernel_rfl) h
def a8a:List (Nat×List Nat):=[(8,[0,5,6,7])]
def a8r:List (Nat×List Nat):=[]
def a8K:List (Nat×Arr):=[]
noncomputable def a5W:Code:=(f0 [1,1,1,0,1,0,0] (Try.f23.body.getD .skip))
def a5S(E:d6)(w0:i5)(Q:D→b4→Prop):j2→List D→b4→Prop:=
 (i4 0 (J0 Try.prog E w0 a8a a8r a8K (f0 [1,1,1,1] (Try.f23.body.getD .skip)) (E3 Try.prog Try.f23 Q)))
def a6t(E:d6)(w0:i5)(N0:D→D→D→D→b4→Prop)(Q:D→b4→Prop)(x0 x5 x6 x7:D)(S:b4):Prop:=
 b5 (m6 x0) fun v0=>
 b5 (d4 .lss x7 v0) fun v1=>
 g8 v1
 (r8 Try.prog E w0 a1M [x0,x7] S fun v2 S3=>
 b5 (u4 v2 0) fun v4=>
 b5 (u4 v2 1) fun v5=>
 b5 (u4 v2 2) fun v6=>
 q7 S3 [(.int .u8 0),(.int .i64 0),(.int .i64 0), .nilSlc] fun v7 S8=>
 j4 S8 4 v7 v4 fun v9 S10=>
 b5 (d4 .neq v6 (.int .i64 0)) fun v11=>
 g8 v11
 (Q (.tup [.nilSlc, .nilSlc,v6]) S10)
 (b5 (s8 S10 4 v7) fun v12=>
 I4 S10 4 (s4 4 (List.replicate 1 [(.int .u8 0),(.int .i64 0),(.int .i64 0), .nilSlc]) [(0,v12)]) 1 fun v13 S14=>
 s0 S14 4 48 x5 v13 fun v15 S16=>
 I4 S16 1 (s4 1 (List.replicate 1 [(.int .i64 0)]) [(0,x7)]) 1 fun v17 S18=>
 s0 S18 1 8 x6 v17 fun v19 S20=>
 N0 x0 v15 v19 v5 S20))
 (Q (.tup [x5,x6,(.int .i64 0)]) S)
theorem b3I{E:d6}{w0:i5}{N0:D→D→D→D→b4→Prop}{Q:D→b4→Prop}{x0 x5 x6 x7:D}{S:b4}(h:a6t E w0 N0 Q x0 x5 x6 x7 S):
  b8 Try.prog E w0 a5W (d8 36 [0,5,6,7] [x0,x5,x6,x7]) S (m9 (fun T S=>N0 (T.getD 0 a8) (T.getD 5 a8) (T.getD 6 a8) (T.getD 7 a8) S) (a5S E w0 Q)):=d5 a8a a8r a8K mixed (by kernel_rfl) h
theorem b4k{E:d6}{w0:i5}{Q:D→b4→Prop}(I:Nat→D→D→D→D→b4→Prop)
  (step:∀n x0 x5 x6 x7 S,I n x0 x5 x6 x7 S→a6t E w0 (fun x0 x5 x6 x7 S=>∃m,m<n∧I m x0 x5 x6 x7 S) Q x0 x5 x6 x7 S)
  {n:Nat} {x0 x5 x6 x7:D} {S:b4} (h:I n x0 x5 x6 x7 S):b8 Try.prog E w0 (.loop a5W) (d8 36 [0,5,6,7] [x0,x5,x6,x7]) S (a5S E w0 Q):=
 j7 (k:=36) (n:=n) (I:=fun n T S=>I n (T.getD 0 a8) (T.getD 5 a8) (T.getD 6 a8) (T.getD 7 a8) S) (fun n T S hl hI=>l9 [0,5,6,7] hl (b8.mono (b3I (step n _ _ _ _ S hI)) fun ex T' S' _ hq=>by cases ex<;>exact hq)) (f9 ..) (Eq.mp (by kernel_rfl) h)
def b5P(E:d6)(w0:i5)(Q:D→b4→Prop)(a0:D)(S:b4):Prop:=
 b8 Try.prog E w0 (.loop a5W) (d8 36 [0,5,6,7] [a0, .nilSlc, .nilSlc,(.int .i64 0)]) S (a5S E w0 Q)
theorem b6A{E:d6}{w0:i5}{Q:D→b4→Prop}{a0:D}{S:b4}(h:b5P E w0 (b9 E Q) a0 S):r8 Try.prog E w0 a6N [a0] S Q:=
 o6 a8a a8r a8K (fn:=Try.f23) (c:=Try.f23.body.getD .skip) mixed Try.func23 (by kernel_rfl) (by kernel_rfl) h
end Go.Proofs.Ytdkidgkiplcggaa.d
end
section
open Go.Proofs Go Go.Am Go.Op
namespace Go.Proofs.Ytdkidgkiplcggaa.d
section
def rdC(bs:List Int)(s:Nat×Int):List D:=[bD bs, .int .i64 (s.1:Int), .int .i64 s.2]
theorem c7D{s:Nat}(h:s<8):(2:Nat)^(8*s)≤2^56:=Nat.pow_le_pow_right (by decide) (by omega)
section
variable{E:d6}{w0:i5}
theorem b9p{bs:List Int}(hb:∀b∈bs,W3 b)(hl:bs.length<2^60){s:Nat×Int}(hs:s.1≤bs.length){row:List D}{f:Fld}(hf:b8z row f)(h1:1≤f.size)(h8:f.size≤8){S:b4}{k:Nat}{acs:List AV}(hk:S k=some ⟨3,[rdC bs s],acs⟩):
  r8 Try.prog E w0 t6 [.ptr k 0, .agg row] S fun v S'=>v= .int .i64 (B1 bs f s).1∧∃acs',S'=S.set k ⟨3,[rdC bs (B1 bs f s).2],acs'⟩:=by
 obtain⟨fv,rfl,hm⟩:=hf
 refine a5A ?_
 unfold a3t
 rw[clA,oD]
 intro k0 a0 n0
 have d:k≠k0:=b4.ne_of hk n0
 generalize hS1:S.set k0 _=S1
 have bk:S1 k=some ⟨3,[rdC bs s],acs⟩:=by rw[←hS1,b4.set_ne _ _ _ d];exact hk
 have b0:S1 k0=some ⟨2,[[.int .i64 (f.size:Int),fv]],a0⟩:=by rw[←hS1];exact b4.set_same _ _ _
 have drop:∀ {o:u7} {Q:D→b4→Prop} {v:D},b9 E Q v (S.set k o)→b9 E Q v (S1.set k o):=fun{o Q v} h=>by
  rw[←hS1,b4.set_comm _ (Ne.symm d)]
  exact b9.drop (by rw[b4.set_ne _ _ _ (Ne.symm d)];exact n0) h
 have l2:c9 S1 (.ptr k 2)=some (.int .i64 s.2):=ldP bk
 have l1:c9 S1 (.ptr k 1)=some (.int .i64 (s.1:Int)):=ldP bk
 have l0:c9 S1 (.ptr k 0)=some (bD bs):=ldP bk
 have m0:c9 S1 (.ptr k0 0)=some (.int .i64 (f.size:Int)):=ldP b0
 have m1:c9 S1 (.ptr k0 1)=some fv:=ldP b0
 simp only[ndP,ofP,oD,Nat.zero_add,l2,l1,l0,m0,a9f]
 rw[c1J,cdI]
 refine⟨fun he=> ?_,fun he=> ?_⟩
 ·rw[c1q he, ←hS1]
  exact b9.drop n0 (b9.here ⟨rfl,acs,(b4.set_self hk).symm⟩)
 have he:s.2=0:=Classical.not_not.1 he
 refine(b6P hb hl hs h1 h8).use ?_
 have hset:∀n m:Int,o5 (rdC bs (s.1,n)) 2 [.int .i64 m]=rdC bs (s.1,m):=fun _ _=>rfl
 have hset1:∀m:Nat,o5 (rdC bs s) 1 [.int .i64 (m:Int)]=rdC bs (m,s.2):=fun _=>rfl
 by_cases hsh:bs.length<s.1+f.size
 ·rw[if_pos hsh]
  have e:B1 bs f s=(0,s.1,10):=by unfold B1;rw[if_neg (by simp[he]),if_pos hsh]
  simp only[exD,List.getElem?_cons_zero,List.getElem?_cons_succ,oD,a9f]
  rw[show((10:Int) != 0)=true from rfl,cdT]
  refine stP bk (clI _ _) ⟨rfl,by decide,by simp[rdC]⟩ fun acs'=>drop (b9.here ?_)
  rw[e]
  exact⟨rfl,acs',rfl⟩
 rw[if_neg hsh]
 simp only[exD,List.getElem?_cons_zero,List.getElem?_cons_succ,oD,a9f,cvI]
 rw[show((0:Int) != 0)=false from rfl,cdF]
 obtain⟨u,hu⟩:∃u,u=leN ((bs.drop s.1).take f.size):=⟨_,rfl⟩
 have hur:B1 bs f s=match rdN f u with|some n=>(n,s.1+f.size,0)|none=>(0,s.1,120):=by
  unfold B1;rw[if_neg (by simp[he]),if_neg hsh, ←hu]
  cases rdN f u<;>rfl
 have hult:u<2^(8*f.size):=by
  rw[hu]
  have hbs:∀b∈(bs.drop s.1).take f.size,W3 b:=fun b hb'=>hb b (List.mem_of_mem_drop (List.mem_of_mem_take hb'))
  have:=b4o hbs
  rwa [show((bs.drop s.1).take f.size).length=f.size by rw[List.length_take,List.length_drop];omega]at this
 rw[←hu]
 obtain⟨n,hn⟩:∃n,n=IntKind.i64.wrap (u:Int):=⟨_,rfl⟩
 have hn64:I64 n:=by rw[hn];exact b8I _
 rw[←hn,m1,oD]
 have tail:∀n':Int,I64 n'→n'=(if f.may n=false∧f.size<8 then n - 2^(8*f.size) else n)→D3 E w0 (b9 E fun v S'=>v= .int .i64 (B1 bs f s).1∧∃acs',S'=S.set k ⟨3,[rdC bs (B1 bs f s).2],acs'⟩) (.ptr k 0) (.ptr k0 0) (.int .i64 ((s.1+f.size:Nat):Int)) (.int .i64 n') S1:=fun n' hn' he'=>by
  refine a4k ?_
  unfold a1i
  simp only[ofP,oD,Nat.zero_add,m1]
  refine b8H hm hn' ?_
  rw[unN,oD]
  have hrd:rdN f u=if f.may n'=true then some n' else none:=by
   unfold rdN;simp only;rw[←hn, ←he']
  have hmm:decide (f.lo≤n'∧n'≤f.hi)=f.may n':=rfl
  rw[hmm,cdB]
  refine⟨fun hf=> ?_,fun hf=> ?_⟩
  ·have hf:f.may n'=false:=by simpa using hf
   rw[hf,if_neg (by decide)]at hrd
   rw[hrd]at hur
   simp only[ndP,ofP,oD,Nat.zero_add]
   refine stP bk (clI _ _) ⟨rfl,by decide,by simp[rdC]⟩ fun acs'=>drop (b9.here ?_)
   rw[hur]
   exact⟨rfl,acs',rfl⟩
  ·have hf:f.may n'=true:=by simpa using hf
   rw[if_pos hf]at hrd
   rw[hrd]at hur
   simp only[ndP,ofP,oD,Nat.zero_add]
   refine stP bk (clI _ _) ⟨rfl,by decide,by simp[rdC]⟩ fun acs'=>drop (b9.here ?_)
   rw[hur,hset1,he]
   exact⟨rfl,acs',rfl⟩
 refine b8H hm hn64 ?_
 have hmm:decide (f.lo≤n∧n≤f.hi)=f.may n:=rfl
 rw[hmm,unN,oD]
 have e8:decide ((f.size:Int)<8)=decide (f.size<8):=decide_eq_decide.2 (by omega)
 have key:(b5 (d4 .mul (.int .i64 8) (.int .i64 (f.size:Int))) fun v49=>b5 (d4 .shl (.int .i64 1) v49) fun v50=>b5 (d4 .sub (.int .i64 n) v50) fun v51=>D3 E w0 (b9 E fun v S'=>v= .int .i64 (B1 bs f s).1∧∃acs',S'=S.set k ⟨3,[rdC bs (B1 bs f s).2],acs'⟩) (.ptr k 0) (.ptr k0 0) (.int .i64 ((s.1+f.size:Nat):Int)) v51 S1)∨¬(f.may n=false∧f.size<8):=by
  by_cases hc:f.may n=false∧f.size<8
  ·left
   have h56:=c7D hc.2
   have hnu:n=u:=by rw[hn];exact g9 (by omega) (by omega)
   rw[c5i,oD,g9 (by omega) (by omega),c5b _ _ _ _ (by omega),oD]
   have e1:min (8*(f.size:Int)).toNat IntKind.i64.bits=8*f.size:=by
    have:IntKind.i64.bits=64:=rfl
    omega
   have e2:(1:Int)*2^(8*f.size)=((2^(8*f.size):Nat):Int):=by rw[Int.one_mul];exact_mod_cast rfl
   rw[e1,e2,g9 (by omega) (by omega),a3V,oD,g9 (by omega) (by omega)]
   refine tail _ ⟨by omega,by omega⟩ ?_
   rw[if_pos hc]
   congr 1
  ·exact .inr hc
 cases hmn:f.may n with
 |true=>
  simp only[Bool.not_true,wdB,vdF,oD,pdB,Bool.false_eq_true,if_false,cdF,show((false==true)=false) from rfl]
  exact tail n hn64 (by rw[if_neg (by rw[hmn];simp)])
 |false=>
  simp only[Bool.not_false,wdB,vdT,oD,pdB,if_true,show((true==true)=true) from rfl,m0,V6,e8]
  rw[cdI]
  refine⟨fun h=> ?_,fun h=> ?_⟩
  ·exact key.resolve_right fun hc=>hc ⟨hmn,h⟩
  ·exact tail n hn64 (by rw[if_neg (fun hc=>h hc.2)])
end
end
section
def zC:List D:=[.int .u8 0, .int .i64 0, .int .i64 0, .nilSlc]
def P9(op a b:Int)(t:D):List D:=[.int .u8 op, .int .i64 a, .int .i64 b,t]
def b6G(r:Dat×(Nat×Int))(t:D):D:= .tup [.agg (P9 r.1.1 r.1.2.1 r.1.2.2.1 t), .int .i64 (r.2.1:Int), .int .i64 r.2.2]
section
variable{E:d6}{w0:i5}
theorem c0Y{Q:D→b4→Prop}{S:b4}{k4 k7 k10:Nat}{c4:List D}{op a b:Int}{t:D}{bs:List Int}{s:Nat×Int}(h4:I1 S k4 4 c4)(h7:I1 S k7 4 (P9 op a b t))(h10:I1 S k10 3 (rdC bs s))(l4:c4.length=4)(ht:s6 t=some [t])
  (hQ:∀S',(∀j,j≠k4→S' j=S j)→b9 E Q (if s.2=0 then .tup [.agg (P9 op a b t), .int .i64 (s.1:Int), .int .i64 0]else .tup [.agg zC, .int .i64 0, .int .i64 s.2]) S'):L4 E w0 (b9 E Q) (.ptr k4 0) (.ptr k7 0) (.ptr k10 0) S:=by
 refine a7W ?_
 unfold a5q
 have e410:k10≠k4:=h10.ne h4 (by decide)
 have ld2:(rdC bs s)[2]? =some (.int .i64 s.2):=rfl
 have ld1:(rdC bs s)[1]? =some (.int .i64 (s.1:Int)):=rfl
 simp only[ndP,ofP,oD,Nat.zero_add,h10.ld,ld2,ld1,a9f,fiN,agS]
 rw[c1J,cdI]
 refine⟨fun he=> ?_,fun he=> ?_⟩
 ·refine h4.st (clA _) ⟨rfl,by decide,by omega⟩ fun a4=>⟨by rw[fwP,b4.set_ne _ _ _ e410], ?_⟩
  have hs:o5 c4 0 [D.int .u8 0, .int .i64 0, .int .i64 0, .nilSlc]=zC:=by
   match c4,l4 with
   | [_,_,_,_],_=>rfl
  rw[hs,(I1.new).all (n:=4) (by decide) rfl,oD]
  have:=hQ (S.set k4 ⟨4,[zC],a4⟩) (fun j hj=>b4.set_ne _ _ _ hj)
  rw[if_neg he]at this
  exact this
 ·rw[h7.all (n:=4) (by decide) rfl,oD]
  refine h4.st (ds:=P9 op a b t) (clA _) ⟨rfl,by decide,by omega⟩ fun a4=>⟨by rw[fwP,b4.set_ne _ _ _ e410], ?_⟩
  have hs:o5 c4 0 (P9 op a b t)=P9 op a b t:=by
   match c4,l4 with
   | [_,_,_,_],_=>rfl
  rw[hs,(I1.new).all (n:=4) (by decide) rfl,oD]
  have:=hQ (S.set k4 ⟨4,[P9 op a b t],a4⟩) (fun j hj=>b4.set_ne _ _ _ hj)
  rw[if_pos (Classical.not_not.1 he)]at this
  exact this
structure N9 (S:b4) (k4 k7 k10:Nat) (c7:List D) (bs:List Int) (s:Nat×Int) (S':b4):Prop where
 le:S.le S'
 n4:S k4=none
 n7:S k7=none
 n10:S k10=none
 d47:k4≠k7
 h4:I1 S' k4 4 zC
 h7:I1 S' k7 4 c7
 h10:I1 S' k10 3 (rdC bs s)
section
variable{S S':b4}{k4 k7 k10:Nat}{c7:List D}{bs:List Int}{s:Nat×Int}
theorem N9.d410(h:N9 S k4 k7 k10 c7 bs s S'):k4≠k10:=h.h4.ne h.h10 (by decide)
theorem N9.d710(h:N9 S k4 k7 k10 c7 bs s S'):k7≠k10:=h.h7.ne h.h10 (by decide)
theorem N9.set7(h:N9 S k4 k7 k10 c7 bs s S'){c:List D}{a:List AV}:N9 S k4 k7 k10 c bs s (S'.set k7 ⟨4,[c],a⟩):=
 ⟨b4.le_set h.le h.n7,h.n4,h.n7,h.n10,h.d47,h.h4.set_ne h.d47,I1.new,h.h10.set_ne (Ne.symm h.d710)⟩
theorem N9.set10(h:N9 S k4 k7 k10 c7 bs s S'){s':Nat×Int}{a:List AV}:N9 S k4 k7 k10 c7 bs s' (S'.set k10 ⟨3,[rdC bs s'],a⟩):=
 ⟨b4.le_set h.le h.n10,h.n4,h.n7,h.n10,h.d47,h.h4.set_ne h.d410,h.h7.set_ne h.d710,I1.new⟩
theorem N9.new(h:N9 S k4 k7 k10 c7 bs s S'){k:Nat}{o:u7}(hk:S' k=none):N9 S k4 k7 k10 c7 bs s (S'.set k o):=
 ⟨b4.le_set h.le (b4.none_of h.le hk),h.n4,h.n7,h.n10,h.d47,h.h4.set hk,h.h7.set hk,h.h10.set hk⟩
theorem N9.of(h:N9 S k4 k7 k10 c7 bs s S'){S2:b4}(hl:S.le S2)(e:∀j∈[k4,k7,k10],S2 j=S' j):N9 S k4 k7 k10 c7 bs s S2:=
 ⟨hl,h.n4,h.n7,h.n10,h.d47,h.h4.of (e _ (by simp)),h.h7.of (e _ (by simp)),h.h10.of (e _ (by simp))⟩
end
theorem b8z.len{row:List D}{f:Fld}(h:b8z row f):row.length=2:=by obtain⟨fv,rfl,_⟩:=h;rfl
theorem c4V{row:List D}{f:Fld}(h:b8z row f):o5 [D.int .i64 0, .nilFn] 0 row=row:=by obtain⟨fv,rfl,_⟩:=h;rfl
theorem a4h{S S':b4}{k4 k7 k10:Nat}{c7:List D}{bs:List Int}{s:Nat×Int}(h:N9 S k4 k7 k10 c7 bs s S')(hb:∀b∈bs,W3 b)(hl:bs.length<2^60)(hs:s.1≤bs.length){row:List D}{f:Fld}(hf:b8z row f)(h1:1≤f.size)(h8:f.size≤8):
  r8 Try.prog E w0 t6 [.ptr k10 0, .agg row] S' fun v S2=>v= .int .i64 (B1 bs f s).1∧N9 S k4 k7 k10 c7 bs (B1 bs f s).2 S2∧∀j,j≠k10→S2 j=S' j:=by
 obtain⟨a,e⟩:=h.h10
 refine(b9p hb hl hs hf h1 h8 e).use fun v S2 ⟨e1,a',e2⟩=>⟨e1, ?_, ?_⟩
 ·rw[e2];exact h.set10
 ·rw[e2];exact fun j hj=>b4.set_ne _ _ _ hj
theorem c4Q(bs:List Int)(f:Fld)(s:Nat×Int):(B1 bs f s).1=0∨f.may (B1 bs f s).1=true:=by
 unfold B1
 split
 ·exact .inl rfl
 split
 ·exact .inl rfl
 ·split
  ·rename_i m hm
   unfold rdN at hm
   simp only[Option.ite_none_right_eq_some,Option.some.injEq]at hm
   obtain⟨h1,h2⟩:=hm
   right;rw[←h2];exact h1
  ·exact .inl rfl
theorem c5H{Q:D→b4→Prop}{S:b4}{k4 k7 k10 k13 k14:Nat}{op a:Int}{bs:List Int}{s:Nat×Int}{S':b4}(hb:∀b∈bs,W3 b)(hl:bs.length<2^30)(h:N9 S k4 k7 k10 (P9 op a 0 .nilSlc) bs s S')(hs:s.1≤bs.length)
  (h13:I1 S' k13 2 [.int .i64 4,W1 0 4294967295]) (h14:I1 S' k14 2 [.int .i64 8,a7d (IntKind.u8.wrap a)]) (n13:S k13=none) (n14:S k14=none) (d7:k7≠k13∧k7≠k14)
  (hQ:∀t S',Grw S t ((a4j bs op a s).1.2.2.2.map a0L) 2 S'→b9 E Q (if(a4j bs op a s).2.2=0 then .tup [.agg (P9 op a (a4j bs op a s).1.2.2.1 t), .int .i64 ((a4j bs op a s).2.1:Int), .int .i64 0]else .tup [.agg zC, .int .i64 0, .int .i64 (a4j bs op a s).2.2]) S'):
  k9 E w0 (b9 E Q) (.ptr k4 0) (.ptr k7 0) (.ptr k10 0) (.ptr k13 0) (.ptr k14 0) S':=by
 refine a8H ?_
 unfold a5s
 refine B8.use ?_
 rw[a2N (a9M _ _),oD]
 have hl60:bs.length<2^60:=by omega
 refine(a4h h hb hl60 hs (row:=[.int .i64 2,W1 0 65535]) (f:=fIx) ⟨_,rfl,b2D.bet _ _⟩ (by decide) (by decide)).use ?_
 rintro v S2 ⟨rfl,h2,ke⟩
 have hs2:=b6t (f:=fIx) hs
 have hn0:0≤(B1 bs fIx s).1∧(B1 bs fIx s).1≤65535:=by
  rcases c4Q bs fIx s with h|h
  ·omega
  ·exact of_decide_eq_true h
 have e13:k13≠k10:=h13.ne h.h10 (by decide)
 have e14:k14≠k10:=h14.ne h.h10 (by decide)
 have h13:=h13.of (ke _ e13)
 have h14:=h14.of (ke _ e14)
 obtain⟨N,hN⟩:∃N:Nat,(B1 bs fIx s).1=(N:Int):=⟨(B1 bs fIx s).1.toNat,by omega⟩
 have hdec:a4j bs op a s=((op,a,(B1 bs F4 (G5 bs (IntKind.u8.wrap a) N (B1 bs fIx s).2 []).2).1,(G5 bs (IntKind.u8.wrap a) N (B1 bs fIx s).2 []).1),(B1 bs F4 (G5 bs (IntKind.u8.wrap a) N (B1 bs fIx s).2 []).2).2):=by
  unfold a4j;rw[hN];rfl
 rw[hN]
 refine a9C (I:=fun n x4 x7 x10 x13 x14 x15 T=>x4= .ptr k4 0∧x7= .ptr k7 0∧x10= .ptr k10 0∧x13= .ptr k13 0∧x14= .ptr k14 0∧x15= .int .i64 (n:Int)∧n≤N∧∃(s':Nat×Int) (acc:List (Int×Int)) (t:D),N9 S k4 k7 k10 (P9 op a 0 t) bs s' T∧s'.1≤bs.length∧
   I1 T k13 2 [.int .i64 4,W1 0 4294967295]∧I1 T k14 2 [.int .i64 8,a7d (IntKind.u8.wrap a)]∧Z1 S [k4,k7,k10,k13,k14] t (acc.map a0L) 2 T∧acc.length+n=N∧G5 bs (IntKind.u8.wrap a) n s' acc=G5 bs (IntKind.u8.wrap a) N (B1 bs fIx s).2 []) ?_ (n:=N)
  ⟨rfl,rfl,rfl,rfl,rfl,rfl,Nat.le_refl _,_,[], .nilSlc,h2,hs2,h13,h14,Z1.nil,by simp,rfl⟩
 rintro n _ _ _ _ _ _ T ⟨rfl,rfl,rfl,rfl,rfl,rfl,hnN,s',acc,t,hd,hs',g13,g14,hg,hacc,hrd⟩
 unfold a2Q
 have ld2:c9 T (.ptr k10 2)=some (.int .i64 s'.2):=hd.h10.ld 2
 have fin:(n=0∨s'.2≠0)→(b5 (s8 T 2 (.ptr k13 0)) fun v107=>r8 Try.prog E w0 t6 [.ptr k10 0,v107] T fun v108 S109=>b5 (t8 2 (.ptr k7 0)) fun v110=>j4 S109 1 v110 v108 fun v111 S112=>L4 E w0 (b9 E Q) (.ptr k4 0) (.ptr k7 0) (.ptr k10 0) S112):=fun hend=>by
  have hrd':G5 bs (IntKind.u8.wrap a) N (B1 bs fIx s).2 []=(acc,s'):=by
   rw[←hrd]
   rcases hend with rfl|h
   ·rfl
   ·exact b4O h
  rw[hrd']at hdec
  rw[g13.all (n:=2) (by decide) rfl,oD]
  refine(a4h hd hb hl60 hs' (row:=[.int .i64 4,W1 0 4294967295]) (f:=F4) ⟨_,rfl,b2D.bet _ _⟩ (by decide) (by decide)).use ?_
  rintro v T2 ⟨rfl,hd2,ke2⟩
  rw[ofP,oD]
  refine hd2.h7.st (clI _ _) ⟨rfl,by decide,by simp[P9]⟩ fun a7=> ?_
  have hd3:=hd2.set7 (c:=P9 op a (B1 bs F4 s').1 t) (a:=a7)
  have hg3:Z1 S [k4,k7,k10,k13,k14] t (acc.map a0L) 2 (T2.set k7 ⟨4,[P9 op a (B1 bs F4 s').1 t],a7⟩):=(hg.of fun k o hk e=>by rw[ke2 k (fun e=>hk (by simp[e]))];exact e).set (.inl (by simp))
  refine c0Y hd3.h4 hd3.h7 hd3.h10 rfl hg.cells fun S'' hS''=> ?_
  have hg4:Z1 S [k4,k7,k10,k13,k14] t (acc.map a0L) 2 S'':=hg3.of fun k o hk e=>by rw[hS'' k (fun e=>hk (by simp[e]))];exact e
  have hle:S.le S'':=fun j o e=>by rw[hS'' j (fun e'=>by rw[e',hd.n4]at e;cases e)];exact hd3.le _ _ e
  obtain⟨S3,l3,g3⟩:=hg4.grw hle
  refine b9.less l3 ?_
  have:=hQ t S3 (by rw[hdec];exact g3)
  rw[hdec]at this
  exact this
 simp only[b2q,oD,ndP,ofP,Nat.zero_add,ld2,a7j]
 by_cases h0:n=0
 ·subst h0
  simp only[Int.natCast_zero,gt_iff_lt,Int.lt_irrefl,decide_false,wdB,vdF,oD,pdB,Bool.false_eq_true,if_false,cdF,show((false==true)=false) from rfl]
  exact fin (.inl rfl)
 have hpos:decide ((n:Int)>0)=true:=decide_eq_true (by omega)
 simp only[hpos,wdB,vdT,oD,pdB,if_true,show((true==true)=true) from rfl,ndP,ofP,Nat.zero_add,ld2,a7j]
 rw[cdB]
 refine⟨fun h0'=> ?_,fun h0'=> ?_⟩
 ·have hs0:s'.2=0:=by simpa using h0'
  rw[g14.all (n:=2) (by decide) rfl,oD]
  refine(a4h hd hb hl60 hs' (row:=[.int .i64 8,a7d (IntKind.u8.wrap a)]) (f:=vF (IntKind.u8.wrap a)) ⟨_,rfl,b2D.fit _⟩ (by show 1≤8;decide) (by show 8≤8;decide)).use ?_
  rintro v T2 ⟨rfl,hd2,ke2⟩
  have hs2':=b6t (f:=vF (IntKind.u8.wrap a)) hs'
  have f13:=g13.of (ke2 _ e13)
  have f14:=g14.of (ke2 _ e14)
  have ld3:c9 T2 (.ptr k7 3)=some t:=hd2.h7.ld 3
  rw[ld3,oD]
  rw[f13.all (n:=2) (by decide) rfl,oD]
  refine(a4h hd2 hb hl60 hs2' (row:=[.int .i64 4,W1 0 4294967295]) (f:=F4) ⟨_,rfl,b2D.bet _ _⟩ (by decide) (by decide)).use ?_
  rintro v T3 ⟨rfl,hd3,ke3⟩
  have k7e:T3 k7=T2 k7:=ke3 _ hd.d710
  refine⟨by rw[fwP,k7e], ?_⟩
  have hfa:E4 (s9 [D.int .i64 0, .int .i64 0] [(0,1, .int .i64 (B1 bs (vF (IntKind.u8.wrap a)) s').1),(1,1, .int .i64 (B1 bs F4 (B1 bs (vF (IntKind.u8.wrap a)) s').2).1)])=some (.agg (a0L ((B1 bs (vF (IntKind.u8.wrap a)) s').1,(B1 bs F4 (B1 bs (vF (IntKind.u8.wrap a)) s').2).1))):=rfl
  rw[hfa,oD]
  refine I8 (rows:=[a0L _]) rfl ⟨by rw[fwP,k7e], ?_⟩
  have hg2:Z1 S [k4,k7,k10,k13,k14] t (acc.map a0L) 2 T2:=hg.of fun k o hk e=>by rw[ke2 k (fun e=>hk (by simp[e]))];exact e
  have hg3:Z1 S [k4,k7,k10,k13,k14] t (acc.map a0L) 2 T3:=hg2.of fun k o hk e=>by rw[ke3 k (fun e=>hk (by simp[e]))];exact e
  have q13:=f13.of (ke3 _ e13)
  have q14:=f14.of (ke3 _ e14)
  refine hg3.push hd3.le (fun j hj=> ?_) (news:=[a0L ((B1 bs (vF (IntKind.u8.wrap a)) s').1,(B1 bs F4 (B1 bs (vF (IntKind.u8.wrap a)) s').2).1)]) (by simp[rowsS,E0]) (by simp) (by simp;omega) fun t' T4 hle4 he4 hg4=> ?_
  ·simp only[List.mem_cons,List.not_mem_nil,or_false]at hj
   rcases hj with rfl|rfl|rfl|rfl|rfl
   ·exact hd3.h4.there
   ·exact hd3.h7.there
   ·exact hd3.h10.there
   ·exact q13.there
   ·exact q14.there
  have hd4:N9 S k4 k7 k10 (P9 op a 0 t) bs _ T4:=hd3.of hle4 fun j hj=>he4 j (by simp only[List.mem_cons,List.not_mem_nil,or_false]at hj ⊢;rcases hj with rfl|rfl|rfl<;>simp)
  refine hd4.h7.st (hg4.cells) ⟨rfl,by decide,by simp[P9]⟩ fun a7=> ?_
  rw[a3V,oD,g9 (by omega) (by omega)]
  obtain⟨m,rfl⟩:∃m,n=m+1:=⟨n - 1,by omega⟩
  rw[G5,if_neg (by simpa using hs0)]at hrd
  refine⟨m,by omega,by trivial,by trivial,by trivial,by trivial,by trivial,by congr 1;omega,by omega,_,acc++[_],t',hd4.set7 (c:=P9 op a 0 t'),b6t hs2', ?_, ?_, ?_,by simp;omega,hrd⟩
  ·exact(q13.of (he4 _ (by simp))).set_ne (Ne.symm d7.1)
  ·exact(q14.of (he4 _ (by simp))).set_ne (Ne.symm d7.2)
  ·rw[List.map_append]
   exact hg4.set (.inl (by simp))
 ·exact fin (.inr (by simpa using h0'))
end
end
end Go.Proofs.Ytdkidgkiplcggaa.d
end
