/-
  BlocksJoinSaid: part Oau of its proof.
-/
import Derived.Test.YtdkidgkiplcggaaRows
import Derived.Test.YtdkidgkiplcggaaOar
import Derived.KernelRfl
import Derived.Test.YtdkidgkiplcggaaOat
set_option linter.unusedVariables false
set_option linter.unusedSimpArgs false
set_option maxRecDepth 100000
section
open Go.Proofs Go Go.Am
namespace Go.Proofs.Ytdkidgkiplcggaa.d
def a0F:List (Nat×List Nat):=[(8,[0,1,5])]
def a0G:List (Nat×List Nat):=[]
def a0K:List (Nat×Arr):=[]
noncomputable def a0b:Code:=(j4 [1,1,0,1,0,0] (Try.f19.body.getD .skip))
def Z8(E:d6)(w0:i7)(Q:D→b5→Prop):j7→List D→b5→Prop:=
 (A4 0 (a1O Try.prog E w0 a0F a0G a0K (j4 [1,1,1] (Try.f19.body.getD .skip)) (R5 Try.prog Try.f19 Q)))
def Y8(E:d6)(w0:i7)(N0:D→D→D→b5→Prop)(Q:D→b5→Prop)(x0 x1 x5:D)(S:b5):Prop:=
 a8 (j8 x0) fun v3=>
 a8 (d4 .lss x5 v3) fun v4=>
 d9 v4
 (a8 (m9 1 x0 x5) fun v5=>
 a8 (c9 S v5) fun v6=>
 a8 (m9 1 x1 x5) fun v7=>
 a8 (c9 S v7) fun v8=>
 a8 (d4 .neq v6 v8) fun v9=>
 d9 v9
 (Q (.bool false) S)
 (a8 (d4 .add x5 (.int .i64 1)) fun v10=>
 N0 x0 x1 v10 S))
 (Q (.bool true) S)
theorem a6l{E:d6}{w0:i7}{N0:D→D→D→b5→Prop}{Q:D→b5→Prop}{x0 x1 x5:D}{S:b5}(h:Y8 E w0 N0 Q x0 x1 x5 S):
  d5 Try.prog E w0 a0b (g8 26 [0,1,5] [x0,x1,x5]) S (I4 (fun T S=>N0 (T.getD 0 b6) (T.getD 1 b6) (T.getD 5 b6) S) (Z8 E w0 Q)):=f9 a0F a0G a0K mixed (by kernel_rfl) h
theorem a6i{E:d6}{w0:i7}{Q:D→b5→Prop}(I:Nat→D→D→D→b5→Prop)
  (step:∀n x0 x1 x5 S,I n x0 x1 x5 S→Y8 E w0 (fun x0 x1 x5 S=>∃m,m<n∧I m x0 x1 x5 S) Q x0 x1 x5 S)
  {n:Nat} {x0 x1 x5:D} {S:b5} (h:I n x0 x1 x5 S):d5 Try.prog E w0 (.loop a0b) (g8 26 [0,1,5] [x0,x1,x5]) S (Z8 E w0 Q):=
 t8 (k:=26) (n:=n) (I:=fun n T S=>I n (T.getD 0 b6) (T.getD 1 b6) (T.getD 5 b6) S) (fun n T S hl hI=>z7 [0,1,5] hl (d5.mono (a6l (step n _ _ _ S hI)) fun ex T' S' _ hq=>by cases ex<;>exact hq)) (j0 ..) (Eq.mp (by kernel_rfl) h)
def a4H(E:d6)(w0:i7)(Q:D→b5→Prop)(a0 a1:D)(S:b5):Prop:=
 a8 (j8 a0) fun v0=>
 a8 (j8 a1) fun v1=>
 a8 (d4 .neq v0 v1) fun v2=>
 d9 v2
 (Q (.bool false) S)
 (d5 Try.prog E w0 (.loop a0b) (g8 26 [0,1,5] [a0,a1,(.int .i64 0)]) S (Z8 E w0 Q))
theorem a7u{E:d6}{w0:i7}{Q:D→b5→Prop}{a0 a1:D}{S:b5}(h:a4H E w0 (b8 E Q) a0 a1 S):r7 Try.prog E w0 C4 [a0,a1] S Q:=
 q9 a0F a0G a0K (fn:=Try.f19) (c:=Try.f19.body.getD .skip) mixed Try.func19 (by kernel_rfl) (by kernel_rfl) h
end Go.Proofs.Ytdkidgkiplcggaa.d
end
section
open Go.Proofs Go Go.Am Go.Op
namespace Go.Proofs.Ytdkidgkiplcggaa.d
section
def iC(l:List Int):List (List D):=U6 (l.map (D.int .i64))
def iD(l:List Int):D:= .lst (iC l) 1
@[simp] theorem i4(l:List Int):(iC l).length=l.length:=by simp[iC]
theorem c1F{l:List Int}{i:Nat}{n:Int}(h:l[i]? =some n):(iC l)[i]? =some [.int .i64 n]:=b6o (by rw[List.getElem?_map,h];rfl)
theorem a5a{l:List Int}{i:Nat}{n:Int}(h:l[i]? =some n):m9 1 (iD l) (.int .i64 (i:Int))=some (.elt [.int .i64 n] 0):=b5F (c1F h)
@[simp] theorem a3T(l:List Int):j8 (iD l)=some (.int .i64 l.length):=by simp[iD]
@[simp] theorem c5L(S:b5)(l:List Int):rowsS S 1 (iD l)=some (iC l):=by simp[iD,rowsS,E7]
theorem a0d(a b:List Int):iC (a++b)=iC a++iC b:=by simp[iC,U6]
section
variable{E:d6}{w0:i7}
theorem a0M{a b:List Int}(hl:a.length<2^60)(hb:b.length<2^60):a0X Try.prog E w0 C4 [iD a,iD b] (.bool (decide (a=b))):=fun S=>by
 refine a7u ?_
 unfold a4H
 simp only[a3T,oD,b1B]
 have e:((a.length:Int) != b.length)=decide (a.length≠b.length):=by
  by_cases h:a.length=b.length<;>simp[h,bne]
  intro h';exact h (by omega)
 rw[e,cdI]
 refine⟨fun h=> ?_,fun h=> ?_⟩
 ·rw[decide_eq_false (fun e=>h (by rw[e]))]
  exact b8.pure
 have h:a.length=b.length:=by omega
 refine a6i (I:=fun n x0 x1 x5 S'=>S'=S∧x0=iD a∧x1=iD b∧∃i:Nat,x5= .int .i64 (i:Int)∧i+n=a.length∧a.take i=b.take i) ?_ (n:=a.length) ⟨rfl,rfl,rfl,0,rfl,by omega,rfl⟩
 rintro n _ _ _ _ ⟨rfl,rfl,rfl,i,rfl,hi,ht⟩
 unfold Y8
 simp only[a3T,oD,a3K]
 rw[cdI]
 refine⟨fun hlt=> ?_,fun hge=> ?_⟩
 ·have hlt:i<a.length:=by omega
  have ea:a[i]? =some a[i]:=List.getElem?_eq_getElem hlt
  have eb:b[i]? =some b[i]:=List.getElem?_eq_getElem (by omega)
  simp only[a5a ea,a5a eb,oD,lsE,List.getElem?_cons_zero,b1B]
  have e:(a[i] != b[i])=decide (a[i]≠b[i]):=by by_cases h:a[i]=b[i]<;>simp[h,bne]
  rw[e,cdI]
  refine⟨fun hne=> ?_,fun he=> ?_⟩
  ·rw[decide_eq_false (fun e=>hne (by simp only[e]))]
   exact b8.pure
  ·rw[J8,oD,g9 (by omega) (by omega)]
   refine⟨n - 1,by omega,by trivial,by trivial,by trivial,i+1,rfl,by omega, ?_⟩
   rw[List.take_add_one,List.take_add_one,ht,ea,eb,Classical.not_not.1 he]
 ·rw[List.take_of_length_le (by omega),List.take_of_length_le (by omega)]at ht
  rw[decide_eq_true ht]
  exact b8.pure
end
end
section
@[simp] theorem c4S(S:b5)(arms:List (Int×Int)):rowsS S 2 (b2i arms)=some (arms.map Z5):=by simp[b2i,rowsS,E7]
theorem c2I(a b:Int):(a != b)=decide (a≠b):=by by_cases h:a=b<;>simp[h,bne]
section
variable{E:d6}{w0:i7}
end
end
section
abbrev Tx:=List UInt8
structure Ty where
 kind:Int
 name:Tx
 fields:List (Tx×Int)
 elem:Int
 len:Int
 deriving DecidableEq
structure Ro where
 name:Tx
 params:List Int
 results:List Int
 locals:Int
 stack:Int
 code:List Int
 deriving DecidableEq
structure Mo where
 types:List Ty
 texts:List Tx
 funcs:List Ro
 deriving DecidableEq
structure Ty.Ok (t:Ty):Prop where
 kind:0≤t.kind∧t.kind≤255
 name:t.name.length<2^47
 fields:t.fields.length<2^47
 names:∀f∈t.fields,f.1.length<2^47∧I64 f.2
 elem:I64 t.elem
 len:I64 t.len
structure Ro.Ok (r:Ro):Prop where
 name:r.name.length<2^47
 params:r.params.length<2^47
 results:r.results.length<2^47
 ints:∀n∈r.params++r.results,I64 n
 locals:I64 r.locals
 stack:I64 r.stack
 code:r.code.length<2^47
 bytes:∀b∈r.code,J5 b
structure Mo.Ok (m:Mo):Prop where
 types:m.types.length<2^47
 texts:m.texts.length<2^47
 funcs:m.funcs.length<2^47
 ty:∀t∈m.types,t.Ok
 tx:∀t∈m.texts,t.length<2^47
 ro:∀r∈m.funcs,r.Ok
def c3i(f:Tx×Int):List D:=[.str f.1, .int .i64 f.2]
def b6F(fs:List (Tx×Int)):D:= .lst (fs.map c3i) 2
def tyR(t:Ty):List D:=[.int .u8 t.kind, .str t.name,b6F t.fields, .int .i64 t.elem, .int .i64 t.len]
def c5f(l:List Ty):D:= .lst (l.map tyR) 5
def c3m(l:List Tx):D:= .lst (U6 (l.map D.str)) 1
def roR(r:Ro):List D:=[.str r.name,iD r.params,iD r.results, .int .i64 r.locals, .int .i64 r.stack,bD r.code]
def c5g(l:List Ro):D:= .lst (l.map roR) 6
@[simp] theorem c4T(l:List (Tx×Int)):j8 (b6F l)=some (.int .i64 l.length):=by simp[b6F]
@[simp] theorem c5x(l:List Ty):j8 (c5f l)=some (.int .i64 l.length):=by simp[c5f]
@[simp] theorem c5n(l:List Tx):j8 (c3m l)=some (.int .i64 l.length):=by simp[c3m]
@[simp] theorem c5y(l:List Ro):j8 (c5g l)=some (.int .i64 l.length):=by simp[c5g]
@[simp] theorem c6v(S:b5)(p:Tx×Int):s0 S 2 (.elt (c3i p) 0)=some (.agg (c3i p)):=(rfl)
@[simp] theorem c6H(S:b5)(p:Ty):s0 S 5 (.elt (tyR p) 0)=some (.agg (tyR p)):=(rfl)
@[simp] theorem c6I(S:b5)(p:Ro):s0 S 6 (.elt (roR p) 0)=some (.agg (roR p)):=(rfl)
theorem a8n(k:IntKind)(a b:Int):d4 .neq (.int k a) (.int k b)=some (.bool (decide (a≠b))):=by rw[b1B,c2I]
theorem b0j(k:IntKind)(a b:Int):d4 .eql (.int k a) (.int k b)=some (.bool (decide (a=b))):=by rw[a6c,c5e]
section
variable{E:d6}{w0:i7}
theorem t1:(true==false)=false:=rfl
theorem t2:(false==false)=true:=rfl
theorem t3:(false==true)=false:=rfl
theorem t4:(true==true)=true:=rfl
end
end
end Go.Proofs.Ytdkidgkiplcggaa.d
end
section
open Go.Proofs Go Go.Am
namespace Go.Proofs.Ytdkidgkiplcggaa.d
def a1S:List (Nat×List Nat):=[]
def a1Z:List (Nat×List Nat):=[(20,[0,3,6,8])]
def a1q:List (Nat×Arr):=[]
noncomputable def a4K:Code:=(j4 [1,1,1,1,1,1] (Try.f61.body.getD .skip))
def a4o(E:d6)(w0:i7)(Q:D→b5→Prop):j7→List D→b5→Prop:=
 (R5 Try.prog Try.f61 Q)
def a0B(E:d6)(w0:i7)(Q:D→b5→Prop)(x0 x3 x6 x8:D)(S:b5):Prop:=
 a8 (t6 1 x3) fun v25=>
 a8 (c9 S v25) fun v26=>
 a4G Try.prog (r7 Try.prog E w0) S v26 [x8] fun v27 S28=>
 a8 (unD .not v27) fun v29=>
 d9 v29
 (a8 (a2M x0) fun v30=>
 a8 (t6 2 v30) fun v31=>
 j1 S28 1 v31 (.int .i64 120) fun v32 S33=>
 Q (.int .i64 0) S33)
 (a8 (a2M x0) fun v34=>
 a8 (t6 1 v34) fun v35=>
 j1 S28 1 v35 x6 fun v36 S37=>
 Q x8 S37)
def C5(E:d6)(w0:i7)(Q:D→b5→Prop)(x0 x3 x6 x8:D)(S:b5):Prop:=d5 Try.prog E w0 a4K (g8 65 [0,3,6,8] [x0,x3,x6,x8]) S (a4o E w0 Q)
theorem a3k{E:d6}{w0:i7}{Q:D→b5→Prop}{x0 x3 x6 x8:D}{S:b5}(h:a0B E w0 Q x0 x3 x6 x8 S):C5 E w0 Q x0 x3 x6 x8 S:=f9 a1S a1Z a1q mixed (by kernel_rfl) h
def a2i(E:d6)(w0:i7)(Q:D→b5→Prop)(a0 a1:D)(S:b5):Prop:=
 a8 (r5 a1) fun cs=>o8 S cs fun v0 S1=>
 a8 (a2M a0) fun v2=>
 a8 (t6 2 v2) fun v3=>
 a8 (c9 S1 v3) fun v4=>
 a8 (d4 .neq v4 (.int .i64 0)) fun v5=>
 d9 v5
 (Q (.int .i64 0) S1)
 (a8 (a2M a0) fun v6=>
 a8 (t6 0 v6) fun v7=>
 a8 (c9 S1 v7) fun v8=>
 a8 (a2M a0) fun v9=>
 a8 (t6 1 v9) fun v10=>
 a8 (c9 S1 v10) fun v11=>
 a8 (t6 0 v0) fun v12=>
 a8 (c9 S1 v12) fun v13=>
 r7 Try.prog E w0 a4N [v8,v11,v13] S1 fun v14 S15=>
 a8 (m6 v14 0) fun v16=>
 a8 (m6 v14 1) fun v17=>
 a8 (m6 v14 2) fun v18=>
 a8 (d4 .neq v18 (.int .i64 0)) fun v19=>
 d9 v19
 (a8 (a2M a0) fun v20=>
 a8 (t6 2 v20) fun v21=>
 j1 S15 1 v21 (.int .i64 10) fun v22 S23=>
 Q (.int .i64 0) S23)
 (a8 (U4 .i64 v16) fun v24=>
 a8 (t6 1 v0) fun v38=>
 a8 (c9 S15 v38) fun v39=>
 a4G Try.prog (r7 Try.prog E w0) S15 v39 [v24] fun v40 S41=>
 a8 (unD .not v40) fun v42=>
 a8 (c8 (b7 v42 true) (t6 0 v0)) fun v43=>
 a8 (c8 (b7 v42 true) (c9 S41 v43)) fun v44=>
 a8 (c8 (b7 v42 true) (d4 .lss v44 (.int .i64 8))) fun v45=>
 a8 (F5 v42 v45 (.bool false)) fun v46=>
 d9 v46
 (a8 (t6 0 v0) fun v47=>
 a8 (c9 S41 v47) fun v48=>
 a8 (d4 .mul (.int .i64 8) v48) fun v49=>
 a8 (d4 .shl (.int .i64 1) v49) fun v50=>
 a8 (d4 .sub v24 v50) fun v51=>
 C5 E w0 Q a0 v0 v17 v51 S41)
 (C5 E w0 Q a0 v0 v17 v24 S41)))
theorem a4U{E:d6}{w0:i7}{Q:D→b5→Prop}{a0 a1:D}{S:b5}(h:a2i E w0 (b8 E Q) a0 a1 S):r7 Try.prog E w0 r9 [a0,a1] S Q:=
 q9 a1S a1Z a1q (fn:=Try.f61) (c:=Try.f61.body.getD .skip) mixed Try.func61 (by kernel_rfl) (by kernel_rfl) h
def I0:List (Nat×List Nat):=[(18,[4,7,10,45,46,47]),(36,[4,7,10,13,14,15])]
def H9:List (Nat×List Nat):=[(34,[4,7,10,13,14]),(46,[4,7,10])]
def I2:List (Nat×Arr):=[(16,(.node 0 7 (.node 0 8 (.node 5 7 (.node 5 8 (.node 7 8 (.leaf [2,3,4,0,1,5,6,7,8,9,10]) (.leaf [2,3,4,0,1,5,6,8,7,9,10])) (.leaf [2,3,4,0,1,8,5,6,7,9,10])) (.node 5 8 (.leaf [2,3,4,0,1,7,5,6,8,9,10]) (.node 7 8 (.leaf [2,3,4,0,1,7,8,5,6,9,10]) (.leaf [2,3,4,0,1,8,7,5,6,9,10])))) (.node 5 7 (.leaf [2,3,4,8,0,1,5,6,7,9,10]) (.leaf [2,3,4,8,0,1,7,5,6,9,10]))) (.node 0 8 (.node 5 8 (.leaf [2,3,4,7,0,1,5,6,8,9,10]) (.leaf [2,3,4,7,0,1,8,5,6,9,10])) (.node 7 8 (.leaf [2,3,4,7,8,0,1,5,6,9,10]) (.leaf [2,3,4,8,7,0,1,5,6,9,10])))))]
noncomputable def a0I:Code:=(j4 [1,1,1,1,1,1,1,1] (Try.f44.body.getD .skip))
def a8I(E:d6)(w0:i7)(Q:D→b5→Prop):j7→List D→b5→Prop:=
 (R5 Try.prog Try.f44 Q)
def a3Z(E:d6)(w0:i7)(Q:D→b5→Prop)(x4 x7 x10:D)(S:b5):Prop:=
 a8 (a2M x10) fun v57=>
 a8 (t6 2 v57) fun v58=>
 a8 (c9 S v58) fun v59=>
 a8 (d4 .neq v59 (.int .i64 0)) fun v60=>
 d9 v60
 (a8 (E2 (r8 [(.int .u8 0),(.int .i64 0),(.int .i64 0), .nilSlc] [])) fun v61=>
 a8 (a2M x10) fun v62=>
 a8 (t6 2 v62) fun v63=>
 a8 (c9 S v63) fun v64=>
 j1 S 4 x4 v61 fun v65 S66=>
 B1 v63 S S66∧a8 (s0 S66 4 x4) fun v67=>Q (.tup [v67,(.int .i64 0),v64]) S66)
 (a8 (s0 S 4 x7) fun v68=>
 a8 (a2M x10) fun v69=>
 a8 (t6 1 v69) fun v70=>
 a8 (c9 S v70) fun v71=>
 j1 S 4 x4 v68 fun v72 S73=>
 B1 v70 S S73∧a8 (s0 S73 4 x4) fun v74=>Q (.tup [v74,v71,(.int .i64 0)]) S73)
def L1(E:d6)(w0:i7)(Q:D→b5→Prop)(x4 x7 x10:D)(S:b5):Prop:=d5 Try.prog E w0 a0I (g8 120 [4,7,10] [x4,x7,x10]) S (a8I E w0 Q)
theorem a7m{E:d6}{w0:i7}{Q:D→b5→Prop}{x4 x7 x10:D}{S:b5}(h:a3Z E w0 Q x4 x7 x10 S):L1 E w0 Q x4 x7 x10 S:=f9 I0 H9 I2 mixed (by kernel_rfl) h
noncomputable def a2a:Code:=(j4 [1,1,1,1,1,1,1,0,1,0,1,0,1,0,0] (Try.f44.body.getD .skip))
def a1H(E:d6)(w0:i7)(Q:D→b5→Prop):j7→List D→b5→Prop:=
 (A4 2 (a1O Try.prog E w0 I0 H9 I2 (j4 [1,1,1,1,1,1,1,0,1,0,1,1] (Try.f44.body.getD .skip)) (b8Q Try.prog E w0 120 [4,7,10] a0I (R5 Try.prog Try.f44 Q))))
def a1l(E:d6)(w0:i7)(N1:D→D→D→D→D→D→b5→Prop)(Q:D→b5→Prop)(x4 x7 x10 x13 x14 x15:D)(S:b5):Prop:=
 a8 (d4 .gtr x15 (.int .i64 0)) fun v83=>
 a8 (c8 (b7 v83 true) (some x10)) fun v84=>
 a8 (c8 (b7 v83 true) (a2M v84)) fun v85=>
 a8 (c8 (b7 v83 true) (t6 2 v85)) fun v86=>
 a8 (c8 (b7 v83 true) (c9 S v86)) fun v87=>
 a8 (c8 (b7 v83 true) (d4 .eql v87 (.int .i64 0))) fun v88=>
 a8 (F5 v83 v88 (.bool false)) fun v89=>
 d9 v89
 (a8 (s0 S 2 x14) fun v90=>
 r7 Try.prog E w0 r9 [x10,v90] S fun v91 S92=>
 a8 (t6 3 x7) fun v93=>
 a8 (c9 S92 v93) fun v94=>
 a8 (s0 S92 2 x13) fun v95=>
 r7 Try.prog E w0 r9 [x10,v95] S92 fun v96 S97=>
 B1 v93 S92 S97∧a8 (E2 (r8 [(.int .i64 0),(.int .i64 0)] [(0,1,v91),(1,1,v96)])) fun v98=>
 M2 S97 2 (A1 2 (List.replicate 1 [(.int .i64 0),(.int .i64 0)]) [(0,v98)]) 1 fun v99 S100=>
 B1 v93 S92 S100∧s9 S100 2 16 v94 v99 fun v101 S102=>
 a8 (t6 3 x7) fun v103=>
 j1 S102 1 v103 v101 fun v104 S105=>
 a8 (d4 .sub x15 (.int .i64 1)) fun v106=>
 N1 x4 x7 x10 x13 x14 v106 S105)
 (a8 (s0 S 2 x13) fun v107=>
 r7 Try.prog E w0 r9 [x10,v107] S fun v108 S109=>
 a8 (t6 2 x7) fun v110=>
 j1 S109 1 v110 v108 fun v111 S112=>
 L1 E w0 Q x4 x7 x10 S112)
theorem a7J{E:d6}{w0:i7}{N1:D→D→D→D→D→D→b5→Prop}{Q:D→b5→Prop}{x4 x7 x10 x13 x14 x15:D}{S:b5}(h:a1l E w0 N1 Q x4 x7 x10 x13 x14 x15 S):
  d5 Try.prog E w0 a2a (g8 120 [4,7,10,13,14,15] [x4,x7,x10,x13,x14,x15]) S (I4 (fun T S=>N1 (T.getD 4 b6) (T.getD 7 b6) (T.getD 10 b6) (T.getD 13 b6) (T.getD 14 b6) (T.getD 15 b6) S) (a1H E w0 Q)):=f9 I0 H9 I2 mixed (by kernel_rfl) h
theorem a8b{E:d6}{w0:i7}{Q:D→b5→Prop}(I:Nat→D→D→D→D→D→D→b5→Prop)
  (step:∀n x4 x7 x10 x13 x14 x15 S,I n x4 x7 x10 x13 x14 x15 S→a1l E w0 (fun x4 x7 x10 x13 x14 x15 S=>∃m,m<n∧I m x4 x7 x10 x13 x14 x15 S) Q x4 x7 x10 x13 x14 x15 S)
  {n:Nat} {x4 x7 x10 x13 x14 x15:D} {S:b5} (h:I n x4 x7 x10 x13 x14 x15 S):d5 Try.prog E w0 (.loop a2a) (g8 120 [4,7,10,13,14,15] [x4,x7,x10,x13,x14,x15]) S (a1H E w0 Q):=
 t8 (k:=120) (n:=n) (I:=fun n T S=>I n (T.getD 4 b6) (T.getD 7 b6) (T.getD 10 b6) (T.getD 13 b6) (T.getD 14 b6) (T.getD 15 b6) S) (fun n T S hl hI=>z7 [4,7,10,13,14,15] hl (d5.mono (a7J (step n _ _ _ _ _ _ S hI)) fun ex T' S' _ hq=>by cases ex<;>exact hq)) (j0 ..) (Eq.mp (by kernel_rfl) h)
noncomputable def b0t:Code:=(j4 [1,1,1,1,1,1,1,0,1,0,1] (Try.f44.body.getD .skip))
def a9g(E:d6)(w0:i7)(Q:D→b5→Prop):j7→List D→b5→Prop:=
 (b8Q Try.prog E w0 120 [4,7,10] a0I (R5 Try.prog Try.f44 Q))
def a4g(E:d6)(w0:i7)(Q:D→b5→Prop)(x4 x7 x10 x13 x14:D)(S:b5):Prop:=
 r7 Try.prog E w0 j5 [(.int .i64 0),(.int .i64 65535)] S fun v78 S79=>
 a8 (E2 (r8 [(.int .i64 0), .nilFn] [(0,1,(.int .i64 2)),(1,1,v78)])) fun v80=>
 r7 Try.prog E w0 r9 [x10,v80] S79 fun v81 S82=>
 d5 Try.prog E w0 (.loop a2a) (g8 120 [4,7,10,13,14,15] [x4,x7,x10,x13,x14,v81]) S82 (a1H E w0 Q)
def j2(E:d6)(w0:i7)(Q:D→b5→Prop)(x4 x7 x10 x13 x14:D)(S:b5):Prop:=d5 Try.prog E w0 b0t (g8 120 [4,7,10,13,14] [x4,x7,x10,x13,x14]) S (a9g E w0 Q)
theorem a6Q{E:d6}{w0:i7}{Q:D→b5→Prop}{x4 x7 x10 x13 x14:D}{S:b5}(h:a4g E w0 Q x4 x7 x10 x13 x14 S):j2 E w0 Q x4 x7 x10 x13 x14 S:=f9 I0 H9 I2 mixed (by kernel_rfl) h
noncomputable def a1Y:Code:=(j4 [1,1,1,1,1,1,0,1,0,0] (Try.f44.body.getD .skip))
def a1y(E:d6)(w0:i7)(Q:D→b5→Prop):j7→List D→b5→Prop:=
 (A4 0 (a1O Try.prog E w0 I0 H9 I2 (j4 [1,1,1,1,1,1,1] (Try.f44.body.getD .skip)) (R5 Try.prog Try.f44 Q)))
def a1n(E:d6)(w0:i7)(N0:D→D→D→D→D→D→b5→Prop)(Q:D→b5→Prop)(x4 x7 x10 x45 x46 x47:D)(S:b5):Prop:=
 a8 (d4 .lss x47 x46) fun v35=>
 d9 v35
 (a8 (m9 2 x45 x47) fun v36=>
 a8 (s0 S 2 v36) fun v37=>
 o8 S [(.int .i64 0), .nilFn] fun v38 S39=>
 j1 S39 2 v38 v37 fun v40 S41=>
 a8 (d4 .eql x47 (.int .i64 0)) fun v42=>
 d9 v42
 (a8 (s0 S41 2 v38) fun v43=>
 r7 Try.prog E w0 r9 [x10,v43] S41 fun v44 S45=>
 a8 (t6 1 x7) fun v46=>
 j1 S45 1 v46 v44 fun v47 S48=>
 a8 (d4 .add x47 (.int .i64 1)) fun v49=>
 N0 x4 x7 x10 x45 x46 v49 S48)
 (a8 (s0 S41 2 v38) fun v50=>
 r7 Try.prog E w0 r9 [x10,v50] S41 fun v51 S52=>
 a8 (t6 2 x7) fun v53=>
 j1 S52 1 v53 v51 fun v54 S55=>
 a8 (d4 .add x47 (.int .i64 1)) fun v56=>
 N0 x4 x7 x10 x45 x46 v56 S55))
 (a8 (t6 0 x7) fun v75=>
 a8 (c9 S v75) fun v76=>
 a8 (d4 .eql v76 (.int .u8 49)) fun v77=>
 d9 v77
 ((((((a8 (t6 1 x7) fun v113=>
 a8 (c9 S v113) fun v114=>
 a8 (U4 .u8 v114) fun v115=>
 r7 Try.prog E w0 j5 [(.int .i64 0),(.int .i64 4294967295)] S fun v116 S117=>
 B1 v113 S S117∧a8 (E2 (r8 [(.int .i64 0), .nilFn] [(0,1,(.int .i64 4)),(1,1,v116)])) fun v118=>
 r7 Try.prog E w0 z8 [v115] S117 fun v119 S120=>
 a8 (E2 (r8 [(.int .i64 0), .nilFn] [(0,1,(.int .i64 8)),(1,1,v119)])) fun v121=>
 o8 S120 [(.int .i64 0), .nilFn] fun v122 S123=>
 o8 S123 [(.int .i64 0), .nilFn] fun v124 S125=>
 j1 S125 2 v122 v118 fun v126 S127=>
 j1 S127 2 v124 v121 fun v128 S129=>
 j2 E w0 Q x4 x7 x10 v122 v124 S129)∧
 (a8 (t6 1 x7) fun v130=>
 a8 (c9 S v130) fun v131=>
 a8 (U4 .u8 v131) fun v132=>
 r7 Try.prog E w0 j5 [(.int .i64 0),(.int .i64 4294967295)] S fun v133 S134=>
 B1 v130 S S134∧a8 (E2 (r8 [(.int .i64 0), .nilFn] [(0,1,(.int .i64 4)),(1,1,v133)])) fun v135=>
 r7 Try.prog E w0 z8 [v132] S134 fun v136 S137=>
 a8 (E2 (r8 [(.int .i64 0), .nilFn] [(0,1,(.int .i64 8)),(1,1,v136)])) fun v138=>
 o8 S137 [(.int .i64 0), .nilFn] fun v139 S140=>
 o8 S140 [(.int .i64 0), .nilFn] fun v141 S142=>
 j1 S142 2 v141 v135 fun v143 S144=>
 j1 S144 2 v139 v138 fun v145 S146=>
 j2 E w0 Q x4 x7 x10 v141 v139 S146))∧
 (a8 (t6 1 x7) fun v147=>
 a8 (c9 S v147) fun v148=>
 a8 (U4 .u8 v148) fun v149=>
 r7 Try.prog E w0 j5 [(.int .i64 0),(.int .i64 4294967295)] S fun v150 S151=>
 B1 v147 S S151∧a8 (E2 (r8 [(.int .i64 0), .nilFn] [(0,1,(.int .i64 4)),(1,1,v150)])) fun v152=>
 o8 S151 [(.int .i64 0), .nilFn] fun v153 S154=>
 B1 v147 S S154∧r7 Try.prog E w0 z8 [v149] S154 fun v155 S156=>
 a8 (E2 (r8 [(.int .i64 0), .nilFn] [(0,1,(.int .i64 8)),(1,1,v155)])) fun v157=>
 o8 S156 [(.int .i64 0), .nilFn] fun v158 S159=>
 j1 S159 2 v158 v152 fun v160 S161=>
 j1 S161 2 v153 v157 fun v162 S163=>
 j2 E w0 Q x4 x7 x10 v158 v153 S163))∧
 ((a8 (t6 1 x7) fun v164=>
 a8 (c9 S v164) fun v165=>
 a8 (U4 .u8 v165) fun v166=>
 r7 Try.prog E w0 j5 [(.int .i64 0),(.int .i64 4294967295)] S fun v167 S168=>
 B1 v164 S S168∧a8 (E2 (r8 [(.int .i64 0), .nilFn] [(0,1,(.int .i64 4)),(1,1,v167)])) fun v169=>
 o8 S168 [(.int .i64 0), .nilFn] fun v170 S171=>
 B1 v164 S S171∧r7 Try.prog E w0 z8 [v166] S171 fun v172 S173=>
 a8 (E2 (r8 [(.int .i64 0), .nilFn] [(0,1,(.int .i64 8)),(1,1,v172)])) fun v174=>
 o8 S173 [(.int .i64 0), .nilFn] fun v175 S176=>
 j1 S176 2 v170 v169 fun v177 S178=>
 j1 S178 2 v175 v174 fun v179 S180=>
 j2 E w0 Q x4 x7 x10 v170 v175 S180)∧
 ((a8 (t6 1 x7) fun v181=>
 a8 (c9 S v181) fun v182=>
 a8 (U4 .u8 v182) fun v183=>
 r7 Try.prog E w0 j5 [(.int .i64 0),(.int .i64 4294967295)] S fun v184 S185=>
 B1 v181 S S185∧a8 (E2 (r8 [(.int .i64 0), .nilFn] [(0,1,(.int .i64 4)),(1,1,v184)])) fun v186=>
 o8 S185 [(.int .i64 0), .nilFn] fun v187 S188=>
 B1 v181 S S188∧o8 S188 [(.int .i64 0), .nilFn] fun v189 S190=>
 B1 v181 S S190∧r7 Try.prog E w0 z8 [v183] S190 fun v191 S192=>
 a8 (E2 (r8 [(.int .i64 0), .nilFn] [(0,1,(.int .i64 8)),(1,1,v191)])) fun v193=>
 j1 S192 2 v187 v186 fun v194 S195=>
 j1 S195 2 v189 v193 fun v196 S197=>
 j2 E w0 Q x4 x7 x10 v187 v189 S197)∧
 (a8 (t6 1 x7) fun v198=>
 a8 (c9 S v198) fun v199=>
 a8 (U4 .u8 v199) fun v200=>
 r7 Try.prog E w0 j5 [(.int .i64 0),(.int .i64 4294967295)] S fun v201 S202=>
 B1 v198 S S202∧a8 (E2 (r8 [(.int .i64 0), .nilFn] [(0,1,(.int .i64 4)),(1,1,v201)])) fun v203=>
 o8 S202 [(.int .i64 0), .nilFn] fun v204 S205=>
 B1 v198 S S205∧o8 S205 [(.int .i64 0), .nilFn] fun v206 S207=>
 B1 v198 S S207∧r7 Try.prog E w0 z8 [v200] S207 fun v208 S209=>
 a8 (E2 (r8 [(.int .i64 0), .nilFn] [(0,1,(.int .i64 8)),(1,1,v208)])) fun v210=>
 j1 S209 2 v206 v203 fun v211 S212=>
 j1 S212 2 v204 v210 fun v213 S214=>
 j2 E w0 Q x4 x7 x10 v206 v204 S214))))∧
 ((a8 (t6 1 x7) fun v215=>
 a8 (c9 S v215) fun v216=>
 a8 (U4 .u8 v216) fun v217=>
 o8 S [(.int .i64 0), .nilFn] fun v218 S219=>
 B1 v215 S S219∧r7 Try.prog E w0 j5 [(.int .i64 0),(.int .i64 4294967295)] S219 fun v220 S221=>
 B1 v215 S S221∧a8 (E2 (r8 [(.int .i64 0), .nilFn] [(0,1,(.int .i64 4)),(1,1,v220)])) fun v222=>
 r7 Try.prog E w0 z8 [v217] S221 fun v223 S224=>
 a8 (E2 (r8 [(.int .i64 0), .nilFn] [(0,1,(.int .i64 8)),(1,1,v223)])) fun v225=>
 o8 S224 [(.int .i64 0), .nilFn] fun v226 S227=>
 j1 S227 2 v226 v222 fun v228 S229=>
 j1 S229 2 v218 v225 fun v230 S231=>
 j2 E w0 Q x4 x7 x10 v226 v218 S231)∧
 (a8 (t6 1 x7) fun v232=>
 a8 (c9 S v232) fun v233=>
 a8 (U4 .u8 v233) fun v234=>
 o8 S [(.int .i64 0), .nilFn] fun v235 S236=>
 B1 v232 S S236∧r7 Try.prog E w0 j5 [(.int .i64 0),(.int .i64 4294967295)] S236 fun v237 S238=>
 B1 v232 S S238∧a8 (E2 (r8 [(.int .i64 0), .nilFn] [(0,1,(.int .i64 4)),(1,1,v237)])) fun v239=>
 o8 S238 [(.int .i64 0), .nilFn] fun v240 S241=>
 B1 v232 S S241∧r7 Try.prog E w0 z8 [v234] S241 fun v242 S243=>
 a8 (E2 (r8 [(.int .i64 0), .nilFn] [(0,1,(.int .i64 8)),(1,1,v242)])) fun v244=>
 j1 S243 2 v240 v239 fun v245 S246=>
 j1 S246 2 v235 v244 fun v247 S248=>
 j2 E w0 Q x4 x7 x10 v240 v235 S248)))∧
 (((a8 (t6 1 x7) fun v249=>
 a8 (c9 S v249) fun v250=>
 a8 (U4 .u8 v250) fun v251=>
 o8 S [(.int .i64 0), .nilFn] fun v252 S253=>
 B1 v249 S S253∧r7 Try.prog E w0 j5 [(.int .i64 0),(.int .i64 4294967295)] S253 fun v254 S255=>
 B1 v249 S S255∧a8 (E2 (r8 [(.int .i64 0), .nilFn] [(0,1,(.int .i64 4)),(1,1,v254)])) fun v256=>
 r7 Try.prog E w0 z8 [v251] S255 fun v257 S258=>
 a8 (E2 (r8 [(.int .i64 0), .nilFn] [(0,1,(.int .i64 8)),(1,1,v257)])) fun v259=>
 o8 S258 [(.int .i64 0), .nilFn] fun v260 S261=>
 j1 S261 2 v252 v256 fun v262 S263=>
 j1 S263 2 v260 v259 fun v264 S265=>
 j2 E w0 Q x4 x7 x10 v252 v260 S265)∧
 (a8 (t6 1 x7) fun v266=>
 a8 (c9 S v266) fun v267=>
 a8 (U4 .u8 v267) fun v268=>
 o8 S [(.int .i64 0), .nilFn] fun v269 S270=>
 B1 v266 S S270∧r7 Try.prog E w0 j5 [(.int .i64 0),(.int .i64 4294967295)] S270 fun v271 S272=>
 B1 v266 S S272∧a8 (E2 (r8 [(.int .i64 0), .nilFn] [(0,1,(.int .i64 4)),(1,1,v271)])) fun v273=>
 o8 S272 [(.int .i64 0), .nilFn] fun v274 S275=>
 B1 v266 S S275∧r7 Try.prog E w0 z8 [v268] S275 fun v276 S277=>
 a8 (E2 (r8 [(.int .i64 0), .nilFn] [(0,1,(.int .i64 8)),(1,1,v276)])) fun v278=>
 j1 S277 2 v269 v273 fun v279 S280=>
 j1 S280 2 v274 v278 fun v281 S282=>
 j2 E w0 Q x4 x7 x10 v269 v274 S282))∧
 ((a8 (t6 1 x7) fun v283=>
 a8 (c9 S v283) fun v284=>
 a8 (U4 .u8 v284) fun v285=>
 o8 S [(.int .i64 0), .nilFn] fun v286 S287=>
 B1 v283 S S287∧o8 S287 [(.int .i64 0), .nilFn] fun v288 S289=>
 B1 v283 S S289∧r7 Try.prog E w0 j5 [(.int .i64 0),(.int .i64 4294967295)] S289 fun v290 S291=>
 B1 v283 S S291∧a8 (E2 (r8 [(.int .i64 0), .nilFn] [(0,1,(.int .i64 4)),(1,1,v290)])) fun v292=>
 r7 Try.prog E w0 z8 [v285] S291 fun v293 S294=>
 a8 (E2 (r8 [(.int .i64 0), .nilFn] [(0,1,(.int .i64 8)),(1,1,v293)])) fun v295=>
 j1 S294 2 v286 v292 fun v296 S297=>
 j1 S297 2 v288 v295 fun v298 S299=>
 j2 E w0 Q x4 x7 x10 v286 v288 S299)∧
 (a8 (t6 1 x7) fun v300=>
 a8 (c9 S v300) fun v301=>
 a8 (U4 .u8 v301) fun v302=>
 o8 S [(.int .i64 0), .nilFn] fun v303 S304=>
 B1 v300 S S304∧o8 S304 [(.int .i64 0), .nilFn] fun v305 S306=>
 B1 v300 S S306∧r7 Try.prog E w0 j5 [(.int .i64 0),(.int .i64 4294967295)] S306 fun v307 S308=>
 B1 v300 S S308∧a8 (E2 (r8 [(.int .i64 0), .nilFn] [(0,1,(.int .i64 4)),(1,1,v307)])) fun v309=>
 r7 Try.prog E w0 z8 [v302] S308 fun v310 S311=>
 a8 (E2 (r8 [(.int .i64 0), .nilFn] [(0,1,(.int .i64 8)),(1,1,v310)])) fun v312=>
 j1 S311 2 v305 v309 fun v313 S314=>
 j1 S314 2 v303 v312 fun v315 S316=>
 j2 E w0 Q x4 x7 x10 v305 v303 S316))))
 (L1 E w0 Q x4 x7 x10 S))
theorem a7q{E:d6}{w0:i7}{N0:D→D→D→D→D→D→b5→Prop}{Q:D→b5→Prop}{x4 x7 x10 x45 x46 x47:D}{S:b5}(h:a1n E w0 N0 Q x4 x7 x10 x45 x46 x47 S):
  d5 Try.prog E w0 a1Y (g8 120 [4,7,10,45,46,47] [x4,x7,x10,x45,x46,x47]) S (I4 (fun T S=>N0 (T.getD 4 b6) (T.getD 7 b6) (T.getD 10 b6) (T.getD 45 b6) (T.getD 46 b6) (T.getD 47 b6) S) (a1y E w0 Q)):=f9 I0 H9 I2 mixed (by kernel_rfl) h
theorem a8v{E:d6}{w0:i7}{Q:D→b5→Prop}(I:Nat→D→D→D→D→D→D→b5→Prop)
  (step:∀n x4 x7 x10 x45 x46 x47 S,I n x4 x7 x10 x45 x46 x47 S→a1n E w0 (fun x4 x7 x10 x45 x46 x47 S=>∃m,m<n∧I m x4 x7 x10 x45 x46 x47 S) Q x4 x7 x10 x45 x46 x47 S)
  {n:Nat} {x4 x7 x10 x45 x46 x47:D} {S:b5} (h:I n x4 x7 x10 x45 x46 x47 S):d5 Try.prog E w0 (.loop a1Y) (g8 120 [4,7,10,45,46,47] [x4,x7,x10,x45,x46,x47]) S (a1y E w0 Q):=
 t8 (k:=120) (n:=n) (I:=fun n T S=>I n (T.getD 4 b6) (T.getD 7 b6) (T.getD 10 b6) (T.getD 45 b6) (T.getD 46 b6) (T.getD 47 b6) S) (fun n T S hl hI=>z7 [4,7,10,45,46,47] hl (d5.mono (a7q (step n _ _ _ _ _ _ S hI)) fun ex T' S' _ hq=>by cases ex<;>exact hq)) (j0 ..) (Eq.mp (by kernel_rfl) h)
def a7R(E:d6)(w0:i7)(Q:D→b5→Prop)(a0 a1:D)(S:b5):Prop:=
 o8 S [(.int .u8 0),(.int .i64 0),(.int .i64 0), .nilSlc] fun v0 S1=>
 a8 (d4 .lss a1 (.int .i64 0)) fun v2=>
 a8 (c8 (b7 v2 false) (some a1)) fun v3=>
 a8 (c8 (b7 v2 false) (some a0)) fun v4=>
 a8 (c8 (b7 v2 false) (j8 v4)) fun v5=>
 a8 (c8 (b7 v2 false) (d4 .geq v3 v5)) fun v6=>
 a8 (F5 v2 (.bool true) v6) fun v7=>
 d9 v7
 (a8 (E2 (r8 [(.int .u8 0),(.int .i64 0),(.int .i64 0), .nilSlc] [])) fun v8=>
 j1 S1 4 v0 v8 fun v9 S10=>
 a8 (s0 S10 4 v0) fun v11=>Q (.tup [v11,(.int .i64 0),(.int .i64 2)]) S10)
 (a8 (m9 1 a0 a1) fun v12=>
 a8 (c9 S1 v12) fun v13=>
 a8 (E2 (r8 [(.int .u8 0),(.int .i64 0),(.int .i64 0), .nilSlc] [(0,1,v13)])) fun v14=>
 o8 S1 [(.int .u8 0),(.int .i64 0),(.int .i64 0), .nilSlc] fun v15 S16=>
 j1 S16 4 v15 v14 fun v17 S18=>
 a8 (t6 0 v15) fun v19=>
 a8 (c9 S18 v19) fun v20=>
 r7 Try.prog E w0 a3N [v20] S18 fun v21 S22=>
 a8 (m6 v21 0) fun v23=>
 a8 (m6 v21 1) fun v24=>
 a8 (unD .not v24) fun v25=>
 d9 v25
 (a8 (E2 (r8 [(.int .u8 0),(.int .i64 0),(.int .i64 0), .nilSlc] [])) fun v26=>
 j1 S22 4 v0 v26 fun v27 S28=>
 a8 (s0 S28 4 v0) fun v29=>Q (.tup [v29,(.int .i64 0),(.int .i64 120)]) S28)
 (a8 (d4 .add a1 (.int .i64 1)) fun v30=>
 a8 (E2 (r8 [.nilSlc,(.int .i64 0),(.int .i64 0)] [(0,1,a0),(1,1,v30)])) fun v31=>
 a8 (r5 v31) fun cs=>o8 S22 cs fun v32 S33=>
 a8 (j8 v23) fun v34=>
 d5 Try.prog E w0 (.loop a1Y) (g8 120 [4,7,10,45,46,47] [v0,v15,v32,v23,v34,(.int .i64 0)]) S33 (a1y E w0 Q)))
theorem b0x{E:d6}{w0:i7}{Q:D→b5→Prop}{a0 a1:D}{S:b5}(h:a7R E w0 (b8 E Q) a0 a1 S):r7 Try.prog E w0 a0R [a0,a1] S Q:=
 q9 I0 H9 I2 (fn:=Try.f44) (c:=Try.f44.body.getD .skip) mixed Try.func44 (by kernel_rfl) (by kernel_rfl) h
def a6K:List (Nat×List Nat):=[(8,[0,5,6,7])]
def a6I:List (Nat×List Nat):=[]
def a6T:List (Nat×Arr):=[]
noncomputable def a5l:Code:=(j4 [1,1,1,0,1,0,0] (Try.f23.body.getD .skip))
def a5b(E:d6)(w0:i7)(Q:D→b5→Prop):j7→List D→b5→Prop:=
 (A4 0 (a1O Try.prog E w0 a6K a6I a6T (j4 [1,1,1,1] (Try.f23.body.getD .skip)) (R5 Try.prog Try.f23 Q)))
def a5e(E:d6)(w0:i7)(N0:D→D→D→D→b5→Prop)(Q:D→b5→Prop)(x0 x5 x6 x7:D)(S:b5):Prop:=
 a8 (j8 x0) fun v0=>
 a8 (d4 .lss x7 v0) fun v1=>
 d9 v1
 (r7 Try.prog E w0 a0R [x0,x7] S fun v2 S3=>
 a8 (m6 v2 0) fun v4=>
 a8 (m6 v2 1) fun v5=>
 a8 (m6 v2 2) fun v6=>
 o8 S3 [(.int .u8 0),(.int .i64 0),(.int .i64 0), .nilSlc] fun v7 S8=>
 j1 S8 4 v7 v4 fun v9 S10=>
 a8 (d4 .neq v6 (.int .i64 0)) fun v11=>
 d9 v11
 (Q (.tup [.nilSlc, .nilSlc,v6]) S10)
 (a8 (s0 S10 4 v7) fun v12=>
 M2 S10 4 (A1 4 (List.replicate 1 [(.int .u8 0),(.int .i64 0),(.int .i64 0), .nilSlc]) [(0,v12)]) 1 fun v13 S14=>
 s9 S14 4 48 x5 v13 fun v15 S16=>
 M2 S16 1 (A1 1 (List.replicate 1 [(.int .i64 0)]) [(0,x7)]) 1 fun v17 S18=>
 s9 S18 1 8 x6 v17 fun v19 S20=>
 N0 x0 v15 v19 v5 S20))
 (Q (.tup [x5,x6,(.int .i64 0)]) S)
theorem b2N{E:d6}{w0:i7}{N0:D→D→D→D→b5→Prop}{Q:D→b5→Prop}{x0 x5 x6 x7:D}{S:b5}(h:a5e E w0 N0 Q x0 x5 x6 x7 S):
  d5 Try.prog E w0 a5l (g8 36 [0,5,6,7] [x0,x5,x6,x7]) S (I4 (fun T S=>N0 (T.getD 0 b6) (T.getD 5 b6) (T.getD 6 b6) (T.getD 7 b6) S) (a5b E w0 Q)):=f9 a6K a6I a6T mixed (by kernel_rfl) h
theorem b1U{E:d6}{w0:i7}{Q:D→b5→Prop}(I:Nat→D→D→D→D→b5→Prop)
  (step:∀n x0 x5 x6 x7 S,I n x0 x5 x6 x7 S→a5e E w0 (fun x0 x5 x6 x7 S=>∃m,m<n∧I m x0 x5 x6 x7 S) Q x0 x5 x6 x7 S)
  {n:Nat} {x0 x5 x6 x7:D} {S:b5} (h:I n x0 x5 x6 x7 S):d5 Try.prog E w0 (.loop a5l) (g8 36 [0,5,6,7] [x0,x5,x6,x7]) S (a5b E w0 Q):=
 t8 (k:=36) (n:=n) (I:=fun n T S=>I n (T.getD 0 b6) (T.getD 5 b6) (T.getD 6 b6) (T.getD 7 b6) S) (fun n T S hl hI=>z7 [0,5,6,7] hl (d5.mono (b2N (step n _ _ _ _ S hI)) fun ex T' S' _ hq=>by cases ex<;>exact hq)) (j0 ..) (Eq.mp (by kernel_rfl) h)
def b3X(E:d6)(w0:i7)(Q:D→b5→Prop)(a0:D)(S:b5):Prop:=
 d5 Try.prog E w0 (.loop a5l) (g8 36 [0,5,6,7] [a0, .nilSlc, .nilSlc,(.int .i64 0)]) S (a5b E w0 Q)
theorem b5L{E:d6}{w0:i7}{Q:D→b5→Prop}{a0:D}{S:b5}(h:b3X E w0 (b8 E Q) a0 S):r7 Try.prog E w0 Y7 [a0] S Q:=
 q9 a6K a6I a6T (fn:=Try.f23) (c:=Try.f23.body.getD .skip) mixed Try.func23 (by kernel_rfl) (by kernel_rfl) h
end Go.Proofs.Ytdkidgkiplcggaa.d
end
section
open Go.Proofs Go Go.Am Go.Op
namespace Go.Proofs.Ytdkidgkiplcggaa.d
section
def rdC(bs:List Int)(s:Nat×Int):List D:=[bD bs, .int .i64 (s.1:Int), .int .i64 s.2]
theorem c6l{s:Nat}(h:s<8):(2:Nat)^(8*s)≤2^56:=Nat.pow_le_pow_right (by decide) (by omega)
section
variable{E:d6}{w0:i7}
theorem b7r{bs:List Int}(hb:∀b∈bs,J5 b)(hl:bs.length<2^60){s:Nat×Int}(hs:s.1≤bs.length){row:List D}{f:Fld}(hf:b7v row f)(h1:1≤f.size)(h8:f.size≤8){S:b5}{k:Nat}{acs:List AV}(hk:S k=some ⟨3,[rdC bs s],acs⟩):
  r7 Try.prog E w0 r9 [.ptr k 0, .agg row] S fun v S'=>v= .int .i64 (B0 bs f s).1∧∃acs',S'=S.set k ⟨3,[rdC bs (B0 bs f s).2],acs'⟩:=by
 obtain⟨fv,rfl,hm⟩:=hf
 refine a4U ?_
 unfold a2i
 rw[clA,oD]
 intro k0 a0 n0
 have d:k≠k0:=b5.ne_of hk n0
 generalize hS1:S.set k0 _=S1
 have bk:S1 k=some ⟨3,[rdC bs s],acs⟩:=by rw[←hS1,b5.set_ne _ _ _ d];exact hk
 have b0:S1 k0=some ⟨2,[[.int .i64 (f.size:Int),fv]],a0⟩:=by rw[←hS1];exact b5.set_same _ _ _
 have drop:∀ {o:s7} {Q:D→b5→Prop} {v:D},b8 E Q v (S.set k o)→b8 E Q v (S1.set k o):=fun{o Q v} h=>by
  rw[←hS1,b5.set_comm _ (Ne.symm d)]
  exact b8.drop (by rw[b5.set_ne _ _ _ (Ne.symm d)];exact n0) h
 have l2:c9 S1 (.ptr k 2)=some (.int .i64 s.2):=ldP bk
 have l1:c9 S1 (.ptr k 1)=some (.int .i64 (s.1:Int)):=ldP bk
 have l0:c9 S1 (.ptr k 0)=some (bD bs):=ldP bk
 have m0:c9 S1 (.ptr k0 0)=some (.int .i64 (f.size:Int)):=ldP b0
 have m1:c9 S1 (.ptr k0 1)=some fv:=ldP b0
 simp only[ndP,ofP,oD,Nat.zero_add,l2,l1,l0,m0,b1B]
 rw[c2I,cdI]
 refine⟨fun he=> ?_,fun he=> ?_⟩
 ·rw[b9X he, ←hS1]
  exact b8.drop n0 (b8.here ⟨rfl,acs,(b5.set_self hk).symm⟩)
 have he:s.2=0:=Classical.not_not.1 he
 refine(b5V hb hl hs h1 h8).use ?_
 have hset:∀n m:Int,n8 (rdC bs (s.1,n)) 2 [.int .i64 m]=rdC bs (s.1,m):=fun _ _=>rfl
 have hset1:∀m:Nat,n8 (rdC bs s) 1 [.int .i64 (m:Int)]=rdC bs (m,s.2):=fun _=>rfl
 by_cases hsh:bs.length<s.1+f.size
 ·rw[if_pos hsh]
  have e:B0 bs f s=(0,s.1,10):=by unfold B0;rw[if_neg (by simp[he]),if_pos hsh]
  simp only[exD,List.getElem?_cons_zero,List.getElem?_cons_succ,oD,b1B]
  rw[show((10:Int) != 0)=true from rfl,cdT]
  refine stP bk (clI _ _) ⟨rfl,by decide,by simp[rdC]⟩ fun acs'=>drop (b8.here ?_)
  rw[e]
  exact⟨rfl,acs',rfl⟩
 rw[if_neg hsh]
 simp only[exD,List.getElem?_cons_zero,List.getElem?_cons_succ,oD,b1B,cvI]
 rw[show((0:Int) != 0)=false from rfl,cdF]
 obtain⟨u,hu⟩:∃u,u=leN ((bs.drop s.1).take f.size):=⟨_,rfl⟩
 have hur:B0 bs f s=match rdN f u with|some n=>(n,s.1+f.size,0)|none=>(0,s.1,120):=by
  unfold B0;rw[if_neg (by simp[he]),if_neg hsh, ←hu]
  cases rdN f u<;>rfl
 have hult:u<2^(8*f.size):=by
  rw[hu]
  have hbs:∀b∈(bs.drop s.1).take f.size,J5 b:=fun b hb'=>hb b (List.mem_of_mem_drop (List.mem_of_mem_take hb'))
  have:=b1k hbs
  rwa [show((bs.drop s.1).take f.size).length=f.size by rw[List.length_take,List.length_drop];omega]at this
 rw[←hu]
 obtain⟨n,hn⟩:∃n,n=IntKind.i64.wrap (u:Int):=⟨_,rfl⟩
 have hn64:I64 n:=by rw[hn];exact b7x _
 rw[←hn,m1,oD]
 have tail:∀n':Int,I64 n'→n'=(if f.may n=false∧f.size<8 then n - 2^(8*f.size) else n)→C5 E w0 (b8 E fun v S'=>v= .int .i64 (B0 bs f s).1∧∃acs',S'=S.set k ⟨3,[rdC bs (B0 bs f s).2],acs'⟩) (.ptr k 0) (.ptr k0 0) (.int .i64 ((s.1+f.size:Nat):Int)) (.int .i64 n') S1:=fun n' hn' he'=>by
  refine a3k ?_
  unfold a0B
  simp only[ofP,oD,Nat.zero_add,m1]
  refine b7I hm hn' ?_
  rw[unN,oD]
  have hrd:rdN f u=if f.may n'=true then some n' else none:=by
   unfold rdN;simp only;rw[←hn, ←he']
  have hmm:decide (f.lo≤n'∧n'≤f.hi)=f.may n':=rfl
  rw[hmm,cdB]
  refine⟨fun hf=> ?_,fun hf=> ?_⟩
  ·have hf:f.may n'=false:=by simpa using hf
   rw[hf,if_neg (by decide)]at hrd
   rw[hrd]at hur
   simp only[ndP,ofP,oD,Nat.zero_add]
   refine stP bk (clI _ _) ⟨rfl,by decide,by simp[rdC]⟩ fun acs'=>drop (b8.here ?_)
   rw[hur]
   exact⟨rfl,acs',rfl⟩
  ·have hf:f.may n'=true:=by simpa using hf
   rw[if_pos hf]at hrd
   rw[hrd]at hur
   simp only[ndP,ofP,oD,Nat.zero_add]
   refine stP bk (clI _ _) ⟨rfl,by decide,by simp[rdC]⟩ fun acs'=>drop (b8.here ?_)
   rw[hur,hset1,he]
   exact⟨rfl,acs',rfl⟩
 refine b7I hm hn64 ?_
 have hmm:decide (f.lo≤n∧n≤f.hi)=f.may n:=rfl
 rw[hmm,unN,oD]
 have e8:decide ((f.size:Int)<8)=decide (f.size<8):=decide_eq_decide.2 (by omega)
 have key:(a8 (d4 .mul (.int .i64 8) (.int .i64 (f.size:Int))) fun v49=>a8 (d4 .shl (.int .i64 1) v49) fun v50=>a8 (d4 .sub (.int .i64 n) v50) fun v51=>C5 E w0 (b8 E fun v S'=>v= .int .i64 (B0 bs f s).1∧∃acs',S'=S.set k ⟨3,[rdC bs (B0 bs f s).2],acs'⟩) (.ptr k 0) (.ptr k0 0) (.int .i64 ((s.1+f.size:Nat):Int)) v51 S1)∨¬(f.may n=false∧f.size<8):=by
  by_cases hc:f.may n=false∧f.size<8
  ·left
   have h56:=c6l hc.2
   have hnu:n=u:=by rw[hn];exact g9 (by omega) (by omega)
   rw[c3F,oD,g9 (by omega) (by omega),c3z _ _ _ _ (by omega),oD]
   have e1:min (8*(f.size:Int)).toNat IntKind.i64.bits=8*f.size:=by
    have:IntKind.i64.bits=64:=rfl
    omega
   have e2:(1:Int)*2^(8*f.size)=((2^(8*f.size):Nat):Int):=by rw[Int.one_mul];exact_mod_cast rfl
   rw[e1,e2,g9 (by omega) (by omega),a7o,oD,g9 (by omega) (by omega)]
   refine tail _ ⟨by omega,by omega⟩ ?_
   rw[if_pos hc]
   congr 1
  ·exact .inr hc
 cases hmn:f.may n with
 |true=>
  simp only[Bool.not_true,wdB,vdF,oD,pdB,Bool.false_eq_true,if_false,cdF,show((false==true)=false) from rfl]
  exact tail n hn64 (by rw[if_neg (by rw[hmn];simp)])
 |false=>
  simp only[Bool.not_false,wdB,vdT,oD,pdB,if_true,show((true==true)=true) from rfl,m0,a3K,e8]
  rw[cdI]
  refine⟨fun h=> ?_,fun h=> ?_⟩
  ·exact key.resolve_right fun hc=>hc ⟨hmn,h⟩
  ·exact tail n hn64 (by rw[if_neg (fun hc=>h hc.2)])
end
end
section
def zC:List D:=[.int .u8 0, .int .i64 0, .int .i64 0, .nilSlc]
def O8(op a b:Int)(t:D):List D:=[.int .u8 op, .int .i64 a, .int .i64 b,t]
def b5d(r:Dat×(Nat×Int))(t:D):D:= .tup [.agg (O8 r.1.1 r.1.2.1 r.1.2.2.1 t), .int .i64 (r.2.1:Int), .int .i64 r.2.2]
section
variable{E:d6}{w0:i7}
theorem b9k{Q:D→b5→Prop}{S:b5}{k4 k7 k10:Nat}{c4:List D}{op a b:Int}{t:D}{bs:List Int}{s:Nat×Int}(h4:I5 S k4 4 c4)(h7:I5 S k7 4 (O8 op a b t))(h10:I5 S k10 3 (rdC bs s))(l4:c4.length=4)(ht:r5 t=some [t])
  (hQ:∀S',(∀j,j≠k4→S' j=S j)→b8 E Q (if s.2=0 then .tup [.agg (O8 op a b t), .int .i64 (s.1:Int), .int .i64 0]else .tup [.agg zC, .int .i64 0, .int .i64 s.2]) S'):L1 E w0 (b8 E Q) (.ptr k4 0) (.ptr k7 0) (.ptr k10 0) S:=by
 refine a7m ?_
 unfold a3Z
 have e410:k10≠k4:=h10.ne h4 (by decide)
 have ld2:(rdC bs s)[2]? =some (.int .i64 s.2):=rfl
 have ld1:(rdC bs s)[1]? =some (.int .i64 (s.1:Int)):=rfl
 simp only[ndP,ofP,oD,Nat.zero_add,h10.ld,ld2,ld1,b1B,fiN,agS]
 rw[c2I,cdI]
 refine⟨fun he=> ?_,fun he=> ?_⟩
 ·refine h4.st (clA _) ⟨rfl,by decide,by omega⟩ fun a4=>⟨by rw[fwP,b5.set_ne _ _ _ e410], ?_⟩
  have hs:n8 c4 0 [D.int .u8 0, .int .i64 0, .int .i64 0, .nilSlc]=zC:=by
   match c4,l4 with
   | [_,_,_,_],_=>rfl
  rw[hs,(I5.new).all (n:=4) (by decide) rfl,oD]
  have:=hQ (S.set k4 ⟨4,[zC],a4⟩) (fun j hj=>b5.set_ne _ _ _ hj)
  rw[if_neg he]at this
  exact this
 ·rw[h7.all (n:=4) (by decide) rfl,oD]
  refine h4.st (ds:=O8 op a b t) (clA _) ⟨rfl,by decide,by omega⟩ fun a4=>⟨by rw[fwP,b5.set_ne _ _ _ e410], ?_⟩
  have hs:n8 c4 0 (O8 op a b t)=O8 op a b t:=by
   match c4,l4 with
   | [_,_,_,_],_=>rfl
  rw[hs,(I5.new).all (n:=4) (by decide) rfl,oD]
  have:=hQ (S.set k4 ⟨4,[O8 op a b t],a4⟩) (fun j hj=>b5.set_ne _ _ _ hj)
  rw[if_pos (Classical.not_not.1 he)]at this
  exact this
structure M4 (S:b5) (k4 k7 k10:Nat) (c7:List D) (bs:List Int) (s:Nat×Int) (S':b5):Prop where
 le:S.le S'
 n4:S k4=none
 n7:S k7=none
 n10:S k10=none
 d47:k4≠k7
 h4:I5 S' k4 4 zC
 h7:I5 S' k7 4 c7
 h10:I5 S' k10 3 (rdC bs s)
section
variable{S S':b5}{k4 k7 k10:Nat}{c7:List D}{bs:List Int}{s:Nat×Int}
theorem M4.d410(h:M4 S k4 k7 k10 c7 bs s S'):k4≠k10:=h.h4.ne h.h10 (by decide)
theorem M4.d710(h:M4 S k4 k7 k10 c7 bs s S'):k7≠k10:=h.h7.ne h.h10 (by decide)
theorem M4.set7(h:M4 S k4 k7 k10 c7 bs s S'){c:List D}{a:List AV}:M4 S k4 k7 k10 c bs s (S'.set k7 ⟨4,[c],a⟩):=
 ⟨b5.le_set h.le h.n7,h.n4,h.n7,h.n10,h.d47,h.h4.set_ne h.d47,I5.new,h.h10.set_ne (Ne.symm h.d710)⟩
theorem M4.set10(h:M4 S k4 k7 k10 c7 bs s S'){s':Nat×Int}{a:List AV}:M4 S k4 k7 k10 c7 bs s' (S'.set k10 ⟨3,[rdC bs s'],a⟩):=
 ⟨b5.le_set h.le h.n10,h.n4,h.n7,h.n10,h.d47,h.h4.set_ne h.d410,h.h7.set_ne h.d710,I5.new⟩
theorem M4.new(h:M4 S k4 k7 k10 c7 bs s S'){k:Nat}{o:s7}(hk:S' k=none):M4 S k4 k7 k10 c7 bs s (S'.set k o):=
 ⟨b5.le_set h.le (b5.none_of h.le hk),h.n4,h.n7,h.n10,h.d47,h.h4.set hk,h.h7.set hk,h.h10.set hk⟩
theorem M4.of(h:M4 S k4 k7 k10 c7 bs s S'){S2:b5}(hl:S.le S2)(e:∀j∈[k4,k7,k10],S2 j=S' j):M4 S k4 k7 k10 c7 bs s S2:=
 ⟨hl,h.n4,h.n7,h.n10,h.d47,h.h4.of (e _ (by simp)),h.h7.of (e _ (by simp)),h.h10.of (e _ (by simp))⟩
end
theorem b7v.len{row:List D}{f:Fld}(h:b7v row f):row.length=2:=by obtain⟨fv,rfl,_⟩:=h;rfl
theorem c3u{row:List D}{f:Fld}(h:b7v row f):n8 [D.int .i64 0, .nilFn] 0 row=row:=by obtain⟨fv,rfl,_⟩:=h;rfl
theorem a3b{S S':b5}{k4 k7 k10:Nat}{c7:List D}{bs:List Int}{s:Nat×Int}(h:M4 S k4 k7 k10 c7 bs s S')(hb:∀b∈bs,J5 b)(hl:bs.length<2^60)(hs:s.1≤bs.length){row:List D}{f:Fld}(hf:b7v row f)(h1:1≤f.size)(h8:f.size≤8):
  r7 Try.prog E w0 r9 [.ptr k10 0, .agg row] S' fun v S2=>v= .int .i64 (B0 bs f s).1∧M4 S k4 k7 k10 c7 bs (B0 bs f s).2 S2∧∀j,j≠k10→S2 j=S' j:=by
 obtain⟨a,e⟩:=h.h10
 refine(b7r hb hl hs hf h1 h8 e).use fun v S2 ⟨e1,a',e2⟩=>⟨e1, ?_, ?_⟩
 ·rw[e2];exact h.set10
 ·rw[e2];exact fun j hj=>b5.set_ne _ _ _ hj
theorem c3w(bs:List Int)(f:Fld)(s:Nat×Int):(B0 bs f s).1=0∨f.may (B0 bs f s).1=true:=by
 unfold B0
 split
 ·exact .inl rfl
 split
 ·exact .inl rfl
 ·split
  ·rename_i m hm
   unfold rdN at hm
   simp only[Option.ite_none_right_eq_some,Option.some.injEq]at hm
   obtain⟨h1,h2⟩:=hm
   right;rw[←h2];exact h1
  ·exact .inl rfl
theorem c4C{Q:D→b5→Prop}{S:b5}{k4 k7 k10 k13 k14:Nat}{op a:Int}{bs:List Int}{s:Nat×Int}{S':b5}(hb:∀b∈bs,J5 b)(hl:bs.length<2^30)(h:M4 S k4 k7 k10 (O8 op a 0 .nilSlc) bs s S')(hs:s.1≤bs.length)
  (h13:I5 S' k13 2 [.int .i64 4,V1 0 4294967295]) (h14:I5 S' k14 2 [.int .i64 8,a6e (IntKind.u8.wrap a)]) (n13:S k13=none) (n14:S k14=none) (d7:k7≠k13∧k7≠k14)
  (hQ:∀t S',Grw S t ((a2z bs op a s).1.2.2.2.map Z5) 2 S'→b8 E Q (if(a2z bs op a s).2.2=0 then .tup [.agg (O8 op a (a2z bs op a s).1.2.2.1 t), .int .i64 ((a2z bs op a s).2.1:Int), .int .i64 0]else .tup [.agg zC, .int .i64 0, .int .i64 (a2z bs op a s).2.2]) S'):
  j2 E w0 (b8 E Q) (.ptr k4 0) (.ptr k7 0) (.ptr k10 0) (.ptr k13 0) (.ptr k14 0) S':=by
 refine a6Q ?_
 unfold a4g
 refine B2.use ?_
 rw[a1B (a7Y _ _),oD]
 have hl60:bs.length<2^60:=by omega
 refine(a3b h hb hl60 hs (row:=[.int .i64 2,V1 0 65535]) (f:=fIx) ⟨_,rfl,b0u.bet _ _⟩ (by decide) (by decide)).use ?_
 rintro v S2 ⟨rfl,h2,ke⟩
 have hs2:=b4X (f:=fIx) hs
 have hn0:0≤(B0 bs fIx s).1∧(B0 bs fIx s).1≤65535:=by
  rcases c3w bs fIx s with h|h
  ·omega
  ·exact of_decide_eq_true h
 have e13:k13≠k10:=h13.ne h.h10 (by decide)
 have e14:k14≠k10:=h14.ne h.h10 (by decide)
 have h13:=h13.of (ke _ e13)
 have h14:=h14.of (ke _ e14)
 obtain⟨N,hN⟩:∃N:Nat,(B0 bs fIx s).1=(N:Int):=⟨(B0 bs fIx s).1.toNat,by omega⟩
 have hdec:a2z bs op a s=((op,a,(B0 bs B8 (D1 bs (IntKind.u8.wrap a) N (B0 bs fIx s).2 []).2).1,(D1 bs (IntKind.u8.wrap a) N (B0 bs fIx s).2 []).1),(B0 bs B8 (D1 bs (IntKind.u8.wrap a) N (B0 bs fIx s).2 []).2).2):=by
  unfold a2z;rw[hN];rfl
 rw[hN]
 refine a8b (I:=fun n x4 x7 x10 x13 x14 x15 T=>x4= .ptr k4 0∧x7= .ptr k7 0∧x10= .ptr k10 0∧x13= .ptr k13 0∧x14= .ptr k14 0∧x15= .int .i64 (n:Int)∧n≤N∧∃(s':Nat×Int) (acc:List (Int×Int)) (t:D),M4 S k4 k7 k10 (O8 op a 0 t) bs s' T∧s'.1≤bs.length∧
   I5 T k13 2 [.int .i64 4,V1 0 4294967295]∧I5 T k14 2 [.int .i64 8,a6e (IntKind.u8.wrap a)]∧X0 S [k4,k7,k10,k13,k14] t (acc.map Z5) 2 T∧acc.length+n=N∧D1 bs (IntKind.u8.wrap a) n s' acc=D1 bs (IntKind.u8.wrap a) N (B0 bs fIx s).2 []) ?_ (n:=N)
  ⟨rfl,rfl,rfl,rfl,rfl,rfl,Nat.le_refl _,_,[], .nilSlc,h2,hs2,h13,h14,X0.nil,by simp,rfl⟩
 rintro n _ _ _ _ _ _ T ⟨rfl,rfl,rfl,rfl,rfl,rfl,hnN,s',acc,t,hd,hs',g13,g14,hg,hacc,hrd⟩
 unfold a1l
 have ld2:c9 T (.ptr k10 2)=some (.int .i64 s'.2):=hd.h10.ld 2
 have fin:(n=0∨s'.2≠0)→(a8 (s0 T 2 (.ptr k13 0)) fun v107=>r7 Try.prog E w0 r9 [.ptr k10 0,v107] T fun v108 S109=>a8 (t6 2 (.ptr k7 0)) fun v110=>j1 S109 1 v110 v108 fun v111 S112=>L1 E w0 (b8 E Q) (.ptr k4 0) (.ptr k7 0) (.ptr k10 0) S112):=fun hend=>by
  have hrd':D1 bs (IntKind.u8.wrap a) N (B0 bs fIx s).2 []=(acc,s'):=by
   rw[←hrd]
   rcases hend with rfl|h
   ·rfl
   ·exact b1p h
  rw[hrd']at hdec
  rw[g13.all (n:=2) (by decide) rfl,oD]
  refine(a3b hd hb hl60 hs' (row:=[.int .i64 4,V1 0 4294967295]) (f:=B8) ⟨_,rfl,b0u.bet _ _⟩ (by decide) (by decide)).use ?_
  rintro v T2 ⟨rfl,hd2,ke2⟩
  rw[ofP,oD]
  refine hd2.h7.st (clI _ _) ⟨rfl,by decide,by simp[O8]⟩ fun a7=> ?_
  have hd3:=hd2.set7 (c:=O8 op a (B0 bs B8 s').1 t) (a:=a7)
  have hg3:X0 S [k4,k7,k10,k13,k14] t (acc.map Z5) 2 (T2.set k7 ⟨4,[O8 op a (B0 bs B8 s').1 t],a7⟩):=(hg.of fun k o hk e=>by rw[ke2 k (fun e=>hk (by simp[e]))];exact e).set (.inl (by simp))
  refine b9k hd3.h4 hd3.h7 hd3.h10 rfl hg.cells fun S'' hS''=> ?_
  have hg4:X0 S [k4,k7,k10,k13,k14] t (acc.map Z5) 2 S'':=hg3.of fun k o hk e=>by rw[hS'' k (fun e=>hk (by simp[e]))];exact e
  have hle:S.le S'':=fun j o e=>by rw[hS'' j (fun e'=>by rw[e',hd.n4]at e;cases e)];exact hd3.le _ _ e
  obtain⟨S3,l3,g3⟩:=hg4.grw hle
  refine b8.less l3 ?_
  have:=hQ t S3 (by rw[hdec];exact g3)
  rw[hdec]at this
  exact this
 simp only[b0O,oD,ndP,ofP,Nat.zero_add,ld2,a6c]
 by_cases h0:n=0
 ·subst h0
  simp only[Int.natCast_zero,gt_iff_lt,Int.lt_irrefl,decide_false,wdB,vdF,oD,pdB,Bool.false_eq_true,if_false,cdF,show((false==true)=false) from rfl]
  exact fin (.inl rfl)
 have hpos:decide ((n:Int)>0)=true:=decide_eq_true (by omega)
 simp only[hpos,wdB,vdT,oD,pdB,if_true,show((true==true)=true) from rfl,ndP,ofP,Nat.zero_add,ld2,a6c]
 rw[cdB]
 refine⟨fun h0'=> ?_,fun h0'=> ?_⟩
 ·have hs0:s'.2=0:=by simpa using h0'
  rw[g14.all (n:=2) (by decide) rfl,oD]
  refine(a3b hd hb hl60 hs' (row:=[.int .i64 8,a6e (IntKind.u8.wrap a)]) (f:=vF (IntKind.u8.wrap a)) ⟨_,rfl,b0u.fit _⟩ (by show 1≤8;decide) (by show 8≤8;decide)).use ?_
  rintro v T2 ⟨rfl,hd2,ke2⟩
  have hs2':=b4X (f:=vF (IntKind.u8.wrap a)) hs'
  have f13:=g13.of (ke2 _ e13)
  have f14:=g14.of (ke2 _ e14)
  have ld3:c9 T2 (.ptr k7 3)=some t:=hd2.h7.ld 3
  rw[ld3,oD]
  rw[f13.all (n:=2) (by decide) rfl,oD]
  refine(a3b hd2 hb hl60 hs2' (row:=[.int .i64 4,V1 0 4294967295]) (f:=B8) ⟨_,rfl,b0u.bet _ _⟩ (by decide) (by decide)).use ?_
  rintro v T3 ⟨rfl,hd3,ke3⟩
  have k7e:T3 k7=T2 k7:=ke3 _ hd.d710
  refine⟨by rw[fwP,k7e], ?_⟩
  have hfa:E2 (r8 [D.int .i64 0, .int .i64 0] [(0,1, .int .i64 (B0 bs (vF (IntKind.u8.wrap a)) s').1),(1,1, .int .i64 (B0 bs B8 (B0 bs (vF (IntKind.u8.wrap a)) s').2).1)])=some (.agg (Z5 ((B0 bs (vF (IntKind.u8.wrap a)) s').1,(B0 bs B8 (B0 bs (vF (IntKind.u8.wrap a)) s').2).1))):=rfl
  rw[hfa,oD]
  refine V4 (rows:=[Z5 _]) rfl ⟨by rw[fwP,k7e], ?_⟩
  have hg2:X0 S [k4,k7,k10,k13,k14] t (acc.map Z5) 2 T2:=hg.of fun k o hk e=>by rw[ke2 k (fun e=>hk (by simp[e]))];exact e
  have hg3:X0 S [k4,k7,k10,k13,k14] t (acc.map Z5) 2 T3:=hg2.of fun k o hk e=>by rw[ke3 k (fun e=>hk (by simp[e]))];exact e
  have q13:=f13.of (ke3 _ e13)
  have q14:=f14.of (ke3 _ e14)
  refine hg3.push hd3.le (fun j hj=> ?_) (news:=[Z5 ((B0 bs (vF (IntKind.u8.wrap a)) s').1,(B0 bs B8 (B0 bs (vF (IntKind.u8.wrap a)) s').2).1)]) (by simp[rowsS,E7]) (by simp) (by simp;omega) fun t' T4 hle4 he4 hg4=> ?_
  ·simp only[List.mem_cons,List.not_mem_nil,or_false]at hj
   rcases hj with rfl|rfl|rfl|rfl|rfl
   ·exact hd3.h4.there
   ·exact hd3.h7.there
   ·exact hd3.h10.there
   ·exact q13.there
   ·exact q14.there
  have hd4:M4 S k4 k7 k10 (O8 op a 0 t) bs _ T4:=hd3.of hle4 fun j hj=>he4 j (by simp only[List.mem_cons,List.not_mem_nil,or_false]at hj ⊢;rcases hj with rfl|rfl|rfl<;>simp)
  refine hd4.h7.st (hg4.cells) ⟨rfl,by decide,by simp[O8]⟩ fun a7=> ?_
  rw[a7o,oD,g9 (by omega) (by omega)]
  obtain⟨m,rfl⟩:∃m,n=m+1:=⟨n - 1,by omega⟩
  rw[D1,if_neg (by simpa using hs0)]at hrd
  refine⟨m,by omega,by trivial,by trivial,by trivial,by trivial,by trivial,by congr 1;omega,by omega,_,acc++[_],t',hd4.set7 (c:=O8 op a 0 t'),b4X hs2', ?_, ?_, ?_,by simp;omega,hrd⟩
  ·exact(q13.of (he4 _ (by simp))).set_ne (Ne.symm d7.1)
  ·exact(q14.of (he4 _ (by simp))).set_ne (Ne.symm d7.2)
  ·rw[List.map_append]
   exact hg4.set (.inl (by simp))
 ·exact fin (.inr (by simpa using h0'))
end
end
end Go.Proofs.Ytdkidgkiplcggaa.d
end
