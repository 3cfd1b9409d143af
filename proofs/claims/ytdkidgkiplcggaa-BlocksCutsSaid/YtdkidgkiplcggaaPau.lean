/-
  BlocksCutsSaid: part Pau of its proof.
-/
import Derived.Test.YtdkidgkiplcggaaRows
import Derived.Test.YtdkidgkiplcggaaPar
import Derived.KernelRfl
import Derived.Test.YtdkidgkiplcggaaPat
set_option linter.unusedVariables false
set_option linter.unusedSimpArgs false
set_option maxRecDepth 100000
section
open Go.Proofs Go Go.Am
namespace Go.Proofs.Ytdkidgkiplcggaa.d
def a2A:List (Nat×List Nat):=[(8,[0,1,5])]
def a2y:List (Nat×List Nat):=[]
def a2t:List (Nat×Arr):=[]
noncomputable def a1D:Code:=(i9 [1,1,0,1,0,0] (Try.f19.body.getD .skip))
def a1F(E:g8)(w0:j0)(Q:D→b5→Prop):j7→List D→b5→Prop:=
 (p5 0 (L4 Try.prog E w0 a2A a2y a2t (i9 [1,1,1] (Try.f19.body.getD .skip)) (F5 Try.prog Try.f19 Q)))
def Z5(E:g8)(w0:j0)(N0:D→D→D→b5→Prop)(Q:D→b5→Prop)(x0 x1 x5:D)(S:b5):Prop:=
 b4 (j9 x0) fun v3=>
 b4 (d5 .lss x5 v3) fun v4=>
 i5 v4
 (b4 (j5 1 x0 x5) fun v5=>
 b4 (d9 S v5) fun v6=>
 b4 (j5 1 x1 x5) fun v7=>
 b4 (d9 S v7) fun v8=>
 b4 (d5 .neq v6 v8) fun v9=>
 i5 v9
 (Q (.bool false) S)
 (b4 (d5 .add x5 (.int .i64 1)) fun v10=>
 N0 x0 x1 v10 S))
 (Q (.bool true) S)
theorem a9d{E:g8}{w0:j0}{N0:D→D→D→b5→Prop}{Q:D→b5→Prop}{x0 x1 x5:D}{S:b5}(h:Z5 E w0 N0 Q x0 x1 x5 S):
  f9 Try.prog E w0 a1D (i7 26 [0,1,5] [x0,x1,x5]) S (A3 (fun T S=>N0 (T.getD 0 b6) (T.getD 1 b6) (T.getD 5 b6) S) (a1F E w0 Q)):=g9 a2A a2y a2t mixed (by kernel_rfl) h
theorem a2H{E:g8}{w0:j0}{Q:D→b5→Prop}(I:Nat→D→D→D→b5→Prop)
  (step:∀n x0 x1 x5 S,I n x0 x1 x5 S→Z5 E w0 (fun x0 x1 x5 S=>∃m,m<n∧I m x0 x1 x5 S) Q x0 x1 x5 S)
  {n:Nat} {x0 x1 x5:D} {S:b5} (h:I n x0 x1 x5 S):f9 Try.prog E w0 (.loop a1D) (i7 26 [0,1,5] [x0,x1,x5]) S (a1F E w0 Q):=
 o4 (k:=26) (n:=n) (I:=fun n T S=>I n (T.getD 0 b6) (T.getD 1 b6) (T.getD 5 b6) S) (fun n T S hl hI=>q8 [0,1,5] hl (f9.mono (a9d (step n _ _ _ S hI)) fun ex T' S' _ hq=>by cases ex<;>exact hq)) (j2 ..) (Eq.mp (by kernel_rfl) h)
def a3x(E:g8)(w0:j0)(Q:D→b5→Prop)(a0 a1:D)(S:b5):Prop:=
 b4 (j9 a0) fun v0=>
 b4 (j9 a1) fun v1=>
 b4 (d5 .neq v0 v1) fun v2=>
 i5 v2
 (Q (.bool false) S)
 (f9 Try.prog E w0 (.loop a1D) (i7 26 [0,1,5] [a0,a1,(.int .i64 0)]) S (a1F E w0 Q))
theorem a4s{E:g8}{w0:j0}{Q:D→b5→Prop}{a0 a1:D}{S:b5}(h:a3x E w0 (b9 E Q) a0 a1 S):p8 Try.prog E w0 I8 [a0,a1] S Q:=
 j6 a2A a2y a2t (fn:=Try.f19) (c:=Try.f19.body.getD .skip) mixed Try.func19 (by kernel_rfl) (by kernel_rfl) h
def b4r:List (Nat×List Nat):=[]
def b4T:List (Nat×List Nat):=[]
def b4Y:List (Nat×Arr):=[]
def a8k(E:g8)(w0:j0)(Q:D→b5→Prop)(a0:D)(S:b5):Prop:=
 u4 S 1 1 .nilSlc a0 fun v0 S1=>
 C7 S1 1 (o7 1 (List.replicate 1 [(.int .u8 0)]) [(0,(.int .u8 77))]) 1 fun v2 S3=>
 u4 S3 1 1 v0 v2 fun v4 S5=>
 b4 (j9 a0) fun v6=>
 b4 (V2 1 v4 none (some v6) none) fun v7=>
 Q v7 S5
theorem b1h{E:g8}{w0:j0}{Q:D→b5→Prop}{a0:D}{S:b5}(h:a8k E w0 (b9 E Q) a0 S):p8 Try.prog E w0 a1b [a0] S Q:=
 j6 b4r b4T b4Y (fn:=Try.f12) (c:=Try.f12.body.getD .skip) mixed Try.func12 (by kernel_rfl) (by kernel_rfl) h
def b4k:List (Nat×List Nat):=[]
def b4x:List (Nat×List Nat):=[]
def b5d:List (Nat×Arr):=[]
def a8c(E:g8)(w0:j0)(Q:D→b5→Prop)(a0 a1:D)(S:b5):Prop:=
 b4 (a7K S a0) fun v0=>
 b4 (a7K S a1) fun v1=>
 b4 (c3n .eql v0 v1) fun v2=>
 b4 (d6 (b8 v2 true) (some a0)) fun v3=>
 b4 (d6 (b8 v2 true) (some a1)) fun v4=>
 b4 (d6 (b8 v2 true) (j9 v4)) fun v5=>
 b4 (d6 (b8 v2 true) (d5 .add v5 (.int .i64 1))) fun v6=>
 b4 (d6 (b8 v2 true) (V2 1 v3 none (some v6) none)) fun v7=>
 b4 (d6 (b8 v2 true) (some a1)) fun v8=>
 b4 (d6 (b8 v2 true) (j9 v8)) fun v9=>
 b4 (d6 (b8 v2 true) (j5 1 v7 v9)) fun v10=>
 b4 (d6 (b8 v2 true) (d9 S v10)) fun v11=>
 b4 (d6 (b8 v2 true) (d5 .eql v11 (.int .u8 77))) fun v12=>
 b4 (y9 v2 v12 (.bool false)) fun v13=>
 Q v13 S
theorem b0Y{E:g8}{w0:j0}{Q:D→b5→Prop}{a0 a1:D}{S:b5}(h:a8c E w0 (b9 E Q) a0 a1 S):p8 Try.prog E w0 a1o [a0,a1] S Q:=
 j6 b4k b4x b5d (fn:=Try.f16) (c:=Try.f16.body.getD .skip) mixed Try.func16 (by kernel_rfl) (by kernel_rfl) h
end Go.Proofs.Ytdkidgkiplcggaa.d
end
section
open Go.Proofs Go Go.Am Go.Op
namespace Go.Proofs.Ytdkidgkiplcggaa.d
section
def iC(l:List Int):List (List D):=J5 (l.map (D.int .i64))
def iD(l:List Int):D:= .lst (iC l) 1
@[simp] theorem m8(l:List Int):(iC l).length=l.length:=by simp[iC]
theorem c6C{l:List Int}{i:Nat}{n:Int}(h:l[i]? =some n):(iC l)[i]? =some [.int .i64 n]:=c1Z (by rw[List.getElem?_map,h];rfl)
theorem a0y{l:List Int}{i:Nat}{n:Int}(h:l[i]? =some n):j5 1 (iD l) (.int .i64 (i:Int))=some (.elt [.int .i64 n] 0):=b9u (c6C h)
@[simp] theorem a1I(l:List Int):j9 (iD l)=some (.int .i64 l.length):=by simp[iD]
@[simp] theorem d0Q(S:b5)(l:List Int):rowsS S 1 (iD l)=some (iC l):=by simp[iD,rowsS,C1]
theorem a0S(a b:List Int):iC (a++b)=iC a++iC b:=by simp[iC,J5]
section
variable{E:g8}{w0:j0}
theorem a7e{a b:List Int}(hl:a.length<2^60)(hb:b.length<2^60):U2 Try.prog E w0 I8 [iD a,iD b] (.bool (decide (a=b))):=fun S=>by
 refine a4s ?_
 unfold a3x
 simp only[a1I,oD,a9c]
 have e:((a.length:Int) != b.length)=decide (a.length≠b.length):=by
  by_cases h:a.length=b.length<;>simp[h,bne]
  intro h';exact h (by omega)
 rw[e,V7]
 refine⟨fun h=> ?_,fun h=> ?_⟩
 ·rw[decide_eq_false (fun e=>h (by rw[e]))]
  exact b9.pure
 have h:a.length=b.length:=by omega
 refine a2H (I:=fun n x0 x1 x5 S'=>S'=S∧x0=iD a∧x1=iD b∧∃i:Nat,x5= .int .i64 (i:Int)∧i+n=a.length∧a.take i=b.take i) ?_ (n:=a.length) ⟨rfl,rfl,rfl,0,rfl,by omega,rfl⟩
 rintro n _ _ _ _ ⟨rfl,rfl,rfl,i,rfl,hi,ht⟩
 unfold Z5
 simp only[a1I,oD,M7]
 rw[V7]
 refine⟨fun hlt=> ?_,fun hge=> ?_⟩
 ·have hlt:i<a.length:=by omega
  have ea:a[i]? =some a[i]:=List.getElem?_eq_getElem hlt
  have eb:b[i]? =some b[i]:=List.getElem?_eq_getElem (by omega)
  simp only[a0y ea,a0y eb,oD,lsE,List.getElem?_cons_zero,a9c]
  have e:(a[i] != b[i])=decide (a[i]≠b[i]):=by by_cases h:a[i]=b[i]<;>simp[h,bne]
  rw[e,V7]
  refine⟨fun hne=> ?_,fun he=> ?_⟩
  ·rw[decide_eq_false (fun e=>hne (by simp only[e]))]
   exact b9.pure
  ·rw[C4,oD,i6 (by omega) (by omega)]
   refine⟨n - 1,by omega,by trivial,by trivial,by trivial,i+1,rfl,by omega, ?_⟩
   rw[List.take_add_one,List.take_add_one,ht,ea,eb,Classical.not_not.1 he]
 ·rw[List.take_of_length_le (by omega),List.take_of_length_le (by omega)]at ht
  rw[decide_eq_true ht]
  exact b9.pure
end
end
section
def bX(bs:List Int):D:= .ext (J5 (bs.map (D.int .u8))) (J5 [.int .u8 77]) 1
theorem c8I(l:List Int):Wk (bX l) (bD l):=Wk.ext _ _ _
def c9k(bs:List Int):List UInt8:=bs.map fun b=>UInt8.ofNat b.toNat
theorem c2L(l:List Int):(J5 (l.map (D.int .u8))).mapM b6G=some (c9k l):=by
 induction l with
 |nil=>rfl
 |cons b l ih=>
  have:(J5 ((b::l).map (D.int .u8)))=[D.int .u8 b]::J5 (l.map (D.int .u8)):=rfl
  rw[this,List.mapM_cons,ih]
  rfl
theorem d0x(S:b5)(l:List Int):a7K S (bD l)=some (.str (c9k l)):=by
 have:C1 S 1 (bD l)=some (J5 (l.map (D.int .u8))):=by simp[bD,C1]
 simp only[a7K,this,c2L,Option.map_some]
theorem d0h(S:b5)(l:List Int):a7K S (bX l)=some (.str (c9k l)):=by
 have:C1 S 1 (bX l)=some (J5 (l.map (D.int .u8))):=by simp[bX,C1]
 simp only[a7K,this,c2L,Option.map_some]
@[simp] theorem c9V(S:b5)(arms:List (Int×Int)):rowsS S 2 (a5e arms)=some (arms.map Y1):=by simp[a5e,rowsS,C1]
theorem b9v(a b:Int):(a != b)=decide (a≠b):=by by_cases h:a=b<;>simp[h,bne]
section
variable{E:g8}{w0:j0}
theorem b4s{l:List Int}(hl:l.length<2^30):U2 Try.prog E w0 a1b [bD l] (bX l):=fun S=>by
 refine b1h ?_
 unfold a8k
 refine(Grw.nil S 1).push (c8x _ _) (by simp;omega) fun t S1 g=> ?_
 refine E8 (rows:=J5 [.int .u8 77]) rfl ?_
 refine g.last (news:=J5 [.int .u8 77]) rfl (by simp[J5]) (by simp;omega) ?_
 rw[a2u,oD,List.nil_append,d1l (by simp),oD,List.take_left' (by simp),List.drop_left' (by simp)]
 exact b9.pure
theorem b4W{l:List Int}(hl:l.length<2^60):U2 Try.prog E w0 a1o [bX l,bD l] (.bool true):=fun S=>by
 refine b0Y ?_
 unfold a8c
 rw[d0h,oD,d0x,oD,d0X,beq_self_eq_true]
 simp only[oD,wdB,beq_self_eq_true,vdT,a2u,C4]
 rw[i6 (by omega) (by omega),show((l.length:Int)+1)=((l.length+1:Nat):Int) by omega,bX,d1e (by simp),oD]
 have e2:b8u ((J5 (l.map (D.int .u8))++J5 [.int .u8 77]).take (l.length+1)) ((J5 (l.map (D.int .u8))++J5 [.int .u8 77]).drop (l.length+1)) 1=bD (l++[77]):=by
  rw[List.take_of_length_le (by simp),List.drop_of_length_le (by simp)]
  simp[b8u,bD,J5]
 rw[e2,b8B (i:=l.length) (b:=77) (by simp),oD,lsE,List.getElem?_cons_zero,oD,a2Z,oD,pdB,oD]
 exact b9.pure
end
end
section
abbrev Tx:=List UInt8
structure Ty where
 kind:Int
 name:Tx
 fields:List (Tx×Int)
 elem:Int
 len:Int
 deriving DecidableEq
structure Ro where
 name:Tx
 params:List Int
 results:List Int
 locals:Int
 stack:Int
 code:List Int
 deriving DecidableEq
structure Mo where
 types:List Ty
 texts:List Tx
 funcs:List Ro
 deriving DecidableEq
structure Ty.Ok (t:Ty):Prop where
 kind:0≤t.kind∧t.kind≤255
 name:t.name.length<2^47
 fields:t.fields.length<2^47
 names:∀f∈t.fields,f.1.length<2^47∧I64 f.2
 elem:I64 t.elem
 len:I64 t.len
structure Ro.Ok (r:Ro):Prop where
 name:r.name.length<2^47
 params:r.params.length<2^47
 results:r.results.length<2^47
 ints:∀n∈r.params++r.results,I64 n
 locals:I64 r.locals
 stack:I64 r.stack
 code:r.code.length<2^47
 bytes:∀b∈r.code,J0 b
structure Mo.Ok (m:Mo):Prop where
 types:m.types.length<2^47
 texts:m.texts.length<2^47
 funcs:m.funcs.length<2^47
 ty:∀t∈m.types,t.Ok
 tx:∀t∈m.texts,t.length<2^47
 ro:∀r∈m.funcs,r.Ok
def c7U(f:Tx×Int):List D:=[.str f.1, .int .i64 f.2]
def c1E(fs:List (Tx×Int)):D:= .lst (fs.map c7U) 2
def tyR(t:Ty):List D:=[.int .u8 t.kind, .str t.name,c1E t.fields, .int .i64 t.elem, .int .i64 t.len]
def d0n(l:List Ty):D:= .lst (l.map tyR) 5
def c8u(l:List Tx):D:= .lst (J5 (l.map D.str)) 1
def roR(r:Ro):List D:=[.str r.name,iD r.params,iD r.results, .int .i64 r.locals, .int .i64 r.stack,bD r.code]
def d0w(l:List Ro):D:= .lst (l.map roR) 6
@[simp] theorem d0c(l:List (Tx×Int)):j9 (c1E l)=some (.int .i64 l.length):=by simp[c1E]
@[simp] theorem d0C(l:List Ty):j9 (d0n l)=some (.int .i64 l.length):=by simp[d0n]
@[simp] theorem d0k(l:List Tx):j9 (c8u l)=some (.int .i64 l.length):=by simp[c8u]
@[simp] theorem d0D(l:List Ro):j9 (d0w l)=some (.int .i64 l.length):=by simp[d0w]
@[simp] theorem d1I(S:b5)(p:Tx×Int):l9 S 2 (.elt (c7U p) 0)=some (.agg (c7U p)):=(rfl)
@[simp] theorem d1R(S:b5)(p:Ty):l9 S 5 (.elt (tyR p) 0)=some (.agg (tyR p)):=(rfl)
@[simp] theorem d1T(S:b5)(p:Ro):l9 S 6 (.elt (roR p) 0)=some (.agg (roR p)):=(rfl)
theorem b6V(k:IntKind)(a b:Int):d5 .neq (.int k a) (.int k b)=some (.bool (decide (a≠b))):=by rw[a9c,b9v]
theorem O7(k:IntKind)(a b:Int):d5 .eql (.int k a) (.int k b)=some (.bool (decide (a=b))):=by rw[a2Z,d0m]
section
variable{E:g8}{w0:j0}
theorem t1:(true==false)=false:=rfl
theorem t2:(false==false)=true:=rfl
theorem t3:(false==true)=false:=rfl
theorem t4:(true==true)=true:=rfl
end
end
end Go.Proofs.Ytdkidgkiplcggaa.d
end
