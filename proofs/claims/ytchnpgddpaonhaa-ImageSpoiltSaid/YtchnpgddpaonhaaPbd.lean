/-
  ImageSpoiltSaid: part Pbd of its proof.
-/
import Derived.Test.YtchnpgddpaonhaaRows
import Derived.Test.YtchnpgddpaonhaaPaq
import Derived.KernelRfl
import Derived.Test.YtchnpgddpaonhaaPbc
set_option linter.unusedVariables false
set_option linter.unusedSimpArgs false
set_option maxRecDepth 100000
section
open Go.Proofs Go Go.Am
namespace Go.Proofs.Ytchnpgddpaonhaa.d
def b1Y:List (Nat×List Nat):=[(10,[0,1,7,21,22])]
def b1S:List (Nat×List Nat):=[]
def b1C:List (Nat×Arr):=[]
noncomputable def a8I:Code:=(l9 [1,1,1,0,1,0,0] (Try.f79.body.getD .skip))
def a8T(E:m6)(w0:o3)(Q:D→b7→Prop):r4→List D→b7→Prop:=
 (t7 0 (I5 Try.prog E w0 b1Y b1S b1C (l9 [1,1,1,1] (Try.f79.body.getD .skip)) (I4 Try.prog Try.f79 Q)))
def b0e(E:m6)(w0:o3)(N0:D→D→D→D→D→b7→Prop)(Q:D→b7→Prop)(x0 x1 x7 x21 x22:D)(S:b7):Prop:=
 a9 (d8 .lss x22 x21) fun v8=>
 i9 v8
 (a9 (d8 .add x1 x22) fun v9=>
 a9 (A7 1 x0 v9) fun v10=>
 a9 (c9 S v10) fun v11=>
 a9 (d8 .eql x22 (.int .i64 9)) fun v12=>
 a9 (j9 (d6 v12 true) (some v11)) fun v13=>
 a9 (j9 (d6 v12 true) (d8 .gtr v13 (.int .u8 1))) fun v14=>
 a9 (z2 v12 v14 (.bool false)) fun v15=>
 a9 (j9 (d6 v15 false) (some x22)) fun v16=>
 a9 (j9 (d6 v15 false) (d8 .gtr v16 (.int .i64 0))) fun v17=>
 a9 (j9 (d6 v15 false) (some v17)) fun v18=>
 a9 (j9 (d6 v18 true) (some v11)) fun v19=>
 a9 (j9 (d6 v18 true) (d8 .eql v19 (.int .u8 0))) fun v20=>
 a9 (j9 (d6 v15 false) (z2 v18 v20 (.bool false))) fun v21=>
 a9 (z2 v15 (.bool true) v21) fun v22=>
 i9 v22
 (Q (.tup [(.int .u64 0),(.int .i64 0),(.int .i64 11)]) S)
 (a9 (d8 .and v11 (.int .u8 127)) fun v23=>
 a9 (I6 .u64 v23) fun v24=>
 a9 (d8 .mul (.int .i64 7) x22) fun v25=>
 a9 (d8 .shl v24 v25) fun v26=>
 a9 (d8 .or x7 v26) fun v27=>
 a9 (d8 .and v11 (.int .u8 128)) fun v28=>
 a9 (d8 .eql v28 (.int .u8 0)) fun v29=>
 i9 v29
 (a9 (d8 .add x1 x22) fun v30=>
 a9 (d8 .add v30 (.int .i64 1)) fun v31=>
 Q (.tup [v27,v31,(.int .i64 0)]) S)
 (a9 (d8 .add x22 (.int .i64 1)) fun v32=>
 N0 x0 x1 v27 x21 v32 S)))
 (Q (.tup [(.int .u64 0),(.int .i64 0),(.int .i64 10)]) S)
theorem b9e{E:m6}{w0:o3}{N0:D→D→D→D→D→b7→Prop}{Q:D→b7→Prop}{x0 x1 x7 x21 x22:D}{S:b7}(h:b0e E w0 N0 Q x0 x1 x7 x21 x22 S):
  k9 Try.prog E w0 a8I (n9 62 [0,1,7,21,22] [x0,x1,x7,x21,x22]) S (C0 (fun T S=>N0 (T.getD 0 b8) (T.getD 1 b8) (T.getD 7 b8) (T.getD 21 b8) (T.getD 22 b8) S) (a8T E w0 Q)):=l8 b1Y b1S b1C o9 (by kernel_rfl) h
theorem b9g{E:m6}{w0:o3}{Q:D→b7→Prop}(I:Nat→D→D→D→D→D→b7→Prop)
  (step:∀n x0 x1 x7 x21 x22 S,I n x0 x1 x7 x21 x22 S→b0e E w0 (fun x0 x1 x7 x21 x22 S=>∃m,m<n∧I m x0 x1 x7 x21 x22 S) Q x0 x1 x7 x21 x22 S)
  {n:Nat} {x0 x1 x7 x21 x22:D} {S:b7} (h:I n x0 x1 x7 x21 x22 S):k9 Try.prog E w0 (.loop a8I) (n9 62 [0,1,7,21,22] [x0,x1,x7,x21,x22]) S (a8T E w0 Q):=
 r8 (k:=62) (n:=n) (I:=fun n T S=>I n (T.getD 0 b8) (T.getD 1 b8) (T.getD 7 b8) (T.getD 21 b8) (T.getD 22 b8) S) (fun n T S hl hI=>s6 [0,1,7,21,22] hl (k9.mono (b9e (step n _ _ _ _ _ S hI)) fun ex T' S' _ hq=>by cases ex<;>exact hq)) (o7 ..) (Eq.mp (by kernel_rfl) h)
def c0B(E:m6)(w0:o3)(Q:D→b7→Prop)(a0 a1:D)(S:b7):Prop:=
 a9 (d8 .lss a1 (.int .i64 0)) fun v0=>
 a9 (j9 (d6 v0 false) (some a1)) fun v1=>
 a9 (j9 (d6 v0 false) (some a0)) fun v2=>
 a9 (j9 (d6 v0 false) (r6 v2)) fun v3=>
 a9 (j9 (d6 v0 false) (d8 .gtr v1 v3)) fun v4=>
 a9 (z2 v0 (.bool true) v4) fun v5=>
 i9 v5
 (Q (.tup [(.int .u64 0),(.int .i64 0),(.int .i64 2)]) S)
 (a9 (r6 a0) fun v6=>
 a9 (d8 .sub v6 a1) fun v7=>
 k9 Try.prog E w0 (.loop a8I) (n9 62 [0,1,7,21,22] [a0,a1,(.int .u64 0),v7,(.int .i64 0)]) S (a8T E w0 Q))
theorem c2b{E:m6}{w0:o3}{Q:D→b7→Prop}{a0 a1:D}{S:b7}(h:c0B E w0 (d9 E Q) a0 a1 S):o4 Try.prog E w0 b3Z [a0,a1] S Q:=
 m9 b1Y b1S b1C (fn:=Try.f79) (c:=Try.f79.body.getD .skip) o9 Try.func79 (by kernel_rfl) (by kernel_rfl) h
def b0c:List (Nat×List Nat):=[]
def a9x:List (Nat×List Nat):=[]
def b0d:List (Nat×Arr):=[]
def a3o(E:m6)(w0:o3)(Q:D→b7→Prop)(a0:D)(S:b7):Prop:=
 a9 (U4 a0) fun v0=>
 a9 (m8 0 v0) fun v1=>
 a9 (c9 S v1) fun v2=>
 a9 (U4 a0) fun v3=>
 a9 (m8 1 v3) fun v4=>
 a9 (c9 S v4) fun v5=>
 o4 Try.prog E w0 b3Z [v2,v5] S fun v6 S7=>
 a9 (o5 v6 0) fun v8=>
 a9 (o5 v6 1) fun v9=>
 a9 (o5 v6 2) fun v10=>
 a9 (d8 .eql v10 (.int .i64 10)) fun v11=>
 i9 v11
 (a9 (U4 a0) fun v12=>
 a9 (m8 0 v12) fun v13=>
 a9 (c9 S7 v13) fun v14=>
 a9 (r6 v14) fun v15=>
 a9 (E6 (w6 [(.int .i64 0),(.int .i64 0)] [(0,1,v15),(1,1,v10)])) fun v16=>
 a9 (some (D.ifc 76 v16)) fun v17=>
 a0S E w0 v17 S7)
 (a9 (d8 .neq v10 (.int .i64 0)) fun v18=>
 i9 v18
 (a9 (U4 a0) fun v19=>
 a9 (m8 1 v19) fun v20=>
 a9 (c9 S7 v20) fun v21=>
 a9 (E6 (w6 [(.int .i64 0),(.int .i64 0)] [(0,1,v21),(1,1,v10)])) fun v22=>
 a9 (some (D.ifc 76 v22)) fun v23=>
 a0S E w0 v23 S7)
 (a9 (d8 .gtr v8 (.int .u64 2147483647)) fun v24=>
 i9 v24
 (a9 (U4 a0) fun v25=>
 a9 (m8 1 v25) fun v26=>
 a9 (c9 S7 v26) fun v27=>
 a9 (E6 (w6 [(.int .i64 0),(.int .i64 0)] [(0,1,v27),(1,1,(.int .i64 130))])) fun v28=>
 a9 (some (D.ifc 76 v28)) fun v29=>
 a0S E w0 v29 S7)
 (a9 (U4 a0) fun v30=>
 a9 (m8 1 v30) fun v31=>
 f0 S7 1 v31 v9 fun v32 S33=>
 a9 (I6 .i64 v8) fun v34=>
 Q v34 S33)))
theorem a7q{E:m6}{w0:o3}{Q:D→b7→Prop}{a0:D}{S:b7}(h:a3o E w0 (d9 E Q) a0 S):o4 Try.prog E w0 z4 [a0] S Q:=
 m9 b0c a9x b0d (fn:=Try.f61) (c:=Try.f61.body.getD .skip) o9 Try.func61 (by kernel_rfl) (by kernel_rfl) h
def b0D:List (Nat×List Nat):=[]
def b0J:List (Nat×List Nat):=[]
def b0G:List (Nat×Arr):=[]
def a4x(E:m6)(w0:o3)(Q:D→b7→Prop)(a0 a1:D)(S:b7):Prop:=
 a9 (U4 a0) fun v0=>
 a9 (m8 1 v0) fun v1=>
 a9 (c9 S v1) fun v2=>
 o4 Try.prog E w0 z4 [a0] S fun v3 S4=>
 a9 (d8 .gtr v3 a1) fun v5=>
 i9 v5
 (a9 (E6 (w6 [(.int .i64 0),(.int .i64 0)] [(0,1,v2),(1,1,(.int .i64 3))])) fun v6=>
 a9 (some (D.ifc 76 v6)) fun v7=>
 a0S E w0 v7 S4)
 (Q v3 S4)
theorem a8m{E:m6}{w0:o3}{Q:D→b7→Prop}{a0 a1:D}{S:b7}(h:a4x E w0 (d9 E Q) a0 a1 S):o4 Try.prog E w0 B5 [a0,a1] S Q:=
 m9 b0D b0J b0G (fn:=Try.f57) (c:=Try.f57.body.getD .skip) o9 Try.func57 (by kernel_rfl) (by kernel_rfl) h
def a9v:List (Nat×List Nat):=[]
def a9p:List (Nat×List Nat):=[]
def a8G:List (Nat×Arr):=[]
def a3s(E:m6)(w0:o3)(Q:D→b7→Prop)(a0 a1:D)(S:b7):Prop:=
 a9 (U4 a0) fun v0=>
 a9 (m8 0 v0) fun v1=>
 a9 (c9 S v1) fun v2=>
 a9 (r6 v2) fun v3=>
 a9 (U4 a0) fun v4=>
 a9 (m8 1 v4) fun v5=>
 a9 (c9 S v5) fun v6=>
 a9 (d8 .sub v3 v6) fun v7=>
 a9 (d8 .gtr a1 v7) fun v8=>
 i9 v8
 (a9 (U4 a0) fun v9=>
 a9 (m8 0 v9) fun v10=>
 a9 (c9 S v10) fun v11=>
 a9 (r6 v11) fun v12=>
 a9 (E6 (w6 [(.int .i64 0),(.int .i64 0)] [(0,1,v12),(1,1,(.int .i64 10))])) fun v13=>
 a9 (some (D.ifc 76 v13)) fun v14=>
 a0S E w0 v14 S)
 (a9 (U4 a0) fun v15=>
 a9 (m8 1 v15) fun v16=>
 a9 (c9 S v16) fun v17=>
 a9 (d8 .add v17 a1) fun v18=>
 a9 (U4 a0) fun v19=>
 a9 (m8 1 v19) fun v20=>
 f0 S 1 v20 v18 fun v21 S22=>
 a9 (U4 a0) fun v23=>
 a9 (m8 0 v23) fun v24=>
 a9 (c9 S22 v24) fun v25=>
 a9 (U4 a0) fun v26=>
 a9 (m8 1 v26) fun v27=>
 a9 (c9 S22 v27) fun v28=>
 a9 (d8 .sub v28 a1) fun v29=>
 a9 (U4 a0) fun v30=>
 a9 (m8 1 v30) fun v31=>
 a9 (c9 S22 v31) fun v32=>
 a9 (Q1 1 v25 (some v29) (some v32) none) fun v33=>
 Q v33 S22)
theorem a7w{E:m6}{w0:o3}{Q:D→b7→Prop}{a0 a1:D}{S:b7}(h:a3s E w0 (d9 E Q) a0 a1 S):o4 Try.prog E w0 J1 [a0,a1] S Q:=
 m9 a9v a9p a8G (fn:=Try.f63) (c:=Try.f63.body.getD .skip) o9 Try.func63 (by kernel_rfl) (by kernel_rfl) h
def b1v:List (Nat×List Nat):=[]
def b2f:List (Nat×List Nat):=[]
def b1b:List (Nat×Arr):=[]
def a4H(E:m6)(w0:o3)(Q:D→b7→Prop)(a0 a1:D)(S:b7):Prop:=
 o4 Try.prog E w0 B5 [a0,a1] S fun v0 S1=>
 o4 Try.prog E w0 J1 [a0,v0] S1 fun v2 S3=>
 a9 (b3I S3 v2) fun v4=>
 Q v4 S3
theorem a8R{E:m6}{w0:o3}{Q:D→b7→Prop}{a0 a1:D}{S:b7}(h:a4H E w0 (d9 E Q) a0 a1 S):o4 Try.prog E w0 I2 [a0,a1] S Q:=
 m9 b1v b2f b1b (fn:=Try.f59) (c:=Try.f59.body.getD .skip) o9 Try.func59 (by kernel_rfl) (by kernel_rfl) h
def X8:List (Nat×List Nat):=[(4,[0,4,7,8])]
def X6:List (Nat×List Nat):=[]
def Y6:List (Nat×Arr):=[]
noncomputable def U8:Code:=(l9 [1,0,1,0,0] (Try.f60.body.getD .skip))
def W1(E:m6)(w0:o3)(Q:D→b7→Prop):r4→List D→b7→Prop:=
 (t7 0 (I5 Try.prog E w0 X8 X6 Y6 (l9 [1,1] (Try.f60.body.getD .skip)) (I4 Try.prog Try.f60 Q)))
def U7(E:m6)(w0:o3)(N0:D→D→D→D→b7→Prop)(Q:D→b7→Prop)(x0 x4 x7 x8:D)(S:b7):Prop:=
 a9 (d8 .lss x8 x7) fun v2=>
 i9 v2
 (o4 Try.prog E w0 z4 [x0] S fun v3 S4=>
 u6 S4 1 (p9 1 (List.replicate 1 [(.int .i64 0)]) [(0,v3)]) 1 fun v5 S6=>
 y9 S6 1 8 x4 v5 fun v7 S8=>
 a9 (d8 .add x8 (.int .i64 1)) fun v9=>
 N0 x0 v7 x7 v9 S8)
 (Q x4 S)
theorem a5g{E:m6}{w0:o3}{N0:D→D→D→D→b7→Prop}{Q:D→b7→Prop}{x0 x4 x7 x8:D}{S:b7}(h:U7 E w0 N0 Q x0 x4 x7 x8 S):
  k9 Try.prog E w0 U8 (n9 17 [0,4,7,8] [x0,x4,x7,x8]) S (C0 (fun T S=>N0 (T.getD 0 b8) (T.getD 4 b8) (T.getD 7 b8) (T.getD 8 b8) S) (W1 E w0 Q)):=l8 X8 X6 Y6 o9 (by kernel_rfl) h
theorem a4T{E:m6}{w0:o3}{Q:D→b7→Prop}(I:Nat→D→D→D→D→b7→Prop)
  (step:∀n x0 x4 x7 x8 S,I n x0 x4 x7 x8 S→U7 E w0 (fun x0 x4 x7 x8 S=>∃m,m<n∧I m x0 x4 x7 x8 S) Q x0 x4 x7 x8 S)
  {n:Nat} {x0 x4 x7 x8:D} {S:b7} (h:I n x0 x4 x7 x8 S):k9 Try.prog E w0 (.loop U8) (n9 17 [0,4,7,8] [x0,x4,x7,x8]) S (W1 E w0 Q):=
 r8 (k:=17) (n:=n) (I:=fun n T S=>I n (T.getD 0 b8) (T.getD 4 b8) (T.getD 7 b8) (T.getD 8 b8) S) (fun n T S hl hI=>s6 [0,4,7,8] hl (k9.mono (a5g (step n _ _ _ _ S hI)) fun ex T' S' _ hq=>by cases ex<;>exact hq)) (o7 ..) (Eq.mp (by kernel_rfl) h)
def a3a(E:m6)(w0:o3)(Q:D→b7→Prop)(a0 a1:D)(S:b7):Prop:=
 o4 Try.prog E w0 B5 [a0,a1] S fun v0 S1=>
 k9 Try.prog E w0 (.loop U8) (n9 17 [0,4,7,8] [a0, .nilSlc,v0,(.int .i64 0)]) S1 (W1 E w0 Q)
theorem a6L{E:m6}{w0:o3}{Q:D→b7→Prop}{a0 a1:D}{S:b7}(h:a3a E w0 (d9 E Q) a0 a1 S):o4 Try.prog E w0 N8 [a0,a1] S Q:=
 m9 X8 X6 Y6 (fn:=Try.f60) (c:=Try.f60.body.getD .skip) o9 Try.func60 (by kernel_rfl) (by kernel_rfl) h
def a1L:List (Nat×List Nat):=[(16,[0,2,25,26])]
def a1E:List (Nat×List Nat):=[]
def a1G:List (Nat×Arr):=[]
noncomputable def a1c:Code:=(l9 [1,1,0,1,1,0,1,0,1,1,0,0] (Try.f58.body.getD .skip))
def a0R(E:m6)(w0:o3)(Q:D→b7→Prop):r4→List D→b7→Prop:=
 (t7 1 (t7 0 (I5 Try.prog E w0 a1L a1E a1G (l9 [1,1,1] (Try.f58.body.getD .skip)) (I4 Try.prog Try.f58 Q))))
def a1e(E:m6)(w0:o3)(N0:D→D→D→D→b7→Prop)(Q:D→b7→Prop)(x0 x2 x25 x26:D)(S:b7):Prop:=
 a9 (d8 .lss x26 x25) fun v22=>
 i9 v22
 (o4 Try.prog E w0 I2 [x0,(.int .i64 65536)] S fun v23 S24=>
 a9 (m8 2 x2) fun v25=>
 a9 (c9 S24 v25) fun v26=>
 o4 Try.prog E w0 z4 [x0] S24 fun v27 S28=>
 t6 v25 S24 S28∧a9 (E6 (w6 [(.str []),(.int .i64 0)] [(0,1,v23),(1,1,v27)])) fun v29=>
 u6 S28 2 (p9 2 (List.replicate 1 [(.str []),(.int .i64 0)]) [(0,v29)]) 1 fun v30 S31=>
 t6 v25 S24 S31∧y9 S31 2 24 v26 v30 fun v32 S33=>
 a9 (m8 2 x2) fun v34=>
 f0 S33 1 v34 v32 fun v35 S36=>
 a9 (d8 .add x26 (.int .i64 1)) fun v37=>
 N0 x0 x2 x25 v37 S36)
 (a9 (j0 S 5 x2) fun v38=>
 f0 S 5 x2 v38 fun v39 S40=>
 a9 (j0 S40 5 x2) fun v41=>Q v41 S40)
theorem a8l{E:m6}{w0:o3}{N0:D→D→D→D→b7→Prop}{Q:D→b7→Prop}{x0 x2 x25 x26:D}{S:b7}(h:a1e E w0 N0 Q x0 x2 x25 x26 S):
  k9 Try.prog E w0 a1c (n9 54 [0,2,25,26] [x0,x2,x25,x26]) S (C0 (fun T S=>N0 (T.getD 0 b8) (T.getD 2 b8) (T.getD 25 b8) (T.getD 26 b8) S) (a0R E w0 Q)):=l8 a1L a1E a1G o9 (by kernel_rfl) h
theorem a7P{E:m6}{w0:o3}{Q:D→b7→Prop}(I:Nat→D→D→D→D→b7→Prop)
  (step:∀n x0 x2 x25 x26 S,I n x0 x2 x25 x26 S→a1e E w0 (fun x0 x2 x25 x26 S=>∃m,m<n∧I m x0 x2 x25 x26 S) Q x0 x2 x25 x26 S)
  {n:Nat} {x0 x2 x25 x26:D} {S:b7} (h:I n x0 x2 x25 x26 S):k9 Try.prog E w0 (.loop a1c) (n9 54 [0,2,25,26] [x0,x2,x25,x26]) S (a0R E w0 Q):=
 r8 (k:=54) (n:=n) (I:=fun n T S=>I n (T.getD 0 b8) (T.getD 2 b8) (T.getD 25 b8) (T.getD 26 b8) S) (fun n T S hl hI=>s6 [0,2,25,26] hl (k9.mono (a8l (step n _ _ _ _ S hI)) fun ex T' S' _ hq=>by cases ex<;>exact hq)) (o7 ..) (Eq.mp (by kernel_rfl) h)
def a6p(E:m6)(w0:o3)(Q:D→b7→Prop)(a0:D)(S:b7):Prop:=
 o6 S [(.int .u8 0),(.str []), .nilSlc,(.int .i64 0),(.int .i64 0)] fun v0 S1=>
 a9 (U4 a0) fun v2=>
 a9 (m8 1 v2) fun v3=>
 a9 (c9 S1 v3) fun v4=>
 o4 Try.prog E w0 J1 [a0,(.int .i64 1)] S1 fun v5 S6=>
 a9 (A7 1 v5 (.int .i64 0)) fun v7=>
 a9 (c9 S6 v7) fun v8=>
 a9 (m8 0 v0) fun v9=>
 f0 S6 1 v9 v8 fun v10 S11=>
 a9 (m8 0 v0) fun v12=>
 a9 (c9 S11 v12) fun v13=>
 a9 (d8 .eql v13 (.int .u8 6)) fun v14=>
 i9 v14
 (o4 Try.prog E w0 I2 [a0,(.int .i64 65536)] S11 fun v15 S16=>
 a9 (m8 1 v0) fun v17=>
 f0 S16 1 v17 v15 fun v18 S19=>
 o4 Try.prog E w0 B5 [a0,(.int .i64 32)] S19 fun v20 S21=>
 k9 Try.prog E w0 (.loop a1c) (n9 54 [0,2,25,26] [a0,v0,v20,(.int .i64 0)]) S21 (a0R E w0 Q))
 (a9 (d8 .eql v13 (.int .u8 7)) fun v42=>
 i9 v42
 (o4 Try.prog E w0 z4 [a0] S11 fun v43 S44=>
 a9 (m8 3 v0) fun v45=>
 f0 S44 1 v45 v43 fun v46 S47=>
 o4 Try.prog E w0 z4 [a0] S47 fun v48 S49=>
 a9 (m8 4 v0) fun v50=>
 f0 S49 1 v50 v48 fun v51 S52=>
 a9 (j0 S52 5 v0) fun v53=>
 f0 S52 5 v0 v53 fun v54 S55=>
 a9 (j0 S55 5 v0) fun v56=>Q v56 S55)
 (a9 (d8 .eql v13 (.int .u8 8)) fun v57=>
 i9 v57
 (o4 Try.prog E w0 z4 [a0] S11 fun v58 S59=>
 a9 (m8 3 v0) fun v60=>
 f0 S59 1 v60 v58 fun v61 S62=>
 a9 (j0 S62 5 v0) fun v63=>
 f0 S62 5 v0 v63 fun v64 S65=>
 a9 (j0 S65 5 v0) fun v66=>Q v66 S65)
 (a9 (E6 (w6 [(.int .i64 0),(.int .i64 0)] [(0,1,v4),(1,1,(.int .i64 130))])) fun v67=>
 a9 (some (D.ifc 76 v67)) fun v68=>
 a0S E w0 v68 S11)))
theorem b0I{E:m6}{w0:o3}{Q:D→b7→Prop}{a0:D}{S:b7}(h:a6p E w0 (d9 E Q) a0 S):o4 Try.prog E w0 a2d [a0] S Q:=
 m9 a1L a1E a1G (fn:=Try.f58) (c:=Try.f58.body.getD .skip) o9 Try.func58 (by kernel_rfl) (by kernel_rfl) h
def D1:List (Nat×List Nat):=[(4,[0,2,5,6]),(12,[0,2,17,18]),(20,[0,2,29,30])]
def D0:List (Nat×List Nat):=[]
def D3:List (Nat×Arr):=[]
noncomputable def Y1:Code:=(l9 [1,1,1,0,1,0,0] (Try.f41.body.getD .skip))
def Z3(E:m6)(w0:o3)(Q:D→b7→Prop):r4→List D→b7→Prop:=
 (t7 4 (I5 Try.prog E w0 D1 D0 D3 (l9 [1,1,1,1] (Try.f41.body.getD .skip)) (I4 Try.prog Try.f41 Q)))
def Z0(E:m6)(w0:o3)(N2:D→D→D→D→b7→Prop)(Q:D→b7→Prop)(x0 x2 x29 x30:D)(S:b7):Prop:=
 a9 (d8 .lss x30 x29) fun v34=>
 i9 v34
 (o6 S [(.str []), .nilSlc, .nilSlc,(.int .i64 0),(.int .i64 0), .nilSlc] fun v35 S36=>
 o4 Try.prog E w0 I2 [x0,(.int .i64 65536)] S36 fun v37 S38=>
 a9 (m8 0 v35) fun v39=>
 f0 S38 1 v39 v37 fun v40 S41=>
 o4 Try.prog E w0 N8 [x0,(.int .i64 32)] S41 fun v42 S43=>
 a9 (m8 1 v35) fun v44=>
 f0 S43 1 v44 v42 fun v45 S46=>
 o4 Try.prog E w0 N8 [x0,(.int .i64 8)] S46 fun v47 S48=>
 a9 (m8 2 v35) fun v49=>
 f0 S48 1 v49 v47 fun v50 S51=>
 o4 Try.prog E w0 z4 [x0] S51 fun v52 S53=>
 a9 (m8 3 v35) fun v54=>
 f0 S53 1 v54 v52 fun v55 S56=>
 o4 Try.prog E w0 z4 [x0] S56 fun v57 S58=>
 a9 (m8 4 v35) fun v59=>
 f0 S58 1 v59 v57 fun v60 S61=>
 o4 Try.prog E w0 B5 [x0,(.int .i64 65536)] S61 fun v62 S63=>
 o4 Try.prog E w0 J1 [x0,v62] S63 fun v64 S65=>
 o4 Try.prog E w0 a3Q [v64] S65 fun v66 S67=>
 a9 (m8 5 v35) fun v68=>
 f0 S67 1 v68 v66 fun v69 S70=>
 a9 (m8 2 x2) fun v71=>
 a9 (c9 S70 v71) fun v72=>
 a9 (j0 S70 6 v35) fun v73=>
 u6 S70 6 (p9 6 (List.replicate 1 [(.str []), .nilSlc, .nilSlc,(.int .i64 0),(.int .i64 0), .nilSlc]) [(0,v73)]) 1 fun v74 S75=>
 y9 S75 6 104 v72 v74 fun v76 S77=>
 a9 (m8 2 x2) fun v78=>
 f0 S77 1 v78 v76 fun v79 S80=>
 a9 (d8 .add x30 (.int .i64 1)) fun v81=>
 N2 x0 x2 x29 v81 S80)
 (a9 (U4 x0) fun v82=>
 a9 (m8 1 v82) fun v83=>
 a9 (c9 S v83) fun v84=>
 a9 (U4 x0) fun v85=>
 a9 (m8 0 v85) fun v86=>
 a9 (c9 S v86) fun v87=>
 a9 (r6 v87) fun v88=>
 a9 (d8 .lss v84 v88) fun v89=>
 i9 v89
 (a9 (U4 x0) fun v90=>
 a9 (m8 1 v90) fun v91=>
 a9 (c9 S v91) fun v92=>
 a9 (E6 (w6 [(.int .i64 0),(.int .i64 0)] [(0,1,v92),(1,1,(.int .i64 130))])) fun v93=>
 a9 (some (D.ifc 76 v93)) fun v94=>
 a0S E w0 v94 S)
 (a9 (j0 S 3 x2) fun v95=>
 f0 S 3 x2 v95 fun v96 S97=>
 a9 (j0 S97 3 x2) fun v98=>Q v98 S97))
theorem a6k{E:m6}{w0:o3}{N2:D→D→D→D→b7→Prop}{Q:D→b7→Prop}{x0 x2 x29 x30:D}{S:b7}(h:Z0 E w0 N2 Q x0 x2 x29 x30 S):
  k9 Try.prog E w0 Y1 (n9 77 [0,2,29,30] [x0,x2,x29,x30]) S (C0 (fun T S=>N2 (T.getD 0 b8) (T.getD 2 b8) (T.getD 29 b8) (T.getD 30 b8) S) (Z3 E w0 Q)):=l8 D1 D0 D3 o9 (by kernel_rfl) h
theorem a5L{E:m6}{w0:o3}{Q:D→b7→Prop}(I:Nat→D→D→D→D→b7→Prop)
  (step:∀n x0 x2 x29 x30 S,I n x0 x2 x29 x30 S→Z0 E w0 (fun x0 x2 x29 x30 S=>∃m,m<n∧I m x0 x2 x29 x30 S) Q x0 x2 x29 x30 S)
  {n:Nat} {x0 x2 x29 x30:D} {S:b7} (h:I n x0 x2 x29 x30 S):k9 Try.prog E w0 (.loop Y1) (n9 77 [0,2,29,30] [x0,x2,x29,x30]) S (Z3 E w0 Q):=
 r8 (k:=77) (n:=n) (I:=fun n T S=>I n (T.getD 0 b8) (T.getD 2 b8) (T.getD 29 b8) (T.getD 30 b8) S) (fun n T S hl hI=>s6 [0,2,29,30] hl (k9.mono (a6k (step n _ _ _ _ S hI)) fun ex T' S' _ hq=>by cases ex<;>exact hq)) (o7 ..) (Eq.mp (by kernel_rfl) h)
noncomputable def Y0:Code:=(l9 [1,1,0,1,0,0] (Try.f41.body.getD .skip))
def Z5(E:m6)(w0:o3)(Q:D→b7→Prop):r4→List D→b7→Prop:=
 (t7 2 (I5 Try.prog E w0 D1 D0 D3 (l9 [1,1,1] (Try.f41.body.getD .skip)) (I4 Try.prog Try.f41 Q)))
def Y2(E:m6)(w0:o3)(N1:D→D→D→D→b7→Prop)(Q:D→b7→Prop)(x0 x2 x17 x18:D)(S:b7):Prop:=
 a9 (d8 .lss x18 x17) fun v19=>
 i9 v19
 (a9 (m8 1 x2) fun v20=>
 a9 (c9 S v20) fun v21=>
 o4 Try.prog E w0 I2 [x0,(.int .i64 65536)] S fun v22 S23=>
 t6 v20 S S23∧u6 S23 1 (p9 1 (List.replicate 1 [(.str [])]) [(0,v22)]) 1 fun v24 S25=>
 t6 v20 S S25∧y9 S25 1 16 v21 v24 fun v26 S27=>
 a9 (m8 1 x2) fun v28=>
 f0 S27 1 v28 v26 fun v29 S30=>
 a9 (d8 .add x18 (.int .i64 1)) fun v31=>
 N1 x0 x2 x17 v31 S30)
 (o4 Try.prog E w0 B5 [x0,(.int .i64 256)] S fun v32 S33=>
 k9 Try.prog E w0 (.loop Y1) (n9 77 [0,2,29,30] [x0,x2,v32,(.int .i64 0)]) S33 (Z3 E w0 Q))
theorem a6a{E:m6}{w0:o3}{N1:D→D→D→D→b7→Prop}{Q:D→b7→Prop}{x0 x2 x17 x18:D}{S:b7}(h:Y2 E w0 N1 Q x0 x2 x17 x18 S):
  k9 Try.prog E w0 Y0 (n9 77 [0,2,17,18] [x0,x2,x17,x18]) S (C0 (fun T S=>N1 (T.getD 0 b8) (T.getD 2 b8) (T.getD 17 b8) (T.getD 18 b8) S) (Z5 E w0 Q)):=l8 D1 D0 D3 o9 (by kernel_rfl) h
theorem a5V{E:m6}{w0:o3}{Q:D→b7→Prop}(I:Nat→D→D→D→D→b7→Prop)
  (step:∀n x0 x2 x17 x18 S,I n x0 x2 x17 x18 S→Y2 E w0 (fun x0 x2 x17 x18 S=>∃m,m<n∧I m x0 x2 x17 x18 S) Q x0 x2 x17 x18 S)
  {n:Nat} {x0 x2 x17 x18:D} {S:b7} (h:I n x0 x2 x17 x18 S):k9 Try.prog E w0 (.loop Y0) (n9 77 [0,2,17,18] [x0,x2,x17,x18]) S (Z5 E w0 Q):=
 r8 (k:=77) (n:=n) (I:=fun n T S=>I n (T.getD 0 b8) (T.getD 2 b8) (T.getD 17 b8) (T.getD 18 b8) S) (fun n T S hl hI=>s6 [0,2,17,18] hl (k9.mono (a6a (step n _ _ _ _ S hI)) fun ex T' S' _ hq=>by cases ex<;>exact hq)) (o7 ..) (Eq.mp (by kernel_rfl) h)
noncomputable def Y4:Code:=(l9 [1,0,1,0,0] (Try.f41.body.getD .skip))
def Z4(E:m6)(w0:o3)(Q:D→b7→Prop):r4→List D→b7→Prop:=
 (t7 0 (I5 Try.prog E w0 D1 D0 D3 (l9 [1,1] (Try.f41.body.getD .skip)) (I4 Try.prog Try.f41 Q)))
def X9(E:m6)(w0:o3)(N0:D→D→D→D→b7→Prop)(Q:D→b7→Prop)(x0 x2 x5 x6:D)(S:b7):Prop:=
 a9 (d8 .lss x6 x5) fun v4=>
 i9 v4
 (a9 (m8 0 x2) fun v5=>
 a9 (c9 S v5) fun v6=>
 o4 Try.prog E w0 a2d [x0] S fun v7 S8=>
 t6 v5 S S8∧u6 S8 5 (p9 5 (List.replicate 1 [(.int .u8 0),(.str []), .nilSlc,(.int .i64 0),(.int .i64 0)]) [(0,v7)]) 1 fun v9 S10=>
 t6 v5 S S10∧y9 S10 5 64 v6 v9 fun v11 S12=>
 a9 (m8 0 x2) fun v13=>
 f0 S12 1 v13 v11 fun v14 S15=>
 a9 (d8 .add x6 (.int .i64 1)) fun v16=>
 N0 x0 x2 x5 v16 S15)
 (o4 Try.prog E w0 B5 [x0,(.int .i64 32768)] S fun v17 S18=>
 k9 Try.prog E w0 (.loop Y0) (n9 77 [0,2,17,18] [x0,x2,v17,(.int .i64 0)]) S18 (Z5 E w0 Q))
theorem a5H{E:m6}{w0:o3}{N0:D→D→D→D→b7→Prop}{Q:D→b7→Prop}{x0 x2 x5 x6:D}{S:b7}(h:X9 E w0 N0 Q x0 x2 x5 x6 S):
  k9 Try.prog E w0 Y4 (n9 77 [0,2,5,6] [x0,x2,x5,x6]) S (C0 (fun T S=>N0 (T.getD 0 b8) (T.getD 2 b8) (T.getD 5 b8) (T.getD 6 b8) S) (Z4 E w0 Q)):=l8 D1 D0 D3 o9 (by kernel_rfl) h
theorem a5X{E:m6}{w0:o3}{Q:D→b7→Prop}(I:Nat→D→D→D→D→b7→Prop)
  (step:∀n x0 x2 x5 x6 S,I n x0 x2 x5 x6 S→X9 E w0 (fun x0 x2 x5 x6 S=>∃m,m<n∧I m x0 x2 x5 x6 S) Q x0 x2 x5 x6 S)
  {n:Nat} {x0 x2 x5 x6:D} {S:b7} (h:I n x0 x2 x5 x6 S):k9 Try.prog E w0 (.loop Y4) (n9 77 [0,2,5,6] [x0,x2,x5,x6]) S (Z4 E w0 Q):=
 r8 (k:=77) (n:=n) (I:=fun n T S=>I n (T.getD 0 b8) (T.getD 2 b8) (T.getD 5 b8) (T.getD 6 b8) S) (fun n T S hl hI=>s6 [0,2,5,6] hl (k9.mono (a5H (step n _ _ _ _ S hI)) fun ex T' S' _ hq=>by cases ex<;>exact hq)) (o7 ..) (Eq.mp (by kernel_rfl) h)
def a3l(E:m6)(w0:o3)(Q:D→b7→Prop)(a0:D)(S:b7):Prop:=
 o6 S [.nilSlc, .nilSlc, .nilSlc] fun v0 S1=>
 o4 Try.prog E w0 B5 [a0,(.int .i64 256)] S1 fun v2 S3=>
 k9 Try.prog E w0 (.loop Y4) (n9 77 [0,2,5,6] [a0,v0,v2,(.int .i64 0)]) S3 (Z4 E w0 Q)
theorem a7s{E:m6}{w0:o3}{Q:D→b7→Prop}{a0:D}{S:b7}(h:a3l E w0 (d9 E Q) a0 S):o4 Try.prog E w0 a0H [a0] S Q:=
 m9 D1 D0 D3 (fn:=Try.f41) (c:=Try.f41.body.getD .skip) o9 Try.func41 (by kernel_rfl) (by kernel_rfl) h
def a3B:List (Nat×List Nat):=[(4,[0,13,14,15])]
def a3F:List (Nat×List Nat):=[]
def a3I:List (Nat×Arr):=[]
noncomputable def a2N:Code:=(l9 [1,0,1,0,0] (Try.f39.body.getD .skip))
def a2O(E:m6)(w0:o3)(Q:D→b7→Prop):r4→List D→b7→Prop:=
 (t7 0 (I5 Try.prog E w0 a3B a3F a3I (l9 [1,1] (Try.f39.body.getD .skip)) (I4 Try.prog Try.f39 Q)))
def a2F(E:m6)(w0:o3)(N0:D→D→D→D→b7→Prop)(Q:D→b7→Prop)(x0 x13 x14 x15:D)(S:b7):Prop:=
 a9 (d8 .lss x15 x14) fun v5=>
 i9 v5
 (a9 (A7 1 x13 x15) fun v6=>
 a9 (c9 S v6) fun v7=>
 a9 (r6 x0) fun v8=>
 a9 (d8 .eql x15 v8) fun v9=>
 i9 v9
 (Q (.tup [(.int .i64 0),x15,(.int .i64 10)]) S)
 (a9 (A7 1 x0 x15) fun v10=>
 a9 (c9 S v10) fun v11=>
 a9 (d8 .neq v11 v7) fun v12=>
 i9 v12
 (Q (.tup [(.int .i64 0),x15,(.int .i64 130)]) S)
 (a9 (d8 .add x15 (.int .i64 1)) fun v13=>
 N0 x0 x13 x14 v13 S)))
 (o4 Try.prog E w0 a4y [x0,(.int .i64 4),(.int .i64 4)] S fun v14 S15=>
 a9 (o5 v14 0) fun v16=>
 a9 (o5 v14 1) fun v17=>
 a9 (o5 v14 2) fun v18=>
 a9 (d8 .neq v18 (.int .i64 0)) fun v19=>
 a9 (j9 (d6 v19 false) (some v16)) fun v20=>
 a9 (j9 (d6 v19 false) (I6 .i64 v20)) fun v21=>
 a9 (j9 (d6 v19 false) (some x0)) fun v22=>
 a9 (j9 (d6 v19 false) (r6 v22)) fun v23=>
 a9 (j9 (d6 v19 false) (d8 .sub v23 (.int .i64 12))) fun v24=>
 a9 (j9 (d6 v19 false) (d8 .gtr v21 v24)) fun v25=>
 a9 (z2 v19 (.bool true) v25) fun v26=>
 i9 v26
 (a9 (r6 x0) fun v27=>
 Q (.tup [(.int .i64 0),v27,(.int .i64 10)]) S15)
 (a9 (I6 .i64 v16) fun v28=>
 a9 (d8 .add (.int .i64 8) v28) fun v29=>
 a9 (d8 .add v29 (.int .i64 4)) fun v30=>
 a9 (r6 x0) fun v31=>
 a9 (d8 .lss v30 v31) fun v32=>
 i9 v32
 (a9 (d8 .add v29 (.int .i64 4)) fun v33=>
 Q (.tup [(.int .i64 0),v33,(.int .i64 130)]) S15)
 (o4 Try.prog E w0 a4y [x0,v29,(.int .i64 4)] S15 fun v34 S35=>
 a9 (o5 v34 0) fun v36=>
 a9 (o5 v34 1) fun v37=>
 a9 (o5 v34 2) fun v38=>
 a9 (I6 .u32 v36) fun v39=>
 a9 (Q1 1 x0 (some (.int .i64 8)) (some v29) none) fun v40=>
 o4 Try.prog E w0 a9m [v40] S35 fun v41 S42=>
 a9 (d8 .neq v39 v41) fun v43=>
 i9 v43
 (Q (.tup [(.int .i64 0),v29,(.int .i64 130)]) S42)
 (Q (.tup [v29,(.int .i64 0),(.int .i64 0)]) S42))))
theorem b1F{E:m6}{w0:o3}{N0:D→D→D→D→b7→Prop}{Q:D→b7→Prop}{x0 x13 x14 x15:D}{S:b7}(h:a2F E w0 N0 Q x0 x13 x14 x15 S):
  k9 Try.prog E w0 a2N (n9 79 [0,13,14,15] [x0,x13,x14,x15]) S (C0 (fun T S=>N0 (T.getD 0 b8) (T.getD 13 b8) (T.getD 14 b8) (T.getD 15 b8) S) (a2O E w0 Q)):=l8 a3B a3F a3I o9 (by kernel_rfl) h
theorem b1O{E:m6}{w0:o3}{Q:D→b7→Prop}(I:Nat→D→D→D→D→b7→Prop)
  (step:∀n x0 x13 x14 x15 S,I n x0 x13 x14 x15 S→a2F E w0 (fun x0 x13 x14 x15 S=>∃m,m<n∧I m x0 x13 x14 x15 S) Q x0 x13 x14 x15 S)
  {n:Nat} {x0 x13 x14 x15:D} {S:b7} (h:I n x0 x13 x14 x15 S):k9 Try.prog E w0 (.loop a2N) (n9 79 [0,13,14,15] [x0,x13,x14,x15]) S (a2O E w0 Q):=
 r8 (k:=79) (n:=n) (I:=fun n T S=>I n (T.getD 0 b8) (T.getD 13 b8) (T.getD 14 b8) (T.getD 15 b8) S) (fun n T S hl hI=>s6 [0,13,14,15] hl (k9.mono (b1F (step n _ _ _ _ S hI)) fun ex T' S' _ hq=>by cases ex<;>exact hq)) (o7 ..) (Eq.mp (by kernel_rfl) h)
def b0q(E:m6)(w0:o3)(Q:D→b7→Prop)(a0:D)(S:b7):Prop:=
 u6 S 1 (p9 1 (List.replicate 4 [(.int .u8 0)]) [(0,(.int .u8 84)),(1,(.int .u8 82)),(2,(.int .u8 77)),(3,(.int .u8 1))]) 4 fun v0 S1=>
 c3k S1 v0 fun v2 S3=>
 a9 (r6 v2) fun v4=>
 k9 Try.prog E w0 (.loop a2N) (n9 79 [0,13,14,15] [a0,v2,v4,(.int .i64 0)]) S3 (a2O E w0 Q)
theorem b4n{E:m6}{w0:o3}{Q:D→b7→Prop}{a0:D}{S:b7}(h:b0q E w0 (d9 E Q) a0 S):o4 Try.prog E w0 a4C [a0] S Q:=
 m9 a3B a3F a3I (fn:=Try.f39) (c:=Try.f39.body.getD .skip) o9 Try.func39 (by kernel_rfl) (by kernel_rfl) h
def c0i:List (Nat×List Nat):=[]
def c0g:List (Nat×List Nat):=[]
def c1r:List (Nat×Arr):=[]
def a7y(E:m6)(w0:o3)(Q:D→b7→Prop)(a0:D)(S:b7):Prop:=
 a9 (a9j .eql (c6d a0 .nilSlc)) fun v0=>
 i9 v0
 (Q .nilSlc S)
 (u6 S 1 (p9 1 (List.replicate 0 [(.int .u8 0)]) []) 0 fun v1 S2=>
 y9 S2 1 1 v1 a0 fun v3 S4=>
 Q v3 S4)
theorem a8r{E:m6}{w0:o3}{Q:D→b7→Prop}{a0:D}{S:b7}(h:a7y E w0 (d9 E Q) a0 S):o4 Try.prog E w0 a3Q [a0] S Q:=
 m9 c0i c0g c1r (fn:=Try.f62) (c:=Try.f62.body.getD .skip) o9 Try.func62 (by kernel_rfl) (by kernel_rfl) h
end Go.Proofs.Ytchnpgddpaonhaa.d
end
section
open Go.Proofs Go Go.Am Go.Op
namespace Go.Proofs.Ytchnpgddpaonhaa.d
set_option linter.unusedSectionVars false
theorem d4e{b:Int}(h:H6 b):d8 .and (.int .u8 b) (.int .u8 127)=some (.int .u8 ((b.toNat % 128:Nat):Int)):=by
 obtain⟨h0,h1⟩:=h
 obtain⟨n,rfl⟩:∃n:Nat,b=(n:Int):=⟨b.toNat,by omega⟩
 rw[c3d]
 show some (D.int .u8 (IntKind.u8.wrap ((BitVec.ofInt 8 (n:Int) &&& BitVec.ofInt 8 ((127:Nat):Int)).toNat:Int)))=_
 rw[BitVec.toNat_and,a4o,a4o,b6m,Int.toNat_natCast]
 have e:n % 2^8 &&& 127 % 2^8=n % 128:=by
  have h127:(127:Nat) % 2^8=2^7 - 1:=rfl
  rw[h127,Nat.and_two_pow_sub_one_eq_mod]
  omega
 rw[e]
 congr 2
 omega
theorem d4t{b:Int}(h:H6 b):a9 (d8 .and (.int .u8 b) (.int .u8 128)) (fun v=>a9 (d8 .eql v (.int .u8 0)) fun w=>w= .bool (decide (b<128))):=by
 obtain⟨h0,h1⟩:=h
 obtain⟨n,rfl⟩:∃n:Nat,b=(n:Int):=⟨b.toNat,by omega⟩
 have key:∀m:Fin 256,(IntKind.u8.wrap ((BitVec.ofInt IntKind.u8.bits ((m.val:Nat):Int) &&& BitVec.ofInt IntKind.u8.bits 128).toNat:Int)==0)=decide (((m.val:Nat):Int)<128):=by decide+kernel
 rw[c3d,oD,a1T,oD]
 exact congrArg _ (key ⟨n,by omega⟩)
theorem d1t{i:Nat}{b:Int}{K:D→Prop}(hK:K (.bool (decide ((i=9∧b>1)∨(0<i∧b=0))))):
  a9 (d8 .eql (.int .i64 (i:Int)) (.int .i64 9)) fun v12=>
  a9 (j9 (d6 v12 true) (some (.int .u8 b))) fun v13=>
  a9 (j9 (d6 v12 true) (d8 .gtr v13 (.int .u8 1))) fun v14=>
  a9 (z2 v12 v14 (.bool false)) fun v15=>
  a9 (j9 (d6 v15 false) (some (.int .i64 (i:Int)))) fun v16=>
  a9 (j9 (d6 v15 false) (d8 .gtr v16 (.int .i64 0))) fun v17=>
  a9 (j9 (d6 v15 false) (some v17)) fun v18=>
  a9 (j9 (d6 v18 true) (some (.int .u8 b))) fun v19=>
  a9 (j9 (d6 v18 true) (d8 .eql v19 (.int .u8 0))) fun v20=>
  a9 (j9 (d6 v15 false) (z2 v18 v20 (.bool false))) fun v21=>
  a9 (z2 v15 (.bool true) v21) fun v22=>K v22:=by
 have t1:(true==true)=true:=rfl
 have t2:(false==false)=true:=rfl
 have t3:(true==false)=false:=rfl
 have t4:(false==true)=false:=rfl
 have fin:∀c:Bool,decide ((i=9∧b>1)∨(0<i∧b=0))=c→K (.bool c):=fun c e=>by rw[←e];exact hK
 have e0:decide ((i:Int)>0)=decide (0<i):=by by_cases h:0<i<;>simp[h]
 by_cases h9:i=9
 ·have e9:((i:Int)==9)=true:=by simp[h9]
  by_cases h1:b>1
  ·simp only[a1T,a3z,e9,oD,wdB,vdT,vdF,pdB,if_true,Bool.false_eq_true,if_false,t1,t2,t3,t4,decide_eq_true h1,b8]
   simp[d6,j9,b8,z2]
   exact fin true (decide_eq_true (.inl ⟨h9,h1⟩))
  ·simp only[a1T,a3z,e9,oD,wdB,vdT,vdF,pdB,if_true,Bool.false_eq_true,if_false,t1,t2,t3,t4,decide_eq_false h1,e0,decide_eq_true (show 0<i by omega)]
   exact fin _ (by rw[b9S];simp[h9];omega)
 ·have e9:((i:Int)==9)=false:=by rw[b9S];simp;omega
  by_cases h0:0<i
  ·simp only[a1T,a3z,e9,oD,wdB,vdT,vdF,pdB,if_true,Bool.false_eq_true,if_false,t1,t2,t3,t4,e0,decide_eq_true h0]
   exact fin _ (by rw[b9S];simp[h9,h0])
  ·simp only[a1T,a3z,e9,oD,wdB,vdT,vdF,pdB,if_true,Bool.false_eq_true,if_false,t1,t2,t3,t4,e0,decide_eq_false h0]
   exact fin false (decide_eq_false (by omega))
def c8R(r:Nat×Nat×Int)(p:Nat):D:=if r.2.2=0 then .tup [.int .u64 (r.1:Int), .int .i64 ((p+r.2.1:Nat):Int), .int .i64 0]else .tup [.int .u64 0, .int .i64 0, .int .i64 r.2.2]
section
variable{E:m6}{w0:o3}
theorem c5T{bs:List Int}(hb:∀b∈bs,H6 b)(hl:bs.length<2^60){p:Nat}(hp:p≤bs.length):Y7 Try.prog E w0 b3Z [bD bs, .int .i64 (p:Int)] (c8R (a8k (bs.drop p) 0 0) p):=fun S=>by
 refine c2b ?_
 unfold c0B
 have c0:decide ((p:Int)<0)=false:=decide_eq_false (by omega)
 have c1:decide ((p:Int)>bs.length)=false:=decide_eq_false (by omega)
 simp only[K3,a3z,oD,c0,c1,wdB,vdT,L9,pdB,Bool.false_eq_true,if_false,cdF,b0s,show((false==false)=true) from rfl]
 rw[m7 (by omega) (by omega)]
 refine b9g (I:=fun n x0 x1 x7 x21 x22 S'=>S'=S∧x0=bD bs∧x1= .int .i64 (p:Int)∧x21= .int .i64 ((bs.length:Int) - p)∧∃i acc:Nat,x22= .int .i64 (i:Int)∧x7= .int .u64 (acc:Int)∧i≤9∧acc<2^(7*i)∧p+i+n=bs.length∧a8k (bs.drop p) 0 0=a8k (bs.drop (p+i)) i acc) ?_ (n:=bs.length - p)
  ⟨rfl,rfl,rfl,rfl,0,0,rfl,rfl,by omega,by simp,by omega,by simp⟩
 rintro n _ _ _ _ _ _ ⟨rfl,rfl,rfl,rfl,i,acc,rfl,rfl,hi9,hacc,hn,hg⟩
 unfold b0e
 rw[K3,oD,M6]
 refine⟨fun hlt=> ?_,fun hge=> ?_⟩
 ·have hlt2:p+i<bs.length:=by omega
  obtain⟨y,hy⟩:∃y,y=bs[p+i]:=⟨_,rfl⟩
  have hj:bs[p+i]? =some y:=by rw[List.getElem?_eq_getElem hlt2,hy]
  have hby:H6 y:=hb y (by rw[hy];exact List.getElem_mem _)
  have hdr:bs.drop (p+i)=y::bs.drop (p+i+1):=by rw[List.drop_eq_getElem_cons hlt2,hy]
  rw[hdr,a8k]at hg
  rw[E2,oD,m7 (by omega) (by omega),show(p:Int)+(i:Int)=((p+i:Nat):Int) by omega,b5G hj,oD,lsE,List.getElem?_cons_zero,oD]
  refine d1t ?_
  rw[M6]
  refine⟨fun ht=> ?_,fun ht=> ?_⟩
  ·rw[if_pos ht]at hg
   rw[hg]
   exact d9.pure
  ·rw[if_neg ht]at hg
   have hm:y.toNat % 128<2^7:=by omega
   have hi63:2^(7*i)≤2^63:=Nat.pow_le_pow_right (by decide) (by omega)
   have hsum:acc+y.toNat % 128*2^(7*i)<2^(7*(i+1)):=by
    rw[show 7*(i+1)=7*i+7 by omega,Nat.pow_add]
    have:=Nat.mul_le_mul_right (2^(7*i)) (show y.toNat % 128≤127 by omega)
    omega
   have h64:y.toNat % 128*2^(7*i)<2^64:=by
    by_cases h:i=9
    ·have:y≤1:=by
      refine Int.not_lt.1 fun h'=>ht (.inl ⟨h,h'⟩)
     have h2:=Nat.mul_le_mul_right (2^(7*i)) (show y.toNat % 128≤1 by omega)
     omega
    ·have:2^(7*(i+1))≤2^63:=Nat.pow_le_pow_right (by decide) (by omega)
     omega
   have ho:=c7O (a:=acc) (b:=y.toNat % 128) (i:=7*i) hacc
   have a128:=d4t hby
   rw[c3d,oD,a1T,oD]at a128
   rw[d4e hby,oD,cvI,oD,b5A (by omega),c8z,oD,m7 (by omega) (by omega),show 7*(i:Int)=((7*i:Nat):Int) by omega,c8D (by omega) h64,oD,d0N (by omega) (by omega),oD,ho,c3d,oD,a1T,oD,a128,M6]
   refine⟨fun h128=> ?_,fun h128=> ?_⟩
   ·rw[if_pos h128]at hg
    rw[hg,oD,E2,oD,m7 (by omega) (by omega)]
    unfold c8R
    rw[if_pos rfl,show((p+i:Nat):Int)+1=((p+(i+1):Nat):Int) by omega]
    exact d9.pure
   ·rw[if_neg h128]at hg
    have h9:i≠9:=fun h=>ht (.inl ⟨h,by omega⟩)
    rw[E2,oD,m7 (by omega) (by omega)]
    exact⟨n - 1,by omega,rfl,rfl,rfl,rfl,i+1,_,rfl,rfl,by omega,hsum,by omega,hg⟩
 ·have hi:p+i=bs.length:=by omega
  rw[hi,List.drop_length,a8k]at hg
  rw[hg]
  exact d9.pure
def RdC(S:b7)(k:Nat)(bs:List Int)(p:Nat):Prop:=w9 S k 2 [bD bs, .int .i64 (p:Int)]
def Q2(ks:List Nat)(S S':b7):Prop:=∀j o,j ∉ ks→S j=some o→S' j=some o
theorem Q2.refl(ks:List Nat)(S:b7):Q2 ks S S:=fun _ _ _ h=>h
theorem Q2.trans{ks:List Nat}{S S' S'':b7}(h:Q2 ks S S')(h':Q2 ks S' S''):Q2 ks S S'':=fun j o hj e=>h' j o hj (h j o hj e)
theorem Q2.le{ks:List Nat}{S1 S S':b7}(h:Q2 ks S S')(hle:S1.le S)(n:∀j∈ks,S1 j=none):S1.le S':=fun j o e=>
 h j o (fun hj=>by rw[n j hj]at e;cases e) (hle _ _ e)
theorem Q2.set{k:Nat}{ks:List Nat}(hk:k∈ks)(S:b7)(o:L7):Q2 ks S (S.set k o):=fun j o hj e=>by
 rw[b7.set_ne _ _ _ fun e=>hj (by rw[e];exact hk)];exact e
theorem Q2.new{k:Nat}{ks:List Nat}{S:b7}(n:S k=none)(o:L7):Q2 ks S (S.set k o):=fun j o _ e=>by
 rw[b7.set_ne _ _ _ fun e'=>by rw[e',n]at e;cases e];exact e
theorem Q2.more{ks ks':List Nat}{S S':b7}(h:Q2 ks S S')(hs:∀k∈ks,k∈ks'):Q2 ks' S S':=fun j o hj=>h j o fun hm=>hj (hs j hm)
theorem Q2.cel{ks:List Nat}{S S':b7}(h:Q2 ks S S'){j sz:Nat}{c:List D}(hj:j ∉ ks)(hc:w9 S j sz c):w9 S' j sz c:=by
 obtain⟨a,e⟩:=hc;exact⟨a,h j _ hj e⟩
theorem Q2.foot{ks:List Nat}{S S':b7}(h:Q2 ks S S'){j sz i:Nat}{c:List D}(hj:j ∉ ks)(hc:w9 S j sz c):t6 (.ptr j i) S S':=by
 obtain⟨a,e⟩:=hc;rw[fwP,h j _ hj e,e]
theorem Q2.less{ks ks':List Nat}{S S':b7}(h:Q2 ks S S')(hs:∀k∈ks,k∈ks'∨S k=none):Q2 ks' S S':=fun j o hj e=>h j o (fun hm=>(hs j hm).elim hj fun n=>by rw[n]at e;cases e) e
def b3F(x:Flt):D:= .ifc a7p (.agg [.int .i64 x.1, .int .i64 x.2])
def b5D{α:Type}(E:m6)(w0:o3)(f:FuncId)(args:List D)(bs:List Int)(g:Ps α)(enc:α→D):Prop:=
 ∀(S1:b7) (k p:Nat) (S:b7),S1.le S→S1 k=none→p≤bs.length→RdC S k bs p→(∀x S',g p= .error x→S1.le S'→a0S E w0 (b3F x) S')→
  o4 Try.prog E w0 f (.ptr k 0::args) S fun v S'=>∃y q,g p= .ok (y,q)∧p≤q∧q≤bs.length∧v=enc y∧RdC S' k bs q∧Q2 [k] S S'
theorem RdC.to{S:b7}{k p q:Nat}{bs:List Int}(h:RdC S k bs p){v:D}{K:D→b7→Prop}(hv:v= .int .i64 (q:Int))(hK:∀S',RdC S' k bs q→Q2 [k] S S'→K b8 S'):f0 S 1 (.ptr k (0+1)) v K:=by
 subst hv
 refine w9.st h (clI _ _) ⟨rfl,by decide,by simp⟩ fun a=>hK _ w9.new (Q2.set (by simp) _ _)
theorem b5D.go{α β:Type}{f:FuncId}{args:List D}{bs:List Int}{g:Ps α}{enc:α→D}(h:b5D E w0 f args bs g enc){nx:α→Ps β}{S1:b7}{k p:Nat}{S:b7}{K:D→b7→Prop}(hle:S1.le S)(n:S1 k=none)(hp:p≤bs.length)(hS:RdC S k bs p)
  (hX:∀x S',(g.bind nx) p= .error x→S1.le S'→a0S E w0 (b3F x) S')
  (hK:∀y q S',g p= .ok (y,q)→p≤q→q≤bs.length→RdC S' k bs q→Q2 [k] S S'→S1.le S'→(∀x S'',nx y q= .error x→S1.le S''→a0S E w0 (b3F x) S'')→K (enc y) S'):o4 Try.prog E w0 f (.ptr k 0::args) S K:=
 (h S1 k p S hle n hp hS fun x S' e hle=>hX x S' (Ps.bind_err e) hle).use fun v S' ⟨y,q,e,h1,h2,hv,hr,hk⟩=>by
  subst hv
  exact hK y q S' e h1 h2 hr hk (hk.le hle fun j hj=>by simp at hj;subst hj;exact n) fun x S'' e' hle=>hX x S'' (by rw[Ps.bind_ok e];exact e') hle
theorem c9u:∀(l:List Int) (i acc:Nat),(a8k l i acc).2.2=0→i<(a8k l i acc).2.1∧(a8k l i acc).2.1≤i+l.length
 | [],i,acc,h=>by simp[a8k]at h
 |b::l,i,acc,h=>by
  rw[a8k]at h ⊢
  split at h
  ·cases h
  rename_i c
  rw[if_neg c]
  split at h
  ·rename_i c2;rw[if_pos c2];simp
  ·rename_i c2
   rw[if_neg c2]
   have:=c9u l (i+1) _ h
   simp only[List.length_cons];omega
theorem F6{bs:List Int}{most:Int}{p q:Nat}{n:Int}(h:P1 bs most p= .ok (n,q)):0≤n∧n≤most∧n≤2147483647:=by
 unfold P1 at h
 obtain⟨a,q',h1,h2⟩:=Ps.of_bind h
 unfold a6s at h1
 split at h1
 rename_i v m e he
 split at h1
 ·cases h1
 split at h1
 ·cases h1
 split at h1
 ·cases h1
 rename_i hv
 cases h1
 split at h2
 ·cases h2
 ·rename_i hm
  cases h2
  omega
theorem d5z{rows:List (List D)}{sz l h:Nat}(hl:l≤h)(hh:h≤rows.length):Q1 sz (.lst rows sz) (some (.int .i64 (l:Int))) (some (.int .i64 (h:Int))) none=some (b8C ((rows.drop l).take (h - l)) (rows.drop h) sz):=by
 have h1:E3 (.int .i64 (h:Int)) rows.length=some h:=by
  simp only[E3]
  rw[if_pos ⟨by omega,by omega⟩,Int.toNat_natCast]
 have h2:E3 (.int .i64 (l:Int)) h=some l:=by
  simp only[E3]
  rw[if_pos ⟨by omega,by omega⟩,Int.toNat_natCast]
 simp only[Q1,N5,c4E,b1n,b8t,if_true,Option.bind_some,h1,h2,Option.map_some]
 rw[List.take_of_length_le (l:=rows.drop h) (by simp)]
theorem b9q(rows more:List (List D))(sz:Nat):Wk (b8C rows more sz) (.lst rows sz):=by
 cases more with
 |nil=>exact Wk.refl _
 |cons a l=>exact Wk.ext _ _ _
theorem a8b{T S S':b7}{t:D}{rows:List (List D)}{sz:Nat}{ks:List Nat}(h:Grw T t rows sz S)(hk:Q2 ks S S')(hn:∀k∈ks,T k≠none):∃T',Grw T' t rows sz S'∧Q2 ks T T'∧∀k∈ks,T' k=S' k:=by
 rcases h with ⟨rfl,rfl,rfl⟩|⟨k,acs,h0,rfl,rfl⟩
 ·exact⟨S',Grw.nil _ _,hk,fun _ _=>rfl⟩
 ·have hne:∀j∈ks,j≠k:=fun j hj e=>hn j hj (by rw[e];exact h0)
  have hkk:k ∉ ks:=fun hm=>hne k hm rfl
  have e1:S' k=some ⟨sz,rows,acs⟩:=hk k _ hkk (b7.set_same _ _ _)
  refine⟨S'.erase k, .inr ⟨k,acs,b7.erase_same _ _,rfl, ?_⟩,fun j o hj e=> ?_,fun j hj=>b7.erase_ne _ _ (hne j hj)⟩
  ·funext j
   by_cases e:j=k
   ·subst e;rw[b7.set_same,e1]
   ·rw[b7.set_ne _ _ _ e,b7.erase_ne _ _ e]
  ·have hjk:j≠k:=fun e'=>by rw[e',h0]at e;cases e
   rw[b7.erase_ne _ _ hjk]
   exact hk j o hj (by rw[b7.set_ne _ _ _ hjk];exact e)
def a9l{α:Type}(g:Ps α)(N q0:Nat)(acc:List α)(n q:Nat):Prop:=acc.length+n=N∧(∀l q',Ps.rep g n q= .ok (l,q')→Ps.rep g N q0= .ok (acc++l,q'))∧∀x,Ps.rep g n q= .error x→Ps.rep g N q0= .error x
theorem a9l.start{α:Type}(g:Ps α)(N q0:Nat):a9l g N q0 [] N q0:=⟨by simp,fun l q' h=>by simpa using h,fun x h=>h⟩
theorem a9l.step{α:Type}{g:Ps α}{N q0 n q q1:Nat}{acc:List α}{a:α}(h:a9l g N q0 acc (n+1) q)(hg:g q= .ok (a,q1)):a9l g N q0 (acc++[a]) n q1:=by
 obtain⟨h1,h2,h3⟩:=h
 refine⟨by simp;omega,fun l q' e=> ?_,fun x e=>h3 x ?_⟩
 ·have:=h2 (a::l) q' (by rw[Ps.rep,Ps.bind_ok hg,Ps.bind_ok e];rfl)
  rw[this,List.append_assoc];rfl
 ·rw[Ps.rep,Ps.bind_ok hg,Ps.bind_err e]
theorem a9l.err{α:Type}{g:Ps α}{N q0 n q:Nat}{acc:List α}{x:Flt}(h:a9l g N q0 acc (n+1) q)(hg:g q= .error x):Ps.rep g N q0= .error x:=h.2.2 x (by rw[Ps.rep,Ps.bind_err hg])
theorem a9l.fin{α:Type}{g:Ps α}{N q0 q:Nat}{acc:List α}(h:a9l g N q0 acc 0 q):Ps.rep g N q0= .ok (acc,q):=by
 have:=h.2.1 [] q rfl
 simpa using this
section
variable{bs:List Int}(hb:∀b∈bs,H6 b)(hl:bs.length<2^30)
include hb hl
theorem R7:b5D E w0 z4 [] bs (a6s bs) (fun n=> .int .i64 n):=by
 intro S1 k p S hle n hp hS hX
 refine a7q ?_
 unfold a3o
 have hc:w9 S k 2 [bD bs, .int .i64 (p:Int)]:=hS
 simp only[ndP,I3,oD,hc.ld,List.getElem?_cons_zero,List.getElem?_cons_succ,Nat.zero_add]
 refine(c5T hb (by omega) hp).use ?_
 have hlen:=c9u (bs.drop p) 0 0
 unfold a6s at hX ⊢
 rcases hr:a8k (bs.drop p) 0 0 with ⟨v,m,e⟩
 rw[hr]at hlen
 simp only[hr]at hX ⊢
 simp only at hlen
 by_cases e0:e=0
 ·subst e0
  simp only[c8R,if_true,exD,List.getElem?_cons_zero,List.getElem?_cons_succ,oD,a4M,c9m,a3z,hc.ld]
  rw[decide_eq_false (by decide),cdF,decide_eq_false (by simp),cdF,M6]
  have hlen:=hlen rfl
  simp only[List.length_drop]at hlen
  refine⟨fun hgt=> ?_,fun hgt=> ?_⟩
  ·exact hX ((p:Int),130) _ (by rw[if_neg (by decide),if_neg (by simp),if_pos (by omega)]) hle
  ·refine hS.to (q:=p+m) rfl fun S' hS' hk=> ?_
   rw[cvI,oD,m7 (by omega) (by omega)]
   refine d9.here ⟨(v:Int),p+m, ?_,by omega,by omega,rfl,hS',hk⟩
   rw[if_neg (by decide),if_neg (by simp),if_neg (by omega)]
 ·simp only[c8R,if_neg e0,exD,List.getElem?_cons_zero,List.getElem?_cons_succ,oD,a4M,c9m,hc.ld,L9]
  rw[M6]
  refine⟨fun h10=> ?_,fun h10=> ?_⟩
  ·subst h10
   exact hX ((bs.length:Int),10) _ (by rw[if_pos rfl]) hle
  ·rw[decide_eq_true e0,cdT]
   exact hX ((p:Int),e) _ (by rw[if_neg h10,if_pos e0]) hle
theorem a0V{most:Int}:b5D E w0 B5 [.int .i64 most] bs (P1 bs most) (fun n=> .int .i64 n):=by
 intro S1 k p S hle n hp hS hX
 refine a8m ?_
 unfold a4x
 have hc:w9 S k 2 [bD bs, .int .i64 (p:Int)]:=hS
 simp only[ndP,I3,oD,hc.ld,List.getElem?_cons_zero,List.getElem?_cons_succ,Nat.zero_add]
 unfold P1 at hX
 refine(R7 hb hl).go hle n hp hS hX fun y q S' hy h1 h2 hS' hk hle' hX'=> ?_
 rw[a3z,oD,M6]
 refine⟨fun hgt=>hX' ((p:Int),3) _ (by rw[if_pos hgt]) hle',fun hgt=>d9.here ⟨y,q, ?_,h1,h2,rfl,hS',hk⟩⟩
 unfold P1
 rw[Ps.bind_ok hy,if_neg hgt]
theorem b0a{n:Int}(hn:0≤n)(hn2:n<2^40):b5D E w0 J1 [.int .i64 n] bs (b4l bs n) bD:=by
 intro S1 k p S hle n1 hp hS hX
 refine a7w ?_
 unfold a3s
 have hc:w9 S k 2 [bD bs, .int .i64 (p:Int)]:=hS
 simp only[ndP,I3,oD,hc.ld,List.getElem?_cons_zero,List.getElem?_cons_succ,Nat.zero_add,L9,b0s,a3z]
 rw[m7 (by omega) (by omega),M6]
 unfold b4l at hX ⊢
 refine⟨fun hgt=>hX ((bs.length:Int),10) _ (by rw[if_pos hgt]) hle,fun hgt=> ?_⟩
 rw[E2,oD,m7 (by omega) (by omega)]
 obtain⟨m,rfl⟩:∃m:Nat,n=(m:Int):=⟨n.toNat,by omega⟩
 refine hS.to (q:=p+m) (by congr 1) fun S' hS' hk=> ?_
 have hc':w9 S' k 2 [bD bs, .int .i64 ((p+m:Nat):Int)]:=hS'
 simp only[I3,oD,hc'.ld,List.getElem?_cons_zero,List.getElem?_cons_succ,Nat.zero_add,b0s]
 rw[m7 (by omega) (by omega),show(((p+m:Nat):Int) - (m:Int))=(p:Int) by omega,bD,d5z (by omega) (by simp;omega),oD]
 refine d9.weak (b9q _ _ _) (d9.here ⟨(bs.drop p).take m,p+m, ?_,by omega,by omega, ?_,hS',hk⟩)
 ·rw[if_neg hgt,Int.toNat_natCast]
 ·rw[show p+m - p=m by omega]
  simp only[bD,u4,List.map_take,List.map_drop]
theorem a8x{most:Int}:b5D E w0 I2 [.int .i64 most] bs (a4Q bs most) D.str:=by
 intro S1 k p S hle n hp hS hX
 refine a8R ?_
 unfold a4H
 unfold a4Q at hX
 refine(a0V hb hl).go hle n hp hS hX fun y q S' hy h1 h2 hS' hk hle' hX'=> ?_
 have hr:=F6 hy
 refine(b0a hb hl hr.1 (by omega)).go hle' n h2 hS' hX' fun z q' S'' hz h3 h4 hS'' hk' hle'' _=> ?_
 rw[d0M,oD]
 exact d9.here ⟨a8U z,q',by unfold a4Q;rw[Ps.bind_ok hy,Ps.bind_ok hz];rfl,by omega,h4,rfl,hS'',hk.trans hk'⟩
end
end
end Go.Proofs.Ytchnpgddpaonhaa.d
end
