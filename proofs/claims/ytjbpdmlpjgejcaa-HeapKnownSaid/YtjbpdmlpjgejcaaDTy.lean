/-
  Laws of operations at the types of these texts.
-/
import Derived.Test.YtjbpdmlpjgejcaaDVc
import Derived.Test.YtjbpdmlpjgejcaaAm35
open Go.Proofs Go Go.Am
namespace Go.Proofs.Ytjbpdmlpjgejcaa.vcs
set_option linter.unusedVariables false
@[simp] theorem fa_57_0 (o : Am.Id) (i : Nat) : fieldAtA Try.prog 57 (.ptr o i) 0 = some (.ptr o (i + 0)) := by kernel_rfl
@[simp] theorem fa_57_1 (o : Am.Id) (i : Nat) : fieldAtA Try.prog 57 (.ptr o i) 1 = some (.ptr o (i + 1)) := by kernel_rfl
@[simp] theorem fa_57_2 (o : Am.Id) (i : Nat) : fieldAtA Try.prog 57 (.ptr o i) 2 = some (.ptr o (i + 2)) := by kernel_rfl
@[simp] theorem fa_57_3 (o : Am.Id) (i : Nat) : fieldAtA Try.prog 57 (.ptr o i) 3 = some (.ptr o (i + 3)) := by kernel_rfl
@[simp] theorem fa_68_0 (o : Am.Id) (i : Nat) : fieldAtA Try.prog 68 (.ptr o i) 0 = some (.ptr o (i + 0)) := by kernel_rfl
@[simp] theorem fa_68_1 (o : Am.Id) (i : Nat) : fieldAtA Try.prog 68 (.ptr o i) 1 = some (.ptr o (i + 1)) := by kernel_rfl
@[simp] theorem fa_70_0 (o : Am.Id) (i : Nat) : fieldAtA Try.prog 70 (.ptr o i) 0 = some (.ptr o (i + 0)) := by kernel_rfl
@[simp] theorem fa_77_0 (o : Am.Id) (i : Nat) : fieldAtA Try.prog 77 (.ptr o i) 0 = some (.ptr o (i + 0)) := by kernel_rfl
@[simp] theorem ld_3 (E : Env) (H : AHeap) (o : Am.Id) (i : Nat) : loadV Try.prog E H 3 (.ptr o i) = loadCell E H o i := by kernel_rfl
@[simp] theorem ld_4 (E : Env) (H : AHeap) (o : Am.Id) (i : Nat) : loadV Try.prog E H 4 (.ptr o i) = loadCell E H o i := by kernel_rfl
@[simp] theorem ld_22 (E : Env) (H : AHeap) (o : Am.Id) (i : Nat) : loadV Try.prog E H 22 (.ptr o i) = loadCell E H o i := by kernel_rfl
@[simp] theorem ld_23 (E : Env) (H : AHeap) (o : Am.Id) (i : Nat) : loadV Try.prog E H 23 (.ptr o i) = loadCell E H o i := by kernel_rfl
@[simp] theorem ld_55 (E : Env) (H : AHeap) (o : Am.Id) (i : Nat) : loadV Try.prog E H 55 (.ptr o i) = loadCell E H o i := by kernel_rfl
@[simp] theorem ld_80 (E : Env) (H : AHeap) (o : Am.Id) (i : Nat) : loadV Try.prog E H 80 (.ptr o i) = loadCell E H o i := by kernel_rfl
@[simp] theorem st_3 (H : AHeap) (o : Am.Id) (i : Nat) (x : AV) (K : AV → AHeap → Prop) : storeW Try.prog H 3 (.ptr o i) x K = if some 1 = some x.cells.length then optW (storeRange H o i x.cells) fun H' => K undefA H' else False := by kernel_rfl
@[simp] theorem st_22 (H : AHeap) (o : Am.Id) (i : Nat) (x : AV) (K : AV → AHeap → Prop) : storeW Try.prog H 22 (.ptr o i) x K = if some 1 = some x.cells.length then optW (storeRange H o i x.cells) fun H' => K undefA H' else False := by kernel_rfl
@[simp] theorem st_23 (H : AHeap) (o : Am.Id) (i : Nat) (x : AV) (K : AV → AHeap → Prop) : storeW Try.prog H 23 (.ptr o i) x K = if some 1 = some x.cells.length then optW (storeRange H o i x.cells) fun H' => K undefA H' else False := by kernel_rfl
@[simp] theorem st_55 (H : AHeap) (o : Am.Id) (i : Nat) (x : AV) (K : AV → AHeap → Prop) : storeW Try.prog H 55 (.ptr o i) x K = if some 1 = some x.cells.length then optW (storeRange H o i x.cells) fun H' => K undefA H' else False := by kernel_rfl
@[simp] theorem ix_22 (o : Am.Id) (i len cap : Nat) (ex : Bool) (sz : Nat) (k : IntKind) (n : Int) : indexAtA Try.prog 22 (.slc o i len cap ex sz) (.int k n) = if 0 ≤ n ∧ n < len then some (.ptr o (i + n.toNat * 1)) else none := by kernel_rfl
@[simp] theorem ix_55 (o : Am.Id) (i len cap : Nat) (ex : Bool) (sz : Nat) (k : IntKind) (n : Int) : indexAtA Try.prog 55 (.slc o i len cap ex sz) (.int k n) = if 0 ≤ n ∧ n < len then some (.ptr o (i + n.toNat * 1)) else none := by kernel_rfl
@[simp] theorem len_9 (H : AHeap) (s : List UInt8) : lenV Try.prog H 9 (.str s) = some (.int .i64 s.length) := by kernel_rfl
@[simp] theorem len_22 (H : AHeap) (o : Am.Id) (i len cap : Nat) (ex : Bool) (sz : Nat) : lenV Try.prog H 22 (.slc o i len cap ex sz) = some (.int .i64 len) := by kernel_rfl
@[simp] theorem len0_22 (H : AHeap) : lenV Try.prog H 22 .nilSlc = some (.int .i64 0) := by kernel_rfl
@[simp] theorem len_55 (H : AHeap) (o : Am.Id) (i len cap : Nat) (ex : Bool) (sz : Nat) : lenV Try.prog H 55 (.slc o i len cap ex sz) = some (.int .i64 len) := by kernel_rfl
@[simp] theorem len0_55 (H : AHeap) : lenV Try.prog H 55 .nilSlc = some (.int .i64 0) := by kernel_rfl
@[simp] theorem ifc_66 (x : AV) : ifaceV Try.prog 66 x = some (.ifc 66 x) := by kernel_rfl
@[simp] theorem ifc_76 (x : AV) : ifaceV Try.prog 76 x = some (.ifc 76 x) := by kernel_rfl
@[simp] theorem ifc_82 (x : AV) : ifaceV Try.prog 82 x = some (.ifc 82 x) := by kernel_rfl
@[simp] theorem as_66 (u : TypeId) (v : AV) : assertA Try.prog (.ifc u v) 66 true = if u = 66 then some (.tup [v, .bool true]) else some (.tup [.nilPtr, .bool false]) := by kernel_rfl
@[simp] theorem as0_66 : assertA Try.prog .nilIfc 66 true = some (.tup [.nilPtr, .bool false]) := by kernel_rfl
@[simp] theorem as_76 (u : TypeId) (v : AV) : assertA Try.prog (.ifc u v) 76 true = if u = 76 then some (.tup [v, .bool true]) else some (.tup [.nilPtr, .bool false]) := by kernel_rfl
@[simp] theorem as0_76 : assertA Try.prog .nilIfc 76 true = some (.tup [.nilPtr, .bool false]) := by kernel_rfl
@[simp] theorem as_82 (u : TypeId) (v : AV) : assertA Try.prog (.ifc u v) 82 true = if u = 82 then some (.tup [v, .bool true]) else some (.tup [(.str []), .bool false]) := by kernel_rfl
@[simp] theorem as0_82 : assertA Try.prog .nilIfc 82 true = some (.tup [(.str []), .bool false]) := by kernel_rfl
@[simp] theorem cv_3_23 (E : Env) (H : AHeap) (n : Int) : (convA Try.prog E H 3 23 (.int .i64 n)).map (·.1) = some (.int .u64 (IntKind.u64.wrap n)) := by kernel_rfl
@[simp] theorem eqv_3 (x y : Operand) (a b : Int) : binV Try.prog .eql 3 x y (.int .i64 a) (.int .i64 b) = some (.bool (a == b)) := eqv_int Try.underlying3 x y a b
@[simp] theorem eqv_23 (x y : Operand) (a b : Int) : binV Try.prog .eql 23 x y (.int .u64 a) (.int .u64 b) = some (.bool (a == b)) := eqv_int Try.underlying23 x y a b
@[simp] theorem eqvn_25 (x y : Operand) (o : Am.Id) (i : Nat) : binV Try.prog .eql 25 x y (.ptr o i) .nilPtr = some (.bool false) := by kernel_rfl
@[simp] theorem eqvnn_25 (x y : Operand) : binV Try.prog .eql 25 x y .nilPtr .nilPtr = some (.bool true) := by kernel_rfl
@[simp] theorem nevn_25 (x y : Operand) (o : Am.Id) (i : Nat) : binV Try.prog .neq 25 x y (.ptr o i) .nilPtr = some (.bool true) := by kernel_rfl
@[simp] theorem nevnn_25 (x y : Operand) : binV Try.prog .neq 25 x y .nilPtr .nilPtr = some (.bool false) := by kernel_rfl
@[simp] theorem nevn_71 (x y : Operand) (o : Am.Id) (i : Nat) : binV Try.prog .neq 71 x y (.ptr o i) .nilPtr = some (.bool true) := by kernel_rfl
@[simp] theorem nevnn_71 (x y : Operand) : binV Try.prog .neq 71 x y .nilPtr .nilPtr = some (.bool false) := by kernel_rfl
@[simp] theorem nevn_80 (x y : Operand) (u : TypeId) (v : AV) : binV Try.prog .neq 80 x y (.ifc u v) .nilIfc = some (.bool true) := by kernel_rfl
@[simp] theorem nevnn_80 (n : Nat) : binV Try.prog .neq 80 (.tmp n) (.const .nilIface) .nilIfc .nilIfc = some (.bool false) := by kernel_rfl
@[simp] theorem app_22_22 (E : Env) (H : AHeap) (s x : AV) : appendA Try.prog E H 22 s 22 x = (lenOfA x).bind fun n => (firstA E H 1 n x).bind fun news => growA E H 1 8 s n news := by kernel_rfl
@[simp] theorem app_55_55 (E : Env) (H : AHeap) (s x : AV) : appendA Try.prog E H 55 s 55 x = (lenOfA x).bind fun n => (firstA E H 1 n x).bind fun news => growA E H 1 16 s n news := by kernel_rfl
end Go.Proofs.Ytjbpdmlpjgejcaa.vcs
