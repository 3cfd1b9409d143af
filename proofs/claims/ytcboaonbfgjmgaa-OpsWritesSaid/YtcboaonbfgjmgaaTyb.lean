/-
  Laws of operations at the types of these texts.
-/
import Derived.Test.YtcboaonbfgjmgaaVb
import Derived.Test.YtcboaonbfgjmgaaAm35
open Go.Proofs Go Go.Am
namespace Go.Proofs.Ytcboaonbfgjmgaa.vb
set_option linter.unusedVariables false
@[simp] theorem fa_24_0 (o : Am.Id) (i : Nat) : fieldAtA Try.prog 24 (.ptr o i) 0 = some (.ptr o (i + 0)) := by kernel_rfl
@[simp] theorem fa_24_1 (o : Am.Id) (i : Nat) : fieldAtA Try.prog 24 (.ptr o i) 1 = some (.ptr o (i + 1)) := by kernel_rfl
@[simp] theorem fa_24_2 (o : Am.Id) (i : Nat) : fieldAtA Try.prog 24 (.ptr o i) 2 = some (.ptr o (i + 2)) := by kernel_rfl
@[simp] theorem fa_24_3 (o : Am.Id) (i : Nat) : fieldAtA Try.prog 24 (.ptr o i) 3 = some (.ptr o (i + 3)) := by kernel_rfl
@[simp] theorem fa_49_0 (o : Am.Id) (i : Nat) : fieldAtA Try.prog 49 (.ptr o i) 0 = some (.ptr o (i + 0)) := by kernel_rfl
@[simp] theorem fa_49_1 (o : Am.Id) (i : Nat) : fieldAtA Try.prog 49 (.ptr o i) 1 = some (.ptr o (i + 1)) := by kernel_rfl
@[simp] theorem fa_81_0 (o : Am.Id) (i : Nat) : fieldAtA Try.prog 81 (.ptr o i) 0 = some (.ptr o (i + 0)) := by kernel_rfl
@[simp] theorem fa_81_1 (o : Am.Id) (i : Nat) : fieldAtA Try.prog 81 (.ptr o i) 1 = some (.ptr o (i + 1)) := by kernel_rfl
@[simp] theorem ld_2 (E : Env) (H : AHeap) (o : Am.Id) (i : Nat) : loadV Try.prog E H 2 (.ptr o i) = loadCell E H o i := by kernel_rfl
@[simp] theorem ld_3 (E : Env) (H : AHeap) (o : Am.Id) (i : Nat) : loadV Try.prog E H 3 (.ptr o i) = loadCell E H o i := by kernel_rfl
@[simp] theorem ld_5 (E : Env) (H : AHeap) (o : Am.Id) (i : Nat) : loadV Try.prog E H 5 (.ptr o i) = loadCell E H o i := by kernel_rfl
@[simp] theorem ld_9 (E : Env) (H : AHeap) (o : Am.Id) (i : Nat) : loadV Try.prog E H 9 (.ptr o i) = loadCell E H o i := by kernel_rfl
@[simp] theorem ld_22 (E : Env) (H : AHeap) (o : Am.Id) (i : Nat) : loadV Try.prog E H 22 (.ptr o i) = loadCell E H o i := by kernel_rfl
@[simp] theorem ld_24 (E : Env) (H : AHeap) (o : Am.Id) (i : Nat) : loadV Try.prog E H 24 (.ptr o i) = (loadRange E H o i 4).bind fun cs => some (.agg cs) := by kernel_rfl
@[simp] theorem ld_49 (E : Env) (H : AHeap) (o : Am.Id) (i : Nat) : loadV Try.prog E H 49 (.ptr o i) = (loadRange E H o i 2).bind fun cs => some (.agg cs) := by kernel_rfl
@[simp] theorem ld_79 (E : Env) (H : AHeap) (o : Am.Id) (i : Nat) : loadV Try.prog E H 79 (.ptr o i) = loadCell E H o i := by kernel_rfl
@[simp] theorem ld_81 (E : Env) (H : AHeap) (o : Am.Id) (i : Nat) : loadV Try.prog E H 81 (.ptr o i) = (loadRange E H o i 2).bind fun cs => some (.agg cs) := by kernel_rfl
@[simp] theorem st_5 (H : AHeap) (o : Am.Id) (i : Nat) (x : AV) (K : AV → AHeap → Prop) : storeW Try.prog H 5 (.ptr o i) x K = if some 1 = some x.cells.length then optW (storeRange H o i x.cells) fun H' => K undefA H' else False := by kernel_rfl
@[simp] theorem st_49 (H : AHeap) (o : Am.Id) (i : Nat) (x : AV) (K : AV → AHeap → Prop) : storeW Try.prog H 49 (.ptr o i) x K = if some 2 = some x.cells.length then optW (storeRange H o i x.cells) fun H' => K undefA H' else False := by kernel_rfl
@[simp] theorem st_81 (H : AHeap) (o : Am.Id) (i : Nat) (x : AV) (K : AV → AHeap → Prop) : storeW Try.prog H 81 (.ptr o i) x K = if some 2 = some x.cells.length then optW (storeRange H o i x.cells) fun H' => K undefA H' else False := by kernel_rfl
@[simp] theorem st_85 (H : AHeap) (o : Am.Id) (i : Nat) (x : AV) (K : AV → AHeap → Prop) : storeW Try.prog H 85 (.ptr o i) x K = if some 53 = some x.cells.length then optW (storeRange H o i x.cells) fun H' => K undefA H' else False := by kernel_rfl
@[simp] theorem ix_22 (o : Am.Id) (i len cap : Nat) (ex : Bool) (sz : Nat) (k : IntKind) (n : Int) : indexAtA Try.prog 22 (.slc o i len cap ex sz) (.int k n) = if 0 ≤ n ∧ n < len then some (.ptr o (i + n.toNat * 2)) else none := by kernel_rfl
@[simp] theorem ix_27 (o : Am.Id) (i len cap : Nat) (ex : Bool) (sz : Nat) (k : IntKind) (n : Int) : indexAtA Try.prog 27 (.slc o i len cap ex sz) (.int k n) = if 0 ≤ n ∧ n < len then some (.ptr o (i + n.toNat * 1)) else none := by kernel_rfl
@[simp] theorem ix_75 (o : Am.Id) (i len cap : Nat) (ex : Bool) (sz : Nat) (k : IntKind) (n : Int) : indexAtA Try.prog 75 (.slc o i len cap ex sz) (.int k n) = if 0 ≤ n ∧ n < len then some (.ptr o (i + n.toNat * 2)) else none := by kernel_rfl
@[simp] theorem ix_85 (o : Am.Id) (i : Nat) (k : IntKind) (n : Int) : indexAtA Try.prog 85 (.ptr o i) (.int k n) = if 0 ≤ n ∧ n < 53 then some (.ptr o (i + n.toNat * 1)) else none := by kernel_rfl
@[simp] theorem len_22 (H : AHeap) (o : Am.Id) (i len cap : Nat) (ex : Bool) (sz : Nat) : lenV Try.prog H 22 (.slc o i len cap ex sz) = some (.int .i64 len) := by kernel_rfl
@[simp] theorem len0_22 (H : AHeap) : lenV Try.prog H 22 .nilSlc = some (.int .i64 0) := by kernel_rfl
@[simp] theorem len_27 (H : AHeap) (o : Am.Id) (i len cap : Nat) (ex : Bool) (sz : Nat) : lenV Try.prog H 27 (.slc o i len cap ex sz) = some (.int .i64 len) := by kernel_rfl
@[simp] theorem len0_27 (H : AHeap) : lenV Try.prog H 27 .nilSlc = some (.int .i64 0) := by kernel_rfl
@[simp] theorem len_75 (H : AHeap) (o : Am.Id) (i len cap : Nat) (ex : Bool) (sz : Nat) : lenV Try.prog H 75 (.slc o i len cap ex sz) = some (.int .i64 len) := by kernel_rfl
@[simp] theorem len0_75 (H : AHeap) : lenV Try.prog H 75 .nilSlc = some (.int .i64 0) := by kernel_rfl
@[simp] theorem cv_2_5 (E : Env) (H : AHeap) (n : Int) : (convA Try.prog E H 2 5 (.int .i64 n)).map (·.1) = some (.int .u8 (IntKind.u8.wrap n)) := by kernel_rfl
@[simp] theorem cv_2_21 (E : Env) (H : AHeap) (n : Int) : (convA Try.prog E H 2 21 (.int .i64 n)).map (·.1) = some (.int .i32 (IntKind.i32.wrap n)) := by kernel_rfl
@[simp] theorem cv_2_114 (E : Env) (H : AHeap) (n : Int) : (convA Try.prog E H 2 114 (.int .i64 n)).map (·.1) = some (.int .u64 (IntKind.u64.wrap n)) := by kernel_rfl
@[simp] theorem cv_2_127 (E : Env) (H : AHeap) (n : Int) : (convA Try.prog E H 2 127 (.int .i64 n)).map (·.1) = some (.int .i8 (IntKind.i8.wrap n)) := by kernel_rfl
@[simp] theorem cv_3_114 (E : Env) (H : AHeap) (n : Int) : (convA Try.prog E H 3 114 (.int .i64 n)).map (·.1) = some (.int .u64 (IntKind.u64.wrap n)) := by kernel_rfl
@[simp] theorem cv_5_3 (E : Env) (H : AHeap) (n : Int) : (convA Try.prog E H 5 3 (.int .u8 n)).map (·.1) = some (.int .i64 (IntKind.i64.wrap n)) := by kernel_rfl
@[simp] theorem cv_21_2 (E : Env) (H : AHeap) (n : Int) : (convA Try.prog E H 21 2 (.int .i32 n)).map (·.1) = some (.int .i64 (IntKind.i64.wrap n)) := by kernel_rfl
@[simp] theorem cv_114_5 (E : Env) (H : AHeap) (n : Int) : (convA Try.prog E H 114 5 (.int .u64 n)).map (·.1) = some (.int .u8 (IntKind.u8.wrap n)) := by kernel_rfl
@[simp] theorem cv_127_2 (E : Env) (H : AHeap) (n : Int) : (convA Try.prog E H 127 2 (.int .i8 n)).map (·.1) = some (.int .i64 (IntKind.i64.wrap n)) := by kernel_rfl
@[simp] theorem zero_49 : zeroOf Try.prog 49 = some (.agg [(.int .i64 0), (.int .i64 0)]) := by kernel_rfl
@[simp] theorem zero_81 : zeroOf Try.prog 81 = some (.agg [(.int .i64 0), .nilFn]) := by kernel_rfl
@[simp] theorem zero_85 : zeroOf Try.prog 85 = some (.agg [(.str []), (.str []), (.str []), (.str []), (.str []), (.str []), (.str []), (.str []), (.str []), (.str []), (.str []), (.str []), (.str []), (.str []), (.str []), (.str []), (.str []), (.str []), (.str []), (.str []), (.str []), (.str []), (.str []), (.str []), (.str []), (.str []), (.str []), (.str []), (.str []), (.str []), (.str []), (.str []), (.str []), (.str []), (.str []), (.str []), (.str []), (.str []), (.str []), (.str []), (.str []), (.str []), (.str []), (.str []), (.str []), (.str []), (.str []), (.str []), (.str []), (.str []), (.str []), (.str []), (.str [])]) := by kernel_rfl
@[simp] theorem eqv_2 (x y : Operand) (a b : Int) : binV Try.prog .eql 2 x y (.int .i64 a) (.int .i64 b) = some (.bool (a == b)) := eqv_int Try.underlying2 x y a b
@[simp] theorem eqv_3 (x y : Operand) (a b : Int) : binV Try.prog .eql 3 x y (.int .i64 a) (.int .i64 b) = some (.bool (a == b)) := eqv_int Try.underlying3 x y a b
@[simp] theorem eqv_5 (x y : Operand) (a b : Int) : binV Try.prog .eql 5 x y (.int .u8 a) (.int .u8 b) = some (.bool (a == b)) := eqv_int Try.underlying5 x y a b
@[simp] theorem nev_2 (x y : Operand) (a b : Int) : binV Try.prog .neq 2 x y (.int .i64 a) (.int .i64 b) = some (.bool (a != b)) := nev_int Try.underlying2 x y a b
@[simp] theorem app_27_27 (E : Env) (H : AHeap) (s x : AV) : appendA Try.prog E H 27 s 27 x = (lenOfA x).bind fun n => (firstA E H 1 n x).bind fun news => growA E H 1 1 s n news := by kernel_rfl
end Go.Proofs.Ytcboaonbfgjmgaa.vb
