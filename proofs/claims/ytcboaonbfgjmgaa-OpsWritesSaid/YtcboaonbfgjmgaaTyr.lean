/-
  Laws of operations at the types of these texts.
-/
import Derived.Test.YtcboaonbfgjmgaaVr
import Derived.Test.YtcboaonbfgjmgaaAm35
open Go.Proofs Go Go.Am
namespace Go.Proofs.Ytcboaonbfgjmgaa.vr
set_option linter.unusedVariables false
@[simp] theorem fa_74_0 (o : Am.Id) (i : Nat) : fieldAtA Try.prog 74 (.ptr o i) 0 = some (.ptr o (i + 0)) := by kernel_rfl
@[simp] theorem fa_74_1 (o : Am.Id) (i : Nat) : fieldAtA Try.prog 74 (.ptr o i) 1 = some (.ptr o (i + 1)) := by kernel_rfl
@[simp] theorem fa_74_2 (o : Am.Id) (i : Nat) : fieldAtA Try.prog 74 (.ptr o i) 2 = some (.ptr o (i + 2)) := by kernel_rfl
@[simp] theorem ld_74 (E : Env) (H : AHeap) (o : Am.Id) (i : Nat) : loadV Try.prog E H 74 (.ptr o i) = (loadRange E H o i 4).bind fun cs => some (.agg cs) := by kernel_rfl
@[simp] theorem lv_74 (E : Env) (H : AHeap) (o : Am.Id) (i : Nat) : loadVarA Try.prog E H 74 o i = (loadRange E H o i 4).bind fun cs => some (.agg cs) := by kernel_rfl
@[simp] theorem st_74 (H : AHeap) (o : Am.Id) (i : Nat) (x : AV) (K : AV → AHeap → Prop) : storeW Try.prog H 74 (.ptr o i) x K = if some 4 = some x.cells.length then optW (storeRange H o i x.cells) fun H' => K undefA H' else False := by kernel_rfl
@[simp] theorem ix_52 (o : Am.Id) (i len cap : Nat) (ex : Bool) (sz : Nat) (k : IntKind) (n : Int) : indexAtA Try.prog 52 (.slc o i len cap ex sz) (.int k n) = if 0 ≤ n ∧ n < len then some (.ptr o (i + n.toNat * 1)) else none := by kernel_rfl
@[simp] theorem ix_69 (o : Am.Id) (i len cap : Nat) (ex : Bool) (sz : Nat) (k : IntKind) (n : Int) : indexAtA Try.prog 69 (.slc o i len cap ex sz) (.int k n) = if 0 ≤ n ∧ n < len then some (.ptr o (i + n.toNat * 4)) else none := by kernel_rfl
@[simp] theorem len_52 (H : AHeap) (o : Am.Id) (i len cap : Nat) (ex : Bool) (sz : Nat) : lenV Try.prog H 52 (.slc o i len cap ex sz) = some (.int .i64 len) := by kernel_rfl
@[simp] theorem len0_52 (H : AHeap) : lenV Try.prog H 52 .nilSlc = some (.int .i64 0) := by kernel_rfl
@[simp] theorem len_69 (H : AHeap) (o : Am.Id) (i len cap : Nat) (ex : Bool) (sz : Nat) : lenV Try.prog H 69 (.slc o i len cap ex sz) = some (.int .i64 len) := by kernel_rfl
@[simp] theorem len0_69 (H : AHeap) : lenV Try.prog H 69 .nilSlc = some (.int .i64 0) := by kernel_rfl
@[simp] theorem cv_114_2 (E : Env) (H : AHeap) (n : Int) : (convA Try.prog E H 114 2 (.int .u64 n)).map (·.1) = some (.int .i64 (IntKind.i64.wrap n)) := by kernel_rfl
@[simp] theorem zero_74 : zeroOf Try.prog 74 = some (.agg [(.int .i64 0), (.int .i64 0), (.int .i64 0), (.bool false)]) := by kernel_rfl
end Go.Proofs.Ytcboaonbfgjmgaa.vr
