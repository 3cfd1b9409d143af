/-
  Laws of operations at the types of these texts.
-/
import Derived.Test.YtjbpdmlpjgejcaaDVd
import Derived.Test.YtjbpdmlpjgejcaaAm35
open Go.Proofs Go Go.Am
namespace Go.Proofs.Ytjbpdmlpjgejcaa.vd
set_option linter.unusedVariables false
@[simp] theorem fa_43_0 (o : Am.Id) (i : Nat) : fieldAtA Try.prog 43 (.ptr o i) 0 = some (.ptr o (i + 0)) := by kernel_rfl
@[simp] theorem fa_43_1 (o : Am.Id) (i : Nat) : fieldAtA Try.prog 43 (.ptr o i) 1 = some (.ptr o (i + 1)) := by kernel_rfl
@[simp] theorem fa_43_2 (o : Am.Id) (i : Nat) : fieldAtA Try.prog 43 (.ptr o i) 2 = some (.ptr o (i + 2)) := by kernel_rfl
@[simp] theorem fa_43_3 (o : Am.Id) (i : Nat) : fieldAtA Try.prog 43 (.ptr o i) 3 = some (.ptr o (i + 3)) := by kernel_rfl
@[simp] theorem fa_43_4 (o : Am.Id) (i : Nat) : fieldAtA Try.prog 43 (.ptr o i) 4 = some (.ptr o (i + 4)) := by kernel_rfl
@[simp] theorem fa_43_5 (o : Am.Id) (i : Nat) : fieldAtA Try.prog 43 (.ptr o i) 5 = some (.ptr o (i + 5)) := by kernel_rfl
@[simp] theorem fa_43_6 (o : Am.Id) (i : Nat) : fieldAtA Try.prog 43 (.ptr o i) 6 = some (.ptr o (i + 6)) := by kernel_rfl
@[simp] theorem fa_43_7 (o : Am.Id) (i : Nat) : fieldAtA Try.prog 43 (.ptr o i) 7 = some (.ptr o (i + 7)) := by kernel_rfl
@[simp] theorem ld_2 (E : Env) (H : AHeap) (o : Am.Id) (i : Nat) : loadV Try.prog E H 2 (.ptr o i) = loadCell E H o i := by kernel_rfl
@[simp] theorem ld_9 (E : Env) (H : AHeap) (o : Am.Id) (i : Nat) : loadV Try.prog E H 9 (.ptr o i) = loadCell E H o i := by kernel_rfl
@[simp] theorem ld_43 (E : Env) (H : AHeap) (o : Am.Id) (i : Nat) : loadV Try.prog E H 43 (.ptr o i) = (loadRange E H o i 8).bind fun cs => some (.agg cs) := by kernel_rfl
@[simp] theorem st_43 (H : AHeap) (o : Am.Id) (i : Nat) (x : AV) (K : AV → AHeap → Prop) : storeW Try.prog H 43 (.ptr o i) x K = if some 8 = some x.cells.length then optW (storeRange H o i x.cells) fun H' => K undefA H' else False := by kernel_rfl
@[simp] theorem ix_39 (o : Am.Id) (i len cap : Nat) (ex : Bool) (sz : Nat) (k : IntKind) (n : Int) : indexAtA Try.prog 39 (.slc o i len cap ex sz) (.int k n) = if 0 ≤ n ∧ n < len then some (.ptr o (i + n.toNat * 8)) else none := by kernel_rfl
@[simp] theorem len_39 (H : AHeap) (o : Am.Id) (i len cap : Nat) (ex : Bool) (sz : Nat) : lenV Try.prog H 39 (.slc o i len cap ex sz) = some (.int .i64 len) := by kernel_rfl
@[simp] theorem len0_39 (H : AHeap) : lenV Try.prog H 39 .nilSlc = some (.int .i64 0) := by kernel_rfl
@[simp] theorem zero_43 : zeroOf Try.prog 43 = some (.agg [(.int .i64 0), (.str []), (.int .i64 0), (.int .i64 0), .nilSlc, (.int .u64 0), (.int .i64 0), (.int .u64 0)]) := by kernel_rfl
@[simp] theorem nev_3 (x y : Operand) (a b : Int) : binV Try.prog .neq 3 x y (.int .i64 a) (.int .i64 b) = some (.bool (a != b)) := nev_int Try.underlying3 x y a b
@[simp] theorem nev_23 (x y : Operand) (a b : Int) : binV Try.prog .neq 23 x y (.int .u64 a) (.int .u64 b) = some (.bool (a != b)) := nev_int Try.underlying23 x y a b
end Go.Proofs.Ytjbpdmlpjgejcaa.vd
