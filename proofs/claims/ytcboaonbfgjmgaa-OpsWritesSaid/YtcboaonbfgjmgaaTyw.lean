/-
  Laws of operations at the types of these texts.
-/
import Derived.Test.YtcboaonbfgjmgaaVw
import Derived.Test.YtcboaonbfgjmgaaAm35
open Go.Proofs Go Go.Am
namespace Go.Proofs.Ytcboaonbfgjmgaa.vw
set_option linter.unusedVariables false
@[simp] theorem lv_24 (E : Env) (H : AHeap) (o : Am.Id) (i : Nat) : loadVarA Try.prog E H 24 o i = (loadRange E H o i 4).bind fun cs => some (.agg cs) := by kernel_rfl
@[simp] theorem st_22 (H : AHeap) (o : Am.Id) (i : Nat) (x : AV) (K : AV → AHeap → Prop) : storeW Try.prog H 22 (.ptr o i) x K = if some 1 = some x.cells.length then optW (storeRange H o i x.cells) fun H' => K undefA H' else False := by kernel_rfl
@[simp] theorem st_24 (H : AHeap) (o : Am.Id) (i : Nat) (x : AV) (K : AV → AHeap → Prop) : storeW Try.prog H 24 (.ptr o i) x K = if some 4 = some x.cells.length then optW (storeRange H o i x.cells) fun H' => K undefA H' else False := by kernel_rfl
@[simp] theorem zero_24 : zeroOf Try.prog 24 = some (.agg [(.int .u8 0), (.int .i64 0), (.int .i64 0), .nilSlc]) := by kernel_rfl
@[simp] theorem eqv_9 (x y : Operand) (a b : List UInt8) : binV Try.prog .eql 9 x y (.str a) (.str b) = some (.bool (a == b)) := eqv_str x y a b
@[simp] theorem nev_3 (x y : Operand) (a b : Int) : binV Try.prog .neq 3 x y (.int .i64 a) (.int .i64 b) = some (.bool (a != b)) := nev_int Try.underlying3 x y a b
@[simp] theorem nev_5 (x y : Operand) (a b : Int) : binV Try.prog .neq 5 x y (.int .u8 a) (.int .u8 b) = some (.bool (a != b)) := nev_int Try.underlying5 x y a b
@[simp] theorem nev_9 (x y : Operand) (a b : List UInt8) : binV Try.prog .neq 9 x y (.str a) (.str b) = some (.bool (!(a == b))) := nev_str x y a b
@[simp] theorem nev_28 (x y : Operand) (a b : Int) : binV Try.prog .neq 28 x y (.int .i64 a) (.int .i64 b) = some (.bool (a != b)) := nev_int Try.underlying28 x y a b
@[simp] theorem app_22_22 (E : Env) (H : AHeap) (s x : AV) : appendA Try.prog E H 22 s 22 x = (lenOfA x).bind fun n => (firstA E H 2 n x).bind fun news => growA E H 2 16 s n news := by kernel_rfl
end Go.Proofs.Ytcboaonbfgjmgaa.vw
