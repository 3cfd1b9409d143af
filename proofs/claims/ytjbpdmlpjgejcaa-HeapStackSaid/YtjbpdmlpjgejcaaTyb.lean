/-
  Laws of operations at the types of these texts.
-/
import Derived.Test.YtjbpdmlpjgejcaaVb
import Derived.Test.YtjbpdmlpjgejcaaAm32
open Go.Proofs Go Go.Am
namespace Go.Proofs.Ytjbpdmlpjgejcaa.vb
set_option linter.unusedVariables false
@[simp] theorem nev_3 (x y : Operand) (a b : Int) : binV Try.prog .neq 3 x y (.int .i64 a) (.int .i64 b) = some (.bool (a != b)) := nev_int Try.underlying3 x y a b
@[simp] theorem nev_23 (x y : Operand) (a b : Int) : binV Try.prog .neq 23 x y (.int .u64 a) (.int .u64 b) = some (.bool (a != b)) := nev_int Try.underlying23 x y a b
end Go.Proofs.Ytjbpdmlpjgejcaa.vb
