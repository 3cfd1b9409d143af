/-
  Laws of operations at the types of these texts.
-/
import Derived.Test.YtjbpdmlpjgejcaaVe
import Derived.Test.YtjbpdmlpjgejcaaAm32
open Go.Proofs Go Go.Am
namespace Go.Proofs.Ytjbpdmlpjgejcaa.ve
set_option linter.unusedVariables false
@[simp] theorem eqv_9 (x y : Operand) (a b : List UInt8) : binV Try.prog .eql 9 x y (.str a) (.str b) = some (.bool (a == b)) := eqv_str x y a b
end Go.Proofs.Ytjbpdmlpjgejcaa.ve
