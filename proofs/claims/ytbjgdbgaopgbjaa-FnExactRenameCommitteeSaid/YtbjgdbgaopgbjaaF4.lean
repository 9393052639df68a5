/- Plain facts of mine on printed functions: what they answer. No Go, no memory. -/
import Derived.Test.YtbjgdbgaopgbjaaPx4
import Derived.Test.YtbjgdbgaopgbjaaEv
import Derived.Test.YtbjgdbgaopgbjaaPow
namespace Go.Proofs.Ytbjgdbgaopgbjaa.P
open Go.RowKit Go.Proofs.YtbjgdbgaopgbjaaW.PrintWords Go.Proofs.YtbjgdbgaopgbjaaW.PrintLast Go.Proofs.YtbjgdbgaopgbjaaW.PrintMore
set_option linter.unusedVariables false
set_option linter.unusedSimpArgs false

-- NEEDS Pow
theorem impl_count.all : ∀ m, m < 512 → impl_count.f ((m : Nat) : Int) = some ((popc m : Nat) : Int) := by decide +kernel
theorem impl_count.eq {m n : Nat} (h9 : n ≤ 9) (h : m < 2 ^ n) : impl_count.f (m : Int) = some (popc m : Int) := impl_count.all m (Nat.lt_of_lt_of_le h (pow9 h9).2)

end Go.Proofs.Ytbjgdbgaopgbjaa.P
