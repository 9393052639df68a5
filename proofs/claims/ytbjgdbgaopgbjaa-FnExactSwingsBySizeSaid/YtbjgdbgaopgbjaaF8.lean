/- Plain facts of mine on printed functions: what they answer. No Go, no memory. -/
import Derived.Test.YtbjgdbgaopgbjaaPx8
import Derived.Test.YtbjgdbgaopgbjaaEv
import Derived.Test.YtbjgdbgaopgbjaaPow
namespace Go.Proofs.Ytbjgdbgaopgbjaa.P
open Go.RowKit Go.Proofs.YtbjgdbgaopgbjaaW.PrintWords Go.Proofs.YtbjgdbgaopgbjaaW.PrintLast Go.Proofs.YtbjgdbgaopgbjaaW.PrintMore
set_option linter.unusedVariables false
set_option linter.unusedSimpArgs false

-- NEEDS Pow
theorem spec_voList.all : ∀ m, m < 512 → spec_voList.f 12 ((m : Nat) : Int) = some ((bitsL m).map fun (i : Nat) => (i : Int)) := by decide +kernel
theorem spec_voList.ev {m n : Nat} (h9 : n ≤ 9) (h : m < 2 ^ n) : Ev (fun k => spec_voList.f k (m : Int)) ((bitsL m).map fun (i : Nat) => (i : Int)) := Ev.of (fun k => spec_voList.mono _ k) (spec_voList.all m (Nat.lt_of_lt_of_le h (pow9 h9).2))

end Go.Proofs.Ytbjgdbgaopgbjaa.P
