/- Plain facts of mine on printed functions: what they answer. No Go, no memory. -/
import Derived.Test.YtbjgdbgaopgbjaaPx12
import Derived.Test.YtbjgdbgaopgbjaaEv
import Derived.Test.YtbjgdbgaopgbjaaF6
import Derived.Test.YtbjgdbgaopgbjaaPow
namespace Go.Proofs.Ytbjgdbgaopgbjaa.P
open Go.RowKit Go.Proofs.YtbjgdbgaopgbjaaW.PrintWords Go.Proofs.YtbjgdbgaopgbjaaW.PrintLast Go.Proofs.YtbjgdbgaopgbjaaW.PrintMore
set_option linter.unusedVariables false
set_option linter.unusedSimpArgs false

-- NEEDS Pow
theorem spec_pwCounts.ev (ws : List Bool) (n : Nat) (hN : ws.length = 2 ^ n) (h9 : n ≤ 9) : Ev (fun k => spec_pwCounts.f k ws (n : Int)) ((List.range n).map fun m => cntN (isSw ws m) (2 ^ n)) := by
  unfold spec_pwCounts.f
  have h := down (P := fun m => Ev (fun k => spec_pwCounts.l0 k ws (n : Int) ((List.range m).map fun m => cntN (isSw ws m) (2 ^ n)) (m : Int)) ((List.range n).map fun m => cntN (isSw ws m) (2 ^ n))) n ?_ ?_ 0 (Nat.zero_le _)
  · exact h
  · refine Ev.step (fun k => by rw [spec_pwCounts.l0]) ?_
    exact Ev.neg (by omega) (Ev.now _)
  · intro m hm ih
    refine Ev.step (fun k => by rw [spec_pwCounts.l0]) ?_
    refine Ev.pos (by omega) (Ev.bind (spec_pwSwings.ev ws n m hN h9 hm) (Ev.pos (by simp; omega) ?_))
    rw [wrap_next hm (by omega), swL_length, ← map_next (fun m => cntN (isSw ws m) (2 ^ n))]
    exact ih

end Go.Proofs.Ytbjgdbgaopgbjaa.P
