/- The plain statement of the law FnExactLargestLoss: whatever the numbers and lists, its printed function answers true from some number of rounds on. No condition beyond the kinds' own. -/
import Derived.Test.YtbjgdbgaopgbjaaPx30
import Derived.Test.YtbjgdbgaopgbjaaEv
import Derived.Test.YtbjgdbgaopgbjaaF1
import Derived.Test.YtbjgdbgaopgbjaaF29
namespace Go.Proofs.Ytbjgdbgaopgbjaa.Pure
open Go.Proofs.Ytbjgdbgaopgbjaa.P
open Go.RowKit Go.Proofs.YtbjgdbgaopgbjaaW.PrintWords Go.Proofs.YtbjgdbgaopgbjaaW.PrintLast Go.Proofs.YtbjgdbgaopgbjaaW.PrintMore
set_option linter.unusedVariables false
set_option linter.unusedSimpArgs false

theorem FnExactLargestLoss : laws_FnExactLargestLoss.Pure := by
  intro q l hq hm hw
  have hn : l.length ≤ 9223372036854775807 := by unfold maxLen at hm; omega
  suffices h : Ev (fun k => laws_FnExactLargestLoss.f k q l) true from h.rounds
  unfold laws_FnExactLargestLoss.f
  refine Ev.one (laws_szCommittee.eq q l 1048576 (by omega) (by omega) hn) ?_
  by_cases hs : (1048576 : Int) - l.length < 0
  · rw [if_pos hs]
    exact Ev.pos (by omega) (Ev.now _)
  · rw [if_neg hs]
    refine Ev.neg hs ?_
    repeat' (first
      | exact Ev.now _
      | refine Ev.bind (spec_LargestLoss.ev q l hn) ?_
      | refine Ev.bind (impl_LargestLoss.ev q l hn) ?_
      | refine Ev.bind (laws_toCommittee.ev q l (by omega)) ?_
      | refine Ev.bind (laws_eqCommittee.ev q l hn) ?_
      | refine Ev.pos rfl ?_
      | refine Ev.neg (by decide) ?_
      | refine Ev.neg (by omega) ?_
      | refine Ev.pos (by omega) ?_
      | (rw [bne_self_eq_false])
      | refine Ev.step (fun k => by rw [laws_FnExactLargestLoss.j0]) ?_)

end Go.Proofs.Ytbjgdbgaopgbjaa.Pure
