/- The plain statement of the law FnExactPivotOf: whatever the numbers and lists, its printed function answers true from some number of rounds on. No condition beyond the kinds' own. -/
import Derived.Test.YtbjgdbgaopgbjaaPx16
import Derived.Test.YtbjgdbgaopgbjaaEv
import Derived.Test.YtbjgdbgaopgbjaaF1
import Derived.Test.YtbjgdbgaopgbjaaF15
namespace Go.Proofs.Ytbjgdbgaopgbjaa.Pure
open Go.Proofs.Ytbjgdbgaopgbjaa.P
open Go.RowKit Go.Proofs.YtbjgdbgaopgbjaaW.PrintWords Go.Proofs.YtbjgdbgaopgbjaaW.PrintLast Go.Proofs.YtbjgdbgaopgbjaaW.PrintMore
set_option linter.unusedVariables false
set_option linter.unusedSimpArgs false

theorem FnExactPivotOf : laws_FnExactPivotOf.Pure := by
  intro q l s hq hm hw hm2 hw2
  have hn : l.length ≤ 9223372036854775807 := by unfold maxLen at hm; omega
  have hn2 : s.length ≤ 9223372036854775807 := by unfold maxLen at hm2; omega
  suffices h : Ev (fun k => laws_FnExactPivotOf.f k q l s) true from h.rounds
  unfold laws_FnExactPivotOf.f
  by_cases hs2 : (s.length : Int) > 1048576
  · exact Ev.pos hs2 (Ev.now _)
  refine Ev.neg hs2 ?_
  refine Ev.one (laws_szCommittee.eq q l 1048576 (by omega) (by omega) hn) ?_
  by_cases hs : (1048576 : Int) - l.length < 0
  · rw [if_pos hs]
    exact Ev.pos (by omega) (Ev.now _)
  · rw [if_neg hs]
    refine Ev.neg hs ?_
    repeat' (first
      | exact Ev.now _
      | refine Ev.bind (spec_PivotOf.ev q l s hn hn2) ?_
      | refine Ev.bind (impl_PivotOf.ev q l s hn hn2) ?_
      | refine Ev.bind (laws_toCommittee.ev q l (by omega)) ?_
      | refine Ev.bind (laws_eqCommittee.ev q l hn) ?_
      | refine Ev.bind (laws_toIntS.ev s (by omega)) ?_
      | refine Ev.bind (laws_eqIntS.ev s hn2) ?_
      | refine Ev.pos rfl ?_
      | refine Ev.neg (by decide) ?_
      | refine Ev.neg (by omega) ?_
      | refine Ev.pos (by omega) ?_
      | (rw [bne_self_eq_false])
      | refine Ev.step (fun k => by rw [laws_FnExactPivotOf.j0]) ?_)

end Go.Proofs.Ytbjgdbgaopgbjaa.Pure
