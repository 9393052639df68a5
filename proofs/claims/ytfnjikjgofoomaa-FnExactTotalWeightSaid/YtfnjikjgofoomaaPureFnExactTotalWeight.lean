/- The plain statement of the law FnExactTotalWeight: whatever the numbers and lists, its printed function answers true from some number of rounds on. No condition beyond the kinds' own. -/
import Derived.Test.YtfnjikjgofoomaaPx15
import Derived.Test.YtfnjikjgofoomaaEv
import Derived.Test.YtfnjikjgofoomaaF4
import Derived.Test.YtfnjikjgofoomaaF14
namespace Go.Proofs.Ytfnjikjgofoomaa.Pure
open Go.Proofs.Ytfnjikjgofoomaa.P
open Go.RowKit Go.Proofs.YtfnjikjgofoomaaW.PrintWords Go.Proofs.YtfnjikjgofoomaaW.PrintLast Go.Proofs.YtfnjikjgofoomaaW.PrintMore
set_option linter.unusedVariables false
set_option linter.unusedSimpArgs false

theorem FnExactTotalWeight : laws_FnExactTotalWeight.Pure := by
  intro q l hq hm hw
  have hn : l.length ≤ 9223372036854775807 := by unfold maxLen at hm; omega
  suffices h : Ev (fun k => laws_FnExactTotalWeight.f k q l) true from h.rounds
  unfold laws_FnExactTotalWeight.f
  refine Ev.one (laws_szCommittee.eq q l 1048576 (by omega) (by omega) hn) ?_
  by_cases hs : (1048576 : Int) - l.length < 0
  · rw [if_pos hs]
    exact Ev.pos (by omega) (Ev.now _)
  · rw [if_neg hs]
    refine Ev.neg hs (Ev.bind (laws_toCommittee.ev q l (by omega)) (Ev.bind (spec_TotalWeight.ev q l hn) (Ev.bind (laws_toCommittee.ev q l (by omega)) (Ev.bind (impl_TotalWeight.ev q l hn) ?_))))
    refine Ev.pos rfl ?_
    rw [bne_self_eq_false]
    refine Ev.step (fun k => by rw [laws_FnExactTotalWeight.j0]) ?_
    exact Ev.neg (by decide) (Ev.bind (laws_toCommittee.ev q l (by omega)) (Ev.bind (laws_eqCommittee.ev q l hn) (Ev.pos rfl (Ev.now _))))

end Go.Proofs.Ytfnjikjgofoomaa.Pure
