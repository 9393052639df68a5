/- The plain statement of the law FnExactRootQuota: whatever the numbers and lists, its printed function answers true from some number of rounds on. No condition beyond the kinds' own. -/
import Derived.Test.YtfnjikjgofoomaaPx13
import Derived.Test.YtfnjikjgofoomaaEv
import Derived.Test.YtfnjikjgofoomaaF2
import Derived.Test.YtfnjikjgofoomaaF12
namespace Go.Proofs.Ytfnjikjgofoomaa.Pure
open Go.Proofs.Ytfnjikjgofoomaa.P
open Go.RowKit Go.Proofs.YtfnjikjgofoomaaW.PrintWords Go.Proofs.YtfnjikjgofoomaaW.PrintLast Go.Proofs.YtfnjikjgofoomaaW.PrintMore
set_option linter.unusedVariables false
set_option linter.unusedSimpArgs false

theorem FnExactRootQuota : laws_FnExactRootQuota.Pure := by
  intro l hm hw
  have hn : l.length ≤ 9223372036854775807 := by unfold maxLen at hm; omega
  suffices h : Ev (fun k => laws_FnExactRootQuota.f k l) true from h.rounds
  unfold laws_FnExactRootQuota.f
  by_cases hs : (l.length : Int) > 1048576
  · exact Ev.pos hs (Ev.now _)
  · refine Ev.neg hs (Ev.bind (laws_toIntS.ev l (by omega)) (Ev.bind (spec_RootQuota.ev l hn) (Ev.bind (laws_toIntS.ev l (by omega)) (Ev.bind (impl_RootQuota.ev l hn) ?_))))
    refine Ev.pos rfl ?_
    rw [bne_self_eq_false]
    refine Ev.step (fun k => by rw [laws_FnExactRootQuota.j0]) ?_
    exact Ev.neg (by decide) (Ev.bind (laws_toIntS.ev l (by omega)) (Ev.bind (laws_eqIntS.ev l hn) (Ev.pos rfl (Ev.now _))))

end Go.Proofs.Ytfnjikjgofoomaa.Pure
