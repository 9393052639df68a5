/- The plain statement of the law FnExactCompareShares: whatever the numbers and lists, its printed function answers true from some number of rounds on. No condition beyond the kinds' own. -/
import Derived.Test.YtfnjikjgofoomaaPx9
import Derived.Test.YtfnjikjgofoomaaEv
import Derived.Test.YtfnjikjgofoomaaF3
import Derived.Test.YtfnjikjgofoomaaF8
namespace Go.Proofs.Ytfnjikjgofoomaa.Pure
open Go.Proofs.Ytfnjikjgofoomaa.P
open Go.RowKit Go.Proofs.YtfnjikjgofoomaaW.PrintWords Go.Proofs.YtfnjikjgofoomaaW.PrintLast Go.Proofs.YtfnjikjgofoomaaW.PrintMore
set_option linter.unusedVariables false
set_option linter.unusedSimpArgs false

theorem FnExactCompareShares : laws_FnExactCompareShares.Pure := by
  intro a b c d _ _ _ _
  suffices h : Ev (fun k => laws_FnExactCompareShares.f k a b c d) true from h.rounds
  unfold laws_FnExactCompareShares.f
  refine Ev.one (laws_toShare.eq a b) (Ev.one (laws_toShare.eq c d) (Ev.bind (spec_CompareShares.ev a b c d) ?_))
  refine Ev.one (laws_toShare.eq a b) (Ev.one (laws_toShare.eq c d) (Ev.bind (impl_CompareShares.ev a b c d) ?_))
  exact Ev.pos rfl (Ev.neg (by simp) (Ev.now _))

end Go.Proofs.Ytfnjikjgofoomaa.Pure
