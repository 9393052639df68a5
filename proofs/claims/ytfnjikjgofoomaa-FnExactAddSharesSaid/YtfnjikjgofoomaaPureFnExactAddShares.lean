/- The plain statement of the law FnExactAddShares: whatever the numbers and lists, its printed function answers true from some number of rounds on. No condition beyond the kinds' own. -/
import Derived.Test.YtfnjikjgofoomaaPx7
import Derived.Test.YtfnjikjgofoomaaEv
import Derived.Test.YtfnjikjgofoomaaF3
import Derived.Test.YtfnjikjgofoomaaF6
namespace Go.Proofs.Ytfnjikjgofoomaa.Pure
open Go.Proofs.Ytfnjikjgofoomaa.P
open Go.RowKit Go.Proofs.YtfnjikjgofoomaaW.PrintWords Go.Proofs.YtfnjikjgofoomaaW.PrintLast Go.Proofs.YtfnjikjgofoomaaW.PrintMore
set_option linter.unusedVariables false
set_option linter.unusedSimpArgs false

theorem FnExactAddShares : laws_FnExactAddShares.Pure := by
  intro a b c d _ _ _ _
  suffices h : Ev (fun k => laws_FnExactAddShares.f k a b c d) true from h.rounds
  unfold laws_FnExactAddShares.f
  refine Ev.one (laws_toShare.eq a b) (Ev.one (laws_toShare.eq c d) (Ev.bind (spec_AddShares.ev a b c d) ?_))
  refine Ev.one (laws_toShare.eq a b) (Ev.one (laws_toShare.eq c d) (Ev.bind (impl_AddShares.ev a b c d) ?_))
  exact Ev.one (laws_eqShare.eq _ _) (Ev.pos rfl (Ev.neg (by simp) (Ev.now _)))

end Go.Proofs.Ytfnjikjgofoomaa.Pure
