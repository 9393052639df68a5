/- Plain facts of mine on printed functions: what they answer. No Go, no memory. -/
import Derived.Test.YtfnjikjgofoomaaPx1
import Derived.Test.YtfnjikjgofoomaaEv
namespace Go.Proofs.Ytfnjikjgofoomaa.P
open Go.RowKit Go.Proofs.YtfnjikjgofoomaaW.PrintWords Go.Proofs.YtfnjikjgofoomaaW.PrintLast Go.Proofs.YtfnjikjgofoomaaW.PrintMore
set_option linter.unusedVariables false
set_option linter.unusedSimpArgs false

theorem spec_l1In.eq (a b c : Int) : spec_l1In.f a b c = some (inB b c a) := by
  unfold spec_l1In.f inB
  by_cases h : a ≥ b
  · simp [h]
  · simp [h]

theorem impl_within.eq (a b c : Int) : impl_within.f a b c = some (inB b c a) := by
  unfold impl_within.f inB
  by_cases h : a ≥ b
  · simp [h]
  · simp [h]

end Go.Proofs.Ytfnjikjgofoomaa.P
