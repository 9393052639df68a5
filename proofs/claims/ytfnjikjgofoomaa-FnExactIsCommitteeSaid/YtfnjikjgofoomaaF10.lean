/- Plain facts of mine on printed functions: what they answer. No Go, no memory. -/
import Derived.Test.YtfnjikjgofoomaaPx10
import Derived.Test.YtfnjikjgofoomaaEv
import Derived.Test.YtfnjikjgofoomaaF4
namespace Go.Proofs.Ytfnjikjgofoomaa.P
open Go.RowKit Go.Proofs.YtfnjikjgofoomaaW.PrintWords Go.Proofs.YtfnjikjgofoomaaW.PrintLast Go.Proofs.YtfnjikjgofoomaaW.PrintMore
set_option linter.unusedVariables false
set_option linter.unusedSimpArgs false

theorem spec_IsCommittee.ev (q : Int) (l : List Int) (hn : l.length ≤ 9223372036854775807) : Ev (fun k => spec_IsCommittee.f k q l) (goodC q l) := by
  unfold spec_IsCommittee.f
  exact Ev.bind (spec_voGood.ev q l hn) (Ev.now _)

end Go.Proofs.Ytfnjikjgofoomaa.P
