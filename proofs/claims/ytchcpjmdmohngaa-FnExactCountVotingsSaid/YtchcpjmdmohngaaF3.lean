/- Plain facts of mine on printed functions: what they answer. No Go, no memory. -/
import Derived.Test.YtchcpjmdmohngaaPx3
import Derived.Test.YtchcpjmdmohngaaEv
import Derived.Test.YtchcpjmdmohngaaF1
import Derived.Test.YtchcpjmdmohngaaF2
import Derived.Test.YtchcpjmdmohngaaSums
import Derived.Test.YtchcpjmdmohngaaSums
namespace Go.Proofs.Ytchcpjmdmohngaa.P
open Go.RowKit Go.Proofs.YtchcpjmdmohngaaW.PrintWords Go.Proofs.YtchcpjmdmohngaaW.PrintLast Go.Proofs.YtchcpjmdmohngaaW.PrintMore
set_option linter.unusedVariables false
set_option linter.unusedSimpArgs false

-- NEEDS Sums
theorem spec_CountVotings.ev (q : Int) (l : List Int) (hn : l.length ≤ 9223372036854775807) : Ev (fun k => spec_CountVotings.f k q l) (if goodC q l = true then (((sumsS l).length : Int), true) else (0, false)) := by
  unfold spec_CountVotings.f
  refine Ev.bind (spec_voGood.ev q l hn) ?_
  cases h : goodC q l with
  | false => exact Ev.neg (by decide) (Ev.now _)
  | true =>
    obtain ⟨h1, h2, h3, h4, h5⟩ := goodC_iff.1 h
    exact Ev.pos rfl (Ev.bind (spec_shSums.ev q l h2 h3) (Ev.now _))

-- NEEDS Sums
theorem impl_CountVotings.ev (q : Int) (l : List Int) (hn : l.length ≤ 9223372036854775807) : Ev (fun k => impl_CountVotings.f k q l) (if goodC q l = true then (((sumsS l).length : Int), true) else (0, false)) := by
  unfold impl_CountVotings.f
  refine Ev.bind (impl_QuotaSteps.ev q l hn) ((Ev.now _).cast ?_)
  cases h : goodC q l with
  | false => rfl
  | true =>
    rw [if_pos rfl, if_pos rfl]
    show (((stepsC l).length : Int), true) = _
    rw [(stepsC_length h).1]

end Go.Proofs.Ytchcpjmdmohngaa.P
