/- Plain facts of mine on printed functions: what they answer. No Go, no memory. -/
import Derived.Test.YtfnjikjgofoomaaPx14
import Derived.Test.YtfnjikjgofoomaaEv
import Derived.Test.YtfnjikjgofoomaaF2
import Derived.Test.YtfnjikjgofoomaaF4
namespace Go.Proofs.Ytfnjikjgofoomaa.P
open Go.RowKit Go.Proofs.YtfnjikjgofoomaaW.PrintWords Go.Proofs.YtfnjikjgofoomaaW.PrintLast Go.Proofs.YtfnjikjgofoomaaW.PrintMore
set_option linter.unusedVariables false
set_option linter.unusedSimpArgs false

theorem spec_TotalWeight.ev (q : Int) (l : List Int) (hn : l.length ≤ 9223372036854775807) : Ev (fun k => spec_TotalWeight.f k q l) (if goodC q l = true then (l.sum, true) else (0, false)) := by
  unfold spec_TotalWeight.f
  refine Ev.bind (spec_voGood.ev q l hn) ?_
  cases h : goodC q l with
  | false => exact Ev.neg (by decide) (Ev.now _)
  | true =>
    obtain ⟨h1, h2, h3, _, _⟩ := goodC_iff.1 h
    exact Ev.pos rfl (Ev.bind (spec_voSum.ev l 1000 h3 (by omega) (by omega)) (Ev.now _))

theorem impl_TotalWeight.ev (q : Int) (l : List Int) (hn : l.length ≤ 9223372036854775807) : Ev (fun k => impl_TotalWeight.f k q l) (if goodC q l = true then (l.sum, true) else (0, false)) := by
  unfold impl_TotalWeight.f
  refine Ev.bind (impl_IsCommittee.ev q l hn) ?_
  cases h : goodC q l with
  | false => exact Ev.neg (by decide) (Ev.now _)
  | true =>
    obtain ⟨h1, h2, h3, _, _⟩ := goodC_iff.1 h
    exact Ev.pos rfl (Ev.bind (impl_sumOf.ev l 1000 h3 (by omega) (by omega)) (Ev.now _))

end Go.Proofs.Ytfnjikjgofoomaa.P
