/- Plain facts of mine on printed functions: what they answer. No Go, no memory. -/
import Derived.Test.YthjnmfacdlgbbaaPx7
import Derived.Test.YthjnmfacdlgbbaaEv
import Derived.Test.YthjnmfacdlgbbaaF1
import Derived.Test.YthjnmfacdlgbbaaF3
import Derived.Test.YthjnmfacdlgbbaaPow
import Derived.Test.YthjnmfacdlgbbaaPow
namespace Go.Proofs.Ythjnmfacdlgbbaa.P
open Go.RowKit Go.Proofs.YthjnmfacdlgbbaaW.PrintWords Go.Proofs.YthjnmfacdlgbbaaW.PrintLast Go.Proofs.YthjnmfacdlgbbaaW.PrintMore
set_option linter.unusedVariables false
set_option linter.unusedSimpArgs false

-- NEEDS Pow
theorem spec_shScanned.ev (q : Int) (l : List Int) (hn : l.length ≤ 9223372036854775807) : Ev (fun k => spec_shScanned.f k q l) (goodC q l && decide (l.sum ≤ 60)) := by
  unfold spec_shScanned.f
  refine Ev.bind (spec_voGood.ev q l hn) ?_
  cases h : goodC q l with
  | false => exact Ev.neg (by decide) (Ev.now _)
  | true =>
    obtain ⟨h1, h2, h3, h4, h5⟩ := goodC_iff.1 h
    exact Ev.pos rfl (Ev.bind (spec_voSum.ev l 1000 h3 (by omega) (by omega)) ((Ev.now _).cast (by simp)))

-- NEEDS Pow
theorem impl_isScanned.ev (q : Int) (l : List Int) (m : Int) (hn : l.length ≤ 9223372036854775807) : Ev (fun k => impl_isScanned.f k q l m) (goodC q l && decide (l.sum ≤ m)) := by
  unfold impl_isScanned.f
  refine Ev.bind (impl_IsCommittee.ev q l hn) ?_
  cases h : goodC q l with
  | false => exact Ev.neg (by decide) (Ev.now _)
  | true =>
    obtain ⟨h1, h2, h3, h4, h5⟩ := goodC_iff.1 h
    exact Ev.pos rfl (Ev.bind (impl_sumOf.ev l 1000 h3 (by omega) (by omega)) ((Ev.now _).cast (by simp)))

end Go.Proofs.Ythjnmfacdlgbbaa.P
