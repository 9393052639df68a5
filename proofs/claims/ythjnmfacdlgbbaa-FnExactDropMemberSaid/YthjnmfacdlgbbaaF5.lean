/- Plain facts of mine on printed functions: what they answer. No Go, no memory. -/
import Derived.Test.YthjnmfacdlgbbaaPx5
import Derived.Test.YthjnmfacdlgbbaaEv
import Derived.Test.YthjnmfacdlgbbaaF1
namespace Go.Proofs.Ythjnmfacdlgbbaa.P
open Go.RowKit Go.Proofs.YthjnmfacdlgbbaaW.PrintWords Go.Proofs.YthjnmfacdlgbbaaW.PrintLast Go.Proofs.YthjnmfacdlgbbaaW.PrintMore
set_option linter.unusedVariables false
set_option linter.unusedSimpArgs false

theorem impl_isMember.ev (q : Int) (l : List Int) (d : Int) (hn : l.length ≤ 9223372036854775807) : Ev (fun k => impl_isMember.f k q l d) (goodC q l && inB 0 ((l.length : Int) - 1) d) := by
  unfold impl_isMember.f
  refine Ev.bind (impl_IsCommittee.ev q l hn) ?_
  cases h : goodC q l with
  | false => exact Ev.neg (by decide) (Ev.now _)
  | true =>
    rw [wrap_id (by omega) (by omega)]
    exact Ev.pos rfl (Ev.one (impl_within.eq _ _ _) ((Ev.now _).cast (by simp)))

end Go.Proofs.Ythjnmfacdlgbbaa.P
