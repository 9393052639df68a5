/- Plain facts of mine on printed functions: what they answer. No Go, no memory. -/
import Derived.Test.YthjnmfacdlgbbaaPx8
import Derived.Test.YthjnmfacdlgbbaaEv
import Derived.Test.YthjnmfacdlgbbaaF1
import Derived.Test.YthjnmfacdlgbbaaF2
import Derived.Test.YthjnmfacdlgbbaaSets
namespace Go.Proofs.Ythjnmfacdlgbbaa.P
open Go.RowKit Go.Proofs.YthjnmfacdlgbbaaW.PrintWords Go.Proofs.YthjnmfacdlgbbaaW.PrintLast Go.Proofs.YthjnmfacdlgbbaaW.PrintMore
set_option linter.unusedVariables false
set_option linter.unusedSimpArgs false

theorem impl_ifCommittee.ev (q : Int) (l : List Int) (hn : l.length ≤ 9223372036854775807) : Ev (fun k => impl_ifCommittee.f k q l) (if goodC q l = true then (q, l, true) else (0, [], false)) := by
  unfold impl_ifCommittee.f
  refine Ev.bind (impl_IsCommittee.ev q l hn) ?_
  cases h : goodC q l with
  | false => exact Ev.neg (by decide) (Ev.now _)
  | true => exact Ev.pos rfl (Ev.now _)

-- NEEDS Sets
theorem laws_heldCommittee.ev (q : Int) (n : Nat) (k0 : Int) (h0 : 0 ≤ k0) (h1 : k0 ≤ 1000000000000) (hn : n ≤ 1000000000000) : Ev (fun k => laws_heldCommittee.f k q (seqI k0 n) k0) (k0 + n) := by
  unfold laws_heldCommittee.f
  exact Ev.bind (laws_heldIntS.ev n k0 h0 h1 hn) (Ev.neg (by omega) (Ev.now _))

end Go.Proofs.Ythjnmfacdlgbbaa.P
