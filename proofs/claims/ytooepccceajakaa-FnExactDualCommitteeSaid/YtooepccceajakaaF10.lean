/- Plain facts of mine on printed functions: what they answer. No Go, no memory. -/
import Derived.Test.YtooepccceajakaaPx10
import Derived.Test.YtooepccceajakaaEv
import Derived.Test.YtooepccceajakaaF6
import Derived.Test.YtooepccceajakaaSets
namespace Go.Proofs.Ytooepccceajakaa.P
open Go.RowKit Go.Proofs.YtooepccceajakaaW.PrintWords Go.Proofs.YtooepccceajakaaW.PrintLast Go.Proofs.YtooepccceajakaaW.PrintMore
set_option linter.unusedVariables false
set_option linter.unusedSimpArgs false

theorem spec_l1Own.eq (l : List Int) (hn : l.length ≤ 1000000000000) : spec_l1Own.f l = some l := by
  unfold spec_l1Own.f
  rw [Option.bind_some, if_pos (by simp; omega)]
  rfl

theorem slices_Clone_int_int.eq (l : List Int) (hn : l.length ≤ 1000000000000) : slices_Clone_int_int.f l = some l := by
  unfold slices_Clone_int_int.f
  rw [if_pos (by omega)]

-- NEEDS Sets
theorem laws_heldCommittee.ev (q : Int) (n : Nat) (k0 : Int) (h0 : 0 ≤ k0) (h1 : k0 ≤ 1000000000000) (hn : n ≤ 1000000000000) : Ev (fun k => laws_heldCommittee.f k q (seqI k0 n) k0) (k0 + n) := by
  unfold laws_heldCommittee.f
  exact Ev.bind (laws_heldIntS.ev n k0 h0 h1 hn) (Ev.neg (by omega) (Ev.now _))

end Go.Proofs.Ytooepccceajakaa.P
