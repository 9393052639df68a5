/- Plain facts of mine on printed functions: what they answer. No Go, no memory. -/
import Derived.Test.YtooepccceajakaaPx5
import Derived.Test.YtooepccceajakaaEv
namespace Go.Proofs.Ytooepccceajakaa.P
open Go.RowKit Go.Proofs.YtooepccceajakaaW.PrintWords Go.Proofs.YtooepccceajakaaW.PrintLast Go.Proofs.YtooepccceajakaaW.PrintMore
set_option linter.unusedVariables false
set_option linter.unusedSimpArgs false

theorem impl_votes_all.eq {n : Nat} (hn : n ≤ 62) (ws : List Bool) : impl_votes_all.f (n : Int) ws = some ((2 ^ n - 1 : Nat) : Int) := by
  unfold impl_votes_all.f
  have h0 : 1 ≤ 2 ^ n := Nat.one_le_two_pow
  have h1 := Nat.pow_le_pow_right (n := 2) (by omega) hn
  rw [if_pos (by omega), shl_one hn, wrap_id (by omega) (by omega)]
  congr 1
  omega

end Go.Proofs.Ytooepccceajakaa.P
