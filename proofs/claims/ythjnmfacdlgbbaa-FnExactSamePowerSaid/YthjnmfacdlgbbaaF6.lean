/- Plain facts of mine on printed functions: what they answer. No Go, no memory. -/
import Derived.Test.YthjnmfacdlgbbaaPx6
import Derived.Test.YthjnmfacdlgbbaaEv
import Derived.Test.YthjnmfacdlgbbaaF4
import Derived.Test.YthjnmfacdlgbbaaPow
namespace Go.Proofs.Ythjnmfacdlgbbaa.P
open Go.RowKit Go.Proofs.YthjnmfacdlgbbaaW.PrintWords Go.Proofs.YthjnmfacdlgbbaaW.PrintLast Go.Proofs.YthjnmfacdlgbbaaW.PrintMore
set_option linter.unusedVariables false
set_option linter.unusedSimpArgs false

-- NEEDS Pow
theorem impl_votes_swings.ev (ws : List Bool) (n : Nat) (hN : ws.length = 2 ^ n) (h9 : n ≤ 9) : Ev (fun k => impl_votes_swings.f k (n : Int) ws) ((List.range n).map fun m => cntN (isSw ws m) (2 ^ n)) := by
  unfold impl_votes_swings.f
  have hp := pow9 h9
  refine Ev.pos (by omega) (Ev.pos (by omega) (Ev.one rfl ?_))
  rw [Int.toNat_natCast, List.length_replicate]
  have h := down (P := fun m => Ev (fun k => impl_votes_swings.l0 k (fillN (fun m => cntN (isSw ws m) (2 ^ n)) n m 0) (n : Int) (m : Int) (n : Int) ws) ((List.range n).map fun m => cntN (isSw ws m) (2 ^ n))) n ?_ ?_ 0 (Nat.zero_le _)
  · rw [fillN_zero] at h
    exact h
  · refine Ev.step (fun k => by rw [impl_votes_swings.l0]) ?_
    exact Ev.neg (by omega) ((Ev.now _).cast (fillN_end _ _))
  · intro m hm ih
    refine Ev.step (fun k => by rw [impl_votes_swings.l0]) ?_
    refine Ev.pos (by omega) ?_
    have h := down (P := fun i => Ev (fun k => impl_votes_swings.l1 k (fillN (fun m => cntN (isSw ws m) (2 ^ n)) n m (cntN (isSw ws m) i)) (m : Int) (n : Int) (m : Int) (ws.length : Int) (i : Int) (n : Int) ws) ((List.range n).map fun m => cntN (isSw ws m) (2 ^ n))) (2 ^ n) ?_ ?_ 0 (Nat.zero_le _)
    · exact h
    · refine Ev.step (fun k => by rw [impl_votes_swings.l1]) ?_
      refine Ev.neg (by omega) ?_
      rw [fillN_next (fun m => cntN (isSw ws m) (2 ^ n)) n m, wrap_next hm (by omega)]
      exact ih
    · intro i hi ihi
      refine Ev.step (fun k => by rw [impl_votes_swings.l1]) ?_
      refine Ev.pos (by omega) (Ev.one (impl_votes_isSwing.eq ws n m i _ hN h9 hm hi) ?_)
      rw [wrap_next hi (by omega)]
      cases hb : isSw ws m i with
      | true =>
        have h1 := cntN_le (isSw ws m) i
        refine Ev.pos rfl (Ev.pos (by omega) (Ev.pos (by rw [fillN_length]; omega) ?_))
        rw [fillN_at hm, Int.toNat_natCast, fillN_set hm, wrap_id (by omega) (by omega), ← cntN_pos hb]
        exact ihi
      | false =>
        refine Ev.neg (by decide) ?_
        rw [← cntN_neg hb]
        exact ihi

end Go.Proofs.Ythjnmfacdlgbbaa.P
