/- Plain facts of mine on printed functions: what they answer. No Go, no memory. -/
import Derived.Test.YtadlpnejkkblfaaPx13
import Derived.Test.YtadlpnejkkblfaaEv
import Derived.Test.YtadlpnejkkblfaaF2
import Derived.Test.YtadlpnejkkblfaaF5
import Derived.Test.YtadlpnejkkblfaaSets
import Derived.Test.YtadlpnejkkblfaaGame
import Derived.Test.YtadlpnejkkblfaaSets
import Derived.Test.YtadlpnejkkblfaaGame
namespace Go.Proofs.Ytadlpnejkkblfaa.P
open Go.RowKit Go.Proofs.YtadlpnejkkblfaaW.PrintWords Go.Proofs.YtadlpnejkkblfaaW.PrintLast Go.Proofs.YtadlpnejkkblfaaW.PrintMore
set_option linter.unusedVariables false
set_option linter.unusedSimpArgs false

-- NEEDS Sets
theorem spec_gmCount.ev (ws : List Bool) (hn : ws.length ≤ 1000000000000) : Ev (fun k => spec_gmCount.f k ws) (countL ws) := by
  unfold spec_gmCount.f
  have h := down (P := fun i => Ev (fun k => spec_gmCount.l0 k (countL (ws.take i)) ws (ws.length : Int) (i : Int)) (countL ws)) ws.length ?_ ?_ 0 (Nat.zero_le _)
  · exact h
  · refine Ev.step (fun k => by rw [spec_gmCount.l0]) ?_
    exact Ev.neg (by omega) ((Ev.now _).cast (by simp))
  · intro i hi ih
    refine Ev.step (fun k => by rw [spec_gmCount.l0]) ?_
    refine Ev.pos (by omega) (Ev.pos (by omega) (Ev.pos (by omega) ?_))
    have h1 := count_take hi
    have h2 := count_le (ws.take i)
    rw [List.length_take, Nat.min_eq_left (by omega)] at h2
    rw [rdOf_nat hi, wrap_next hi (by omega)]
    cases hb : ws[i] with
    | true =>
      rw [hb, if_pos rfl] at h1
      rw [wrap_id (by omega) (by omega), ← h1]
      exact Ev.pos rfl ih
    | false =>
      rw [hb, if_neg (by decide), Int.add_zero] at h1
      rw [← h1]
      exact Ev.neg (by decide) ih

-- NEEDS Game
theorem spec_CountWins.ev (n : Int) (L : List (List Int)) (hL : L.length ≤ 9223372036854775807) (hr : ∀ s ∈ L, s.length ≤ 9223372036854775807) : Ev (fun k => spec_CountWins.f k n L) (if gameOK n L = true then (countL (winsGL n.toNat L), true) else (0, false)) := by
  unfold spec_CountWins.f
  refine Ev.bind (spec_gmGood.ev n L hL hr) ?_
  cases h : gameOK n L with
  | false => exact Ev.neg (by decide) (Ev.now _)
  | true =>
    obtain ⟨h1, h2, h3, h4, h5⟩ := gameOK_iff h
    have hp := pow9 (n := n.toNat) (by omega)
    exact Ev.pos rfl (Ev.bind (spec_gmAll.ev n L h hr) (Ev.bind (spec_gmCount.ev _ (by rw [winsGL_length]; omega)) (Ev.now _)))

-- NEEDS Sets
theorem impl_votes_countWins.ev (n : Int) (ws : List Bool) (hn : ws.length ≤ 1000000000000) : Ev (fun k => impl_votes_countWins.f k n ws) (countL ws) := by
  unfold impl_votes_countWins.f
  have h := down (P := fun i => Ev (fun k => impl_votes_countWins.l0 k (countL (ws.take i)) ws (ws.length : Int) (i : Int)) (countL ws)) ws.length ?_ ?_ 0 (Nat.zero_le _)
  · exact h
  · refine Ev.step (fun k => by rw [impl_votes_countWins.l0]) ?_
    exact Ev.neg (by omega) ((Ev.now _).cast (by simp))
  · intro i hi ih
    refine Ev.step (fun k => by rw [impl_votes_countWins.l0]) ?_
    refine Ev.pos (by omega) (Ev.pos (by omega) (Ev.pos (by omega) ?_))
    have h1 := count_take hi
    have h2 := count_le (ws.take i)
    rw [List.length_take, Nat.min_eq_left (by omega)] at h2
    rw [rdOf_nat hi, wrap_next hi (by omega)]
    cases hb : ws[i] with
    | true =>
      rw [hb, if_pos rfl] at h1
      rw [wrap_id (by omega) (by omega), ← h1]
      exact Ev.pos rfl ih
    | false =>
      rw [hb, if_neg (by decide), Int.add_zero] at h1
      rw [← h1]
      exact Ev.neg (by decide) ih

-- NEEDS Game
theorem impl_CountWins.ev (n : Int) (L : List (List Int)) (hL : L.length ≤ 9223372036854775807) (hr : ∀ s ∈ L, s.length ≤ 9223372036854775807) : Ev (fun k => impl_CountWins.f k n L) (if gameOK n L = true then (countL (winsGL n.toNat L), true) else (0, false)) := by
  unfold impl_CountWins.f
  refine Ev.bind (impl_IsGame.ev n L hL hr) ?_
  cases h : gameOK n L with
  | false => exact Ev.neg (by decide) (Ev.now _)
  | true =>
    obtain ⟨h1, h2, h3, h4, h5⟩ := gameOK_iff h
    have hp := pow9 (n := n.toNat) (by omega)
    exact Ev.pos rfl (Ev.bind (impl_Game_votes.ev n L h hr) (Ev.bind (impl_votes_countWins.ev _ _ (by rw [winsGL_length]; omega)) (Ev.now _)))

end Go.Proofs.Ytadlpnejkkblfaa.P
