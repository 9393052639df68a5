/- Plain facts of mine on printed functions: what they answer. No Go, no memory. -/
import Derived.Test.YtameadmmgnfefaaPx14
import Derived.Test.YtameadmmgnfefaaEv
import Derived.Test.YtameadmmgnfefaaSets
import Derived.Test.YtameadmmgnfefaaSets
namespace Go.Proofs.Ytameadmmgnfefaa.P
open Go.RowKit Go.Proofs.YtameadmmgnfefaaW.PrintWords Go.Proofs.YtameadmmgnfefaaW.PrintLast Go.Proofs.YtameadmmgnfefaaW.PrintMore
set_option linter.unusedVariables false
set_option linter.unusedSimpArgs false

-- NEEDS Sets
theorem spec_gmCount.ev (ws : List Bool) (hn : ws.length ≤ 1000000000000) : Ev (fun k => spec_gmCount.f k ws) (countL ws) := by
  unfold spec_gmCount.f
  have h := down (P := fun i => Ev (fun k => spec_gmCount.l0 k (countL (ws.take i)) ws (ws.length : Int) (i : Int)) (countL ws)) ws.length ?_ ?_ 0 (Nat.zero_le _)
  · exact h
  · refine Ev.step (fun k => by rw [spec_gmCount.l0]) ?_
    exact Ev.neg (by omega) ((Ev.now _).cast (by simp))
  · intro i hi ih
    refine Ev.step (fun k => by rw [spec_gmCount.l0]) ?_
    refine Ev.pos (by omega) (Ev.pos (by omega) (Ev.pos (by omega) ?_))
    have h1 := count_take hi
    have h2 := count_le (ws.take i)
    rw [List.length_take, Nat.min_eq_left (by omega)] at h2
    rw [rdOf_nat hi, wrap_next hi (by omega)]
    cases hb : ws[i] with
    | true =>
      rw [hb, if_pos rfl] at h1
      rw [wrap_id (by omega) (by omega), ← h1]
      exact Ev.pos rfl ih
    | false =>
      rw [hb, if_neg (by decide), Int.add_zero] at h1
      rw [← h1]
      exact Ev.neg (by decide) ih

-- NEEDS Sets
theorem impl_votes_countWins.ev (n : Int) (ws : List Bool) (hn : ws.length ≤ 1000000000000) : Ev (fun k => impl_votes_countWins.f k n ws) (countL ws) := by
  unfold impl_votes_countWins.f
  have h := down (P := fun i => Ev (fun k => impl_votes_countWins.l0 k (countL (ws.take i)) ws (ws.length : Int) (i : Int)) (countL ws)) ws.length ?_ ?_ 0 (Nat.zero_le _)
  · exact h
  · refine Ev.step (fun k => by rw [impl_votes_countWins.l0]) ?_
    exact Ev.neg (by omega) ((Ev.now _).cast (by simp))
  · intro i hi ih
    refine Ev.step (fun k => by rw [impl_votes_countWins.l0]) ?_
    refine Ev.pos (by omega) (Ev.pos (by omega) (Ev.pos (by omega) ?_))
    have h1 := count_take hi
    have h2 := count_le (ws.take i)
    rw [List.length_take, Nat.min_eq_left (by omega)] at h2
    rw [rdOf_nat hi, wrap_next hi (by omega)]
    cases hb : ws[i] with
    | true =>
      rw [hb, if_pos rfl] at h1
      rw [wrap_id (by omega) (by omega), ← h1]
      exact Ev.pos rfl ih
    | false =>
      rw [hb, if_neg (by decide), Int.add_zero] at h1
      rw [← h1]
      exact Ev.neg (by decide) ih

end Go.Proofs.Ytameadmmgnfefaa.P
