/- Plain facts of mine on printed functions: what they answer. No Go, no memory. -/
import Derived.Test.YtbjgdbgaopgbjaaPx19
import Derived.Test.YtbjgdbgaopgbjaaEv
import Derived.Test.YtbjgdbgaopgbjaaF1
import Derived.Test.YtbjgdbgaopgbjaaF2
import Derived.Test.YtbjgdbgaopgbjaaF7
import Derived.Test.YtbjgdbgaopgbjaaSets
import Derived.Test.YtbjgdbgaopgbjaaPow
import Derived.Test.YtbjgdbgaopgbjaaSets
import Derived.Test.YtbjgdbgaopgbjaaPow
namespace Go.Proofs.Ytbjgdbgaopgbjaa.P
open Go.RowKit Go.Proofs.YtbjgdbgaopgbjaaW.PrintWords Go.Proofs.YtbjgdbgaopgbjaaW.PrintLast Go.Proofs.YtbjgdbgaopgbjaaW.PrintMore
set_option linter.unusedVariables false
set_option linter.unusedSimpArgs false

-- NEEDS Sets
theorem spec_gmCount.ev (ws : List Bool) (hn : ws.length ≤ 1000000000000) : Ev (fun k => spec_gmCount.f k ws) (countL ws) := by
  unfold spec_gmCount.f
  have h := down (P := fun i => Ev (fun k => spec_gmCount.l0 k (countL (ws.take i)) ws (ws.length : Int) (i : Int)) (countL ws)) ws.length ?_ ?_ 0 (Nat.zero_le _)
  · exact h
  · refine Ev.step (fun k => by rw [spec_gmCount.l0]) ?_
    exact Ev.neg (by omega) ((Ev.now _).cast (by simp))
  · intro i hi ih
    refine Ev.step (fun k => by rw [spec_gmCount.l0]) ?_
    refine Ev.pos (by omega) (Ev.pos (by omega) (Ev.pos (by omega) ?_))
    have h1 := count_take hi
    have h2 := count_le (ws.take i)
    rw [List.length_take, Nat.min_eq_left (by omega)] at h2
    rw [rdOf_nat hi, wrap_next hi (by omega)]
    cases hb : ws[i] with
    | true =>
      rw [hb, if_pos rfl] at h1
      rw [wrap_id (by omega) (by omega), ← h1]
      exact Ev.pos rfl ih
    | false =>
      rw [hb, if_neg (by decide), Int.add_zero] at h1
      rw [← h1]
      exact Ev.neg (by decide) ih

-- NEEDS Pow
theorem spec_DecidePower.ev (q : Int) (l : List Int) (hn : l.length ≤ 9223372036854775807) : Ev (fun k => spec_DecidePower.f k q l) (if goodC q l = true then ((shareO (countL (winsC q l)) ((winsC q l).length : Int)).1, (shareO (countL (winsC q l)) ((winsC q l).length : Int)).2, true) else (0, 0, false)) := by
  unfold spec_DecidePower.f
  refine Ev.bind (spec_voGood.ev q l hn) ?_
  cases h : goodC q l with
  | false => exact Ev.neg (by decide) (Ev.now _)
  | true =>
    obtain ⟨h1, h2, h3, h4, h5⟩ := goodC_iff.1 h
    have hp := pow9 h2
    have hl := winsC_length q l
    have hc := count_le (winsC q l)
    exact Ev.pos rfl (Ev.bind (spec_voWins.ev q l h2 h3) (Ev.bind (spec_gmCount.ev _ (by omega)) (Ev.bind (spec_pwShare.ev (by omega) (by omega) (by omega) (by omega)) (Ev.now _))))

-- NEEDS Sets
theorem impl_votes_countWins.ev (n : Int) (ws : List Bool) (hn : ws.length ≤ 1000000000000) : Ev (fun k => impl_votes_countWins.f k n ws) (countL ws) := by
  unfold impl_votes_countWins.f
  have h := down (P := fun i => Ev (fun k => impl_votes_countWins.l0 k (countL (ws.take i)) ws (ws.length : Int) (i : Int)) (countL ws)) ws.length ?_ ?_ 0 (Nat.zero_le _)
  · exact h
  · refine Ev.step (fun k => by rw [impl_votes_countWins.l0]) ?_
    exact Ev.neg (by omega) ((Ev.now _).cast (by simp))
  · intro i hi ih
    refine Ev.step (fun k => by rw [impl_votes_countWins.l0]) ?_
    refine Ev.pos (by omega) (Ev.pos (by omega) (Ev.pos (by omega) ?_))
    have h1 := count_take hi
    have h2 := count_le (ws.take i)
    rw [List.length_take, Nat.min_eq_left (by omega)] at h2
    rw [rdOf_nat hi, wrap_next hi (by omega)]
    cases hb : ws[i] with
    | true =>
      rw [hb, if_pos rfl] at h1
      rw [wrap_id (by omega) (by omega), ← h1]
      exact Ev.pos rfl ih
    | false =>
      rw [hb, if_neg (by decide), Int.add_zero] at h1
      rw [← h1]
      exact Ev.neg (by decide) ih

-- NEEDS Pow
theorem impl_DecidePower.ev (q : Int) (l : List Int) (hn : l.length ≤ 9223372036854775807) : Ev (fun k => impl_DecidePower.f k q l) (if goodC q l = true then ((shareO (countL (winsC q l)) ((winsC q l).length : Int)).1, (shareO (countL (winsC q l)) ((winsC q l).length : Int)).2, true) else (0, 0, false)) := by
  unfold impl_DecidePower.f
  refine Ev.bind (impl_IsCommittee.ev q l hn) ?_
  cases h : goodC q l with
  | false => exact Ev.neg (by decide) (Ev.now _)
  | true =>
    obtain ⟨h1, h2, h3, h4, h5⟩ := goodC_iff.1 h
    have hp := pow9 h2
    have hl := winsC_length q l
    have hc := count_le (winsC q l)
    exact Ev.pos rfl (Ev.one (impl_Committee_votes.eq h) (Ev.bind (impl_votes_countWins.ev l.length (winsC q l) (by omega)) (Ev.bind (impl_shareOf.ev (n := countL (winsC q l)) (d := ((winsC q l).length : Int)) (by omega) (by omega) (by omega) (by omega)) (Ev.now _))))

end Go.Proofs.Ytbjgdbgaopgbjaa.P
