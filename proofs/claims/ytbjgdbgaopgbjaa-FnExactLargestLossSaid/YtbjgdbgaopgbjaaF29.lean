/- Plain facts of mine on printed functions: what they answer. No Go, no memory. -/
import Derived.Test.YtbjgdbgaopgbjaaPx29
import Derived.Test.YtbjgdbgaopgbjaaEv
import Derived.Test.YtbjgdbgaopgbjaaF1
import Derived.Test.YtbjgdbgaopgbjaaF2
import Derived.Test.YtbjgdbgaopgbjaaF4
import Derived.Test.YtbjgdbgaopgbjaaF8
import Derived.Test.YtbjgdbgaopgbjaaPow
import Derived.Test.YtbjgdbgaopgbjaaPow
namespace Go.Proofs.Ytbjgdbgaopgbjaa.P
open Go.RowKit Go.Proofs.YtbjgdbgaopgbjaaW.PrintWords Go.Proofs.YtbjgdbgaopgbjaaW.PrintLast Go.Proofs.YtbjgdbgaopgbjaaW.PrintMore
set_option linter.unusedVariables false
set_option linter.unusedSimpArgs false

theorem spec_l1Most.eq (a b : Int) : spec_l1Most.f a b = some (if a > b then a else b) := by
  unfold spec_l1Most.f
  split <;> rfl

-- NEEDS Pow
theorem spec_LargestLoss.loop (ws : List Bool) (n : Nat) (hN : ws.length = 2 ^ n) (h9 : n ≤ 9) : Ev (fun k => spec_LargestLoss.l0 k 0 ws (ws.length : Int) 0) (lossN ws (2 ^ n), true) := by
  have hp := pow9 h9
  have h := down (P := fun i => Ev (fun k => spec_LargestLoss.l0 k (lossN ws i) ws (ws.length : Int) (i : Int)) (lossN ws (2 ^ n), true)) (2 ^ n) ?_ ?_ 0 (Nat.zero_le _)
  · exact h
  · refine Ev.step (fun k => by rw [spec_LargestLoss.l0]) ?_
    exact Ev.neg (by omega) (Ev.now _)
  · intro i hi ih
    refine Ev.step (fun k => by rw [spec_LargestLoss.l0]) ?_
    refine Ev.pos (by omega) (Ev.pos (by omega) (Ev.pos (by omega) ?_))
    rw [rdOf_nat (by omega), wrap_next hi (by omega)]
    rw [lossN, getD_at (by omega)] at ih
    cases hb : ws[i]'(by omega) with
    | true =>
      rw [hb, if_pos rfl] at ih
      exact Ev.pos rfl ih
    | false =>
      rw [hb, if_neg (by decide)] at ih
      refine Ev.neg (by decide) (Ev.bind (spec_voList.ev h9 hi) (Ev.one (spec_l1Most.eq _ _) ?_))
      have e : (((bitsL i).map fun (x : Nat) => (x : Int)).length : Int) = (popc i : Int) := by simp [popc]
      rw [e]
      by_cases hd : (popc i : Int) ≤ lossN ws i
      · rw [if_pos hd] at ih
        by_cases he : lossN ws i > popc i
        · rw [if_pos he]; exact ih
        · rw [if_neg he, show (popc i : Int) = lossN ws i by omega]; exact ih
      · rw [if_neg hd] at ih
        rw [if_neg (by omega)]
        exact ih
theorem spec_LargestLoss.ev (q : Int) (l : List Int) (hn : l.length ≤ 9223372036854775807) : Ev (fun k => spec_LargestLoss.f k q l) (if goodC q l = true then (lossN (winsC q l) (2 ^ l.length), true) else (0, false)) := by
  unfold spec_LargestLoss.f
  refine Ev.bind (spec_voGood.ev q l hn) ?_
  cases h : goodC q l with
  | false => exact Ev.neg (by decide) (Ev.now _)
  | true =>
    obtain ⟨h1, h2, h3, h4, h5⟩ := goodC_iff.1 h
    exact Ev.pos rfl (Ev.bind (spec_voWins.ev q l h2 h3) (spec_LargestLoss.loop _ l.length (winsC_length q l) h2))

-- NEEDS Pow
theorem impl_LargestLoss.loop (ws : List Bool) (n : Nat) (hN : ws.length = 2 ^ n) (h9 : n ≤ 9) : Ev (fun k => impl_LargestLoss.l0 k 0 ws (ws.length : Int) 0) (lossN ws (2 ^ n), true) := by
  have hp := pow9 h9
  have h := down (P := fun i => Ev (fun k => impl_LargestLoss.l0 k (lossN ws i) ws (ws.length : Int) (i : Int)) (lossN ws (2 ^ n), true)) (2 ^ n) ?_ ?_ 0 (Nat.zero_le _)
  · exact h
  · refine Ev.step (fun k => by rw [impl_LargestLoss.l0]) ?_
    exact Ev.neg (by omega) (Ev.now _)
  · intro i hi ih
    refine Ev.step (fun k => by rw [impl_LargestLoss.l0]) ?_
    refine Ev.pos (by omega) (Ev.pos (by omega) (Ev.pos (by omega) ?_))
    rw [rdOf_nat (by omega), wrap_next hi (by omega)]
    rw [lossN, getD_at (by omega)] at ih
    cases hb : ws[i]'(by omega) with
    | true =>
      rw [hb, if_pos rfl] at ih
      exact Ev.pos rfl ih
    | false =>
      rw [hb, if_neg (by decide)] at ih
      refine Ev.neg (by decide) (Ev.one (impl_count.eq h9 hi) ?_)
      unfold mx
      by_cases hd : (popc i : Int) ≤ lossN ws i
      · rw [if_pos hd] at ih
        rw [if_neg (by omega)]
        exact ih
      · rw [if_neg hd] at ih
        rw [if_pos (by omega)]
        exact ih
theorem impl_LargestLoss.ev (q : Int) (l : List Int) (hn : l.length ≤ 9223372036854775807) : Ev (fun k => impl_LargestLoss.f k q l) (if goodC q l = true then (lossN (winsC q l) (2 ^ l.length), true) else (0, false)) := by
  unfold impl_LargestLoss.f
  refine Ev.bind (impl_IsCommittee.ev q l hn) ?_
  cases h : goodC q l with
  | false => exact Ev.neg (by decide) (Ev.now _)
  | true =>
    obtain ⟨h1, h2, h3, h4, h5⟩ := goodC_iff.1 h
    exact Ev.pos rfl (Ev.one (impl_Committee_votes.eq h) (impl_LargestLoss.loop _ l.length (winsC_length q l) h2))

end Go.Proofs.Ytbjgdbgaopgbjaa.P
