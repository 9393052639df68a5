/- Plain facts of mine on printed functions: what they answer. No Go, no memory. -/
import Derived.Test.YtbjgdbgaopgbjaaPx23
import Derived.Test.YtbjgdbgaopgbjaaEv
import Derived.Test.YtbjgdbgaopgbjaaF1
import Derived.Test.YtbjgdbgaopgbjaaF2
import Derived.Test.YtbjgdbgaopgbjaaF4
import Derived.Test.YtbjgdbgaopgbjaaF8
import Derived.Test.YtbjgdbgaopgbjaaPow
import Derived.Test.YtbjgdbgaopgbjaaPow
namespace Go.Proofs.Ytbjgdbgaopgbjaa.P
open Go.RowKit Go.Proofs.YtbjgdbgaopgbjaaW.PrintWords Go.Proofs.YtbjgdbgaopgbjaaW.PrintLast Go.Proofs.YtbjgdbgaopgbjaaW.PrintMore
set_option linter.unusedVariables false
set_option linter.unusedSimpArgs false

-- NEEDS Pow
theorem spec_CountWinningOf.loop (ws : List Bool) (n : Nat) (d : Int) (hN : ws.length = 2 ^ n) (h9 : n ≤ 9) : Ev (fun k => spec_CountWinningOf.l0 k d 0 ws (ws.length : Int) 0) (cntN (ofSize ws d) (2 ^ n), true) := by
  have hp := pow9 h9
  have h := down (P := fun i => Ev (fun k => spec_CountWinningOf.l0 k d (cntN (ofSize ws d) i) ws (ws.length : Int) (i : Int)) (cntN (ofSize ws d) (2 ^ n), true)) (2 ^ n) ?_ ?_ 0 (Nat.zero_le _)
  · exact h
  · refine Ev.step (fun k => by rw [spec_CountWinningOf.l0]) ?_
    exact Ev.neg (by omega) (Ev.now _)
  · intro i hi ih
    refine Ev.step (fun k => by rw [spec_CountWinningOf.l0]) ?_
    have hc := cntN_le (ofSize ws d) i
    refine Ev.pos (by omega) (Ev.pos (by omega) (Ev.pos (by omega) ?_))
    rw [rdOf_nat (by omega), wrap_next hi (by omega)]
    cases hb : ws[i]'(by omega) with
    | true =>
      refine Ev.pos rfl (Ev.bind (spec_voList.ev h9 hi) ?_)
      by_cases hd : (popc i : Int) = d
      · refine Ev.pos (by rw [List.length_map]; exact hd) ?_
        rw [wrap_id (by omega) (by omega), ← cntN_pos (show ofSize ws d i = true by rw [ofSize, getD_at (by omega), hb, decide_eq_true hd]; rfl)]
        exact ih
      · refine Ev.neg (by rw [List.length_map]; exact hd) ?_
        rw [← cntN_neg (show ofSize ws d i = false by rw [ofSize, getD_at (by omega), hb, decide_eq_false hd]; rfl)]
        exact ih
    | false =>
      refine Ev.neg (by decide) ?_
      rw [← cntN_neg (show ofSize ws d i = false by rw [ofSize, getD_at (by omega), hb]; rfl)]
      exact ih
theorem spec_CountWinningOf.ev (q : Int) (l : List Int) (d : Int) (hn : l.length ≤ 9223372036854775807) (hk0 : -9223372036854775808 ≤ d) (hk1 : d ≤ 9223372036854775807) : Ev (fun k => spec_CountWinningOf.f k q l d) (if (goodC q l && inB 0 (l.length : Int) d) = true then (cntN (ofSize (winsC q l) d) (2 ^ l.length), true) else (0, false)) := by
  unfold spec_CountWinningOf.f
  refine Ev.bind (spec_voGood.ev q l hn) ?_
  have hj : ∀ b : Bool, (b = false → goodC q l = true) → Ev (fun k => spec_CountWinningOf.j0 k d b q l) (if (!b) = true then (cntN (ofSize (winsC q l) d) (2 ^ l.length), true) else (0, false)) := by
    intro b hb
    refine Ev.step (fun k => by rw [spec_CountWinningOf.j0]) ?_
    cases b with
    | true => exact Ev.pos rfl (Ev.now _)
    | false =>
      obtain ⟨h1, h2, h3, h4, h5⟩ := goodC_iff.1 (hb rfl)
      exact Ev.neg (by decide) (Ev.bind (spec_voWins.ev q l h2 h3) (spec_CountWinningOf.loop _ l.length d (winsC_length q l) h2))
  cases h : goodC q l with
  | false => exact Ev.neg (by decide) ((hj true (by simp)).cast (by simp))
  | true => exact Ev.pos rfl (Ev.one (spec_l1In.eq _ _ _) ((hj _ (fun _ => h)).cast (by simp)))

-- NEEDS Pow
theorem impl_CountWinningOf.loop (ws : List Bool) (n : Nat) (d : Int) (hN : ws.length = 2 ^ n) (h9 : n ≤ 9) : Ev (fun k => impl_CountWinningOf.l0 k d 0 ws (ws.length : Int) 0) (cntN (ofSize ws d) (2 ^ n), true) := by
  have hp := pow9 h9
  have h := down (P := fun i => Ev (fun k => impl_CountWinningOf.l0 k d (cntN (ofSize ws d) i) ws (ws.length : Int) (i : Int)) (cntN (ofSize ws d) (2 ^ n), true)) (2 ^ n) ?_ ?_ 0 (Nat.zero_le _)
  · exact h
  · refine Ev.step (fun k => by rw [impl_CountWinningOf.l0]) ?_
    exact Ev.neg (by omega) (Ev.now _)
  · intro i hi ih
    refine Ev.step (fun k => by rw [impl_CountWinningOf.l0]) ?_
    have hc := cntN_le (ofSize ws d) i
    refine Ev.pos (by omega) (Ev.pos (by omega) (Ev.pos (by omega) ?_))
    rw [rdOf_nat (by omega), wrap_next hi (by omega)]
    cases hb : ws[i]'(by omega) with
    | true =>
      refine Ev.pos rfl (Ev.one (impl_count.eq h9 hi) ?_)
      by_cases hd : (popc i : Int) = d
      · refine Ev.pos (hd) ?_
        rw [wrap_id (by omega) (by omega), ← cntN_pos (show ofSize ws d i = true by rw [ofSize, getD_at (by omega), hb, decide_eq_true hd]; rfl)]
        exact ih
      · refine Ev.neg (hd) ?_
        rw [← cntN_neg (show ofSize ws d i = false by rw [ofSize, getD_at (by omega), hb, decide_eq_false hd]; rfl)]
        exact ih
    | false =>
      refine Ev.neg (by decide) ?_
      rw [← cntN_neg (show ofSize ws d i = false by rw [ofSize, getD_at (by omega), hb]; rfl)]
      exact ih
theorem impl_CountWinningOf.ev (q : Int) (l : List Int) (d : Int) (hn : l.length ≤ 9223372036854775807) (hk0 : -9223372036854775808 ≤ d) (hk1 : d ≤ 9223372036854775807) : Ev (fun k => impl_CountWinningOf.f k q l d) (if (goodC q l && inB 0 (l.length : Int) d) = true then (cntN (ofSize (winsC q l) d) (2 ^ l.length), true) else (0, false)) := by
  unfold impl_CountWinningOf.f
  refine Ev.bind (impl_IsCommittee.ev q l hn) ?_
  have hj : ∀ b : Bool, (b = false → goodC q l = true) → Ev (fun k => impl_CountWinningOf.j0 k d b q l) (if (!b) = true then (cntN (ofSize (winsC q l) d) (2 ^ l.length), true) else (0, false)) := by
    intro b hb
    refine Ev.step (fun k => by rw [impl_CountWinningOf.j0]) ?_
    cases b with
    | true => exact Ev.pos rfl (Ev.now _)
    | false =>
      obtain ⟨h1, h2, h3, h4, h5⟩ := goodC_iff.1 (hb rfl)
      exact Ev.neg (by decide) (Ev.one (impl_Committee_votes.eq (hb rfl)) (impl_CountWinningOf.loop _ l.length d (winsC_length q l) h2))
  cases h : goodC q l with
  | false => exact Ev.neg (by decide) ((hj true (by simp)).cast (by simp))
  | true => exact Ev.pos rfl (Ev.one (impl_within.eq _ _ _) ((hj _ (fun _ => h)).cast (by simp)))

end Go.Proofs.Ytbjgdbgaopgbjaa.P
