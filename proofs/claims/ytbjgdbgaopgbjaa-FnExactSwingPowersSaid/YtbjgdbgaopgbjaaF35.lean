/- Plain facts of mine on printed functions: what they answer. No Go, no memory. -/
import Derived.Test.YtbjgdbgaopgbjaaPx35
import Derived.Test.YtbjgdbgaopgbjaaEv
import Derived.Test.YtbjgdbgaopgbjaaF1
import Derived.Test.YtbjgdbgaopgbjaaF2
import Derived.Test.YtbjgdbgaopgbjaaF7
import Derived.Test.YtbjgdbgaopgbjaaF9
import Derived.Test.YtbjgdbgaopgbjaaF12
import Derived.Test.YtbjgdbgaopgbjaaF13
import Derived.Test.YtbjgdbgaopgbjaaPow
import Derived.Test.YtbjgdbgaopgbjaaPow
namespace Go.Proofs.Ytbjgdbgaopgbjaa.P
open Go.RowKit Go.Proofs.YtbjgdbgaopgbjaaW.PrintWords Go.Proofs.YtbjgdbgaopgbjaaW.PrintLast Go.Proofs.YtbjgdbgaopgbjaaW.PrintMore
set_option linter.unusedVariables false
set_option linter.unusedSimpArgs false

-- NEEDS Pow
theorem spec_SwingPowers.loop (n : Nat) (L : List Int) (h1 : 1 ≤ n) (h9 : n ≤ 9) (hl : L.length ≤ 1000000) (hx : ∀ x ∈ L, 0 ≤ x ∧ x ≤ 9223372036854775807) : Ev (fun k => spec_SwingPowers.l0 k (n : Int) [] L (L.length : Int) 0) (impl_sharesOf.list L ((2 ^ (n - 1) : Nat) : Int), true) := by
  have h := down (P := fun i => Ev (fun k => spec_SwingPowers.l0 k (n : Int) (impl_sharesOf.list (L.take i) ((2 ^ (n - 1) : Nat) : Int)) L (L.length : Int) (i : Int)) (impl_sharesOf.list L ((2 ^ (n - 1) : Nat) : Int), true)) L.length ?_ ?_ 0 (Nat.zero_le _)
  · exact h
  · refine Ev.step (fun k => by rw [spec_SwingPowers.l0]) ?_
    exact Ev.neg (by omega) ((Ev.now _).cast (by rw [List.take_length]))
  · intro i hi ih
    refine Ev.step (fun k => by rw [spec_SwingPowers.l0]) ?_
    have hv := hx L[i] (List.getElem_mem hi)
    have hp := pow9 (show n - 1 ≤ 9 by omega)
    have e0 : wrap64 ((n : Int) - 1) = ((n - 1 : Nat) : Int) := by rw [wrap_id (by omega) (by omega)]; omega
    rw [rd_nat hi, wrap_next hi (by omega), e0, shl_one (by omega)]
    refine Ev.pos (by omega) (Ev.pos (by omega) (Ev.pos (by omega) (Ev.pos (by omega) ?_)))
    refine Ev.bind (spec_pwShare.ev hv.1 hv.2 (by omega) (by omega)) (Ev.pos (by simp [impl_sharesOf.list]; omega) ?_)
    have e : impl_sharesOf.list (L.take i) ((2 ^ (n - 1) : Nat) : Int) ++ [⟨(shareO L[i] ((2 ^ (n - 1) : Nat) : Int)).1, (shareO L[i] ((2 ^ (n - 1) : Nat) : Int)).2⟩] = impl_sharesOf.list (L.take (i + 1)) ((2 ^ (n - 1) : Nat) : Int) := by
      unfold impl_sharesOf.list
      rw [List.take_succ_eq_append_getElem hi, List.map_append]
      rfl
    rw [e]
    exact ih
theorem spec_SwingPowers.ev (q : Int) (l : List Int) (hn : l.length ≤ 9223372036854775807) : Ev (fun k => spec_SwingPowers.f k q l) (if goodC q l = true then (impl_sharesOf.list (swingsC q l) ((2 ^ (l.length - 1) : Nat) : Int), true) else ([], false)) := by
  unfold spec_SwingPowers.f
  refine Ev.bind (spec_voGood.ev q l hn) ?_
  cases h : goodC q l with
  | false => exact Ev.neg (by decide) (Ev.now _)
  | true =>
    obtain ⟨h1, h2, h3, h4, h5⟩ := goodC_iff.1 h
    exact Ev.pos rfl (Ev.bind (spec_voWins.ev q l h2 h3) (Ev.bind (spec_pwCounts.ev _ l.length (winsC_length q l) h2) (spec_SwingPowers.loop l.length _ h1 h2 (by simp; omega) (swingsC_le q l h2))))

-- NEEDS Pow
theorem impl_SwingPowers.ev (q : Int) (l : List Int) (hn : l.length ≤ 9223372036854775807) : Ev (fun k => impl_SwingPowers.f k q l) (if goodC q l = true then (impl_sharesOf.list (swingsC q l) ((2 ^ (l.length - 1) : Nat) : Int), true) else ([], false)) := by
  unfold impl_SwingPowers.f
  refine Ev.bind (impl_IsCommittee.ev q l hn) ?_
  cases h : goodC q l with
  | false => exact Ev.neg (by decide) (Ev.now _)
  | true =>
    obtain ⟨h1, h2, h3, h4, h5⟩ := goodC_iff.1 h
    have hp := pow9 (show l.length - 1 ≤ 9 by omega)
    have hs : 2 ^ l.length = 2 * 2 ^ (l.length - 1) := by
      have := Nat.pow_succ (n := 2) (m := l.length - 1)
      rw [show (l.length - 1).succ = l.length by omega] at this
      omega
    have e : wrap64 (((winsC q l).length : Int) / 2) = ((2 ^ (l.length - 1) : Nat) : Int) := by
      rw [winsC_length, hs, wrap_id (by omega) (by omega)]
      omega
    refine Ev.pos rfl (Ev.one (impl_Committee_votes.eq h) (Ev.bind (impl_votes_swings.ev _ l.length (winsC_length q l) h2) ?_))
    simp only [e]
    exact Ev.bind (impl_sharesOf.ev (swingsC q l) _ (by simp [swingsC]; omega) (swingsC_le q l h2) (by omega) (by omega)) (Ev.now _)

end Go.Proofs.Ytbjgdbgaopgbjaa.P
