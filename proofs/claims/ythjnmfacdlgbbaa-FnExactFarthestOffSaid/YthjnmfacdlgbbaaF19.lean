/- Plain facts of mine on printed functions: what they answer. No Go, no memory. -/
import Derived.Test.YthjnmfacdlgbbaaPx19
import Derived.Test.YthjnmfacdlgbbaaEv
import Derived.Test.YthjnmfacdlgbbaaF1
import Derived.Test.YthjnmfacdlgbbaaF4
import Derived.Test.YthjnmfacdlgbbaaF7
import Derived.Test.YthjnmfacdlgbbaaF9
import Derived.Test.YthjnmfacdlgbbaaF18
import Derived.Test.YthjnmfacdlgbbaaPow
import Derived.Test.YthjnmfacdlgbbaaShare
import Derived.Test.YthjnmfacdlgbbaaPow
namespace Go.Proofs.Ythjnmfacdlgbbaa.P
open Go.RowKit Go.Proofs.YthjnmfacdlgbbaaW.PrintWords Go.Proofs.YthjnmfacdlgbbaaW.PrintLast Go.Proofs.YthjnmfacdlgbbaaW.PrintMore
set_option linter.unusedVariables false
set_option linter.unusedSimpArgs false

-- NEEDS Pow
theorem impl_Committee_farthest.ev (q : Int) (l : List Int) (h : goodC q l = true) (hS : l.sum ≤ 60) : Ev (fun k => impl_Committee_farthest.f k q l) (farC q l) := by
  unfold impl_Committee_farthest.f
  obtain ⟨h1, h2, h3, h4, h5⟩ := goodC_iff.1 h
  have hf := facI_le (d := (l.length : Int)) (by omega)
  have hlp : (pivotsC q l).length = l.length := by simp [pivotsC]
  refine Ev.bind (impl_factorial.ev (d := (l.length : Int)) (by omega) (by omega)) (Ev.bind (impl_sumOf.ev l 1000 h3 (by omega) (by omega)) (Ev.one (impl_Committee_votes.eq h) (Ev.bind (impl_votes_pivots.ev _ l.length (winsC_length q l) h2) ?_)))
  show Ev (fun k => impl_Committee_farthest.l0 k 0 (facI (l.length : Int)) l.sum (pivotsC q l) ((pivotsC q l).length : Int) 0 q l) _
  rw [hlp]
  have hd := down (P := fun i => Ev (fun k => impl_Committee_farthest.l0 k (farF q l i) (facI (l.length : Int)) l.sum (pivotsC q l) (l.length : Int) (i : Int) q l) (farC q l)) l.length ?_ ?_ 0 (Nat.zero_le _)
  · exact hd
  · refine Ev.step (fun k => by rw [impl_Committee_farthest.l0]) ?_
    exact Ev.neg (by omega) (Ev.now _)
  · intro i hi ih
    refine Ev.step (fun k => by rw [impl_Committee_farthest.l0]) ?_
    obtain ⟨b1, b2, b3, b4⟩ := far_bounds h hi
    have m1 := mul_bd b1 (show (pivotsC q l).getD i 0 ≤ 362880 by omega) (show 0 ≤ l.sum by omega) hS
    have m2 := mul_bd b3 (show l.getD i 0 ≤ 60 by omega) (show 0 ≤ facI (l.length : Int) by omega) (show facI (l.length : Int) ≤ 362880 by omega)
    rw [farF] at ih
    refine Ev.pos (by omega) (Ev.pos (by omega) (Ev.pos (by omega) (Ev.pos (by omega) ?_)))
    have g1 : (pivotsC q l)[i]'(by omega) = (pivotsC q l).getD i 0 := (getI_at (by omega)).symm
    have g2 : l[i] = l.getD i 0 := (getI_at hi).symm
    rw [rd_nat hi, rd_nat (by omega), g1, g2, wrap_next hi (by omega)]
    generalize (pivotsC q l).getD i 0 * l.sum = A at *
    generalize l.getD i 0 * facI (l.length : Int) = B at *
    rw [wrap_id (x := A) (by omega) (by omega), wrap_id (x := B) (by omega) (by omega), wrap_id (x := A - B) (by omega) (by omega), wrap_id (x := -(A - B)) (by omega) (by omega)]
    exact ih

-- NEEDS Share
theorem impl_isShare.ev (n d : Int) : Ev (fun k => impl_isShare.f k n d) (goodS n d) := by
  unfold impl_isShare.f
  refine Ev.one (impl_within.eq _ _ _) ?_
  cases h1 : inB 1 1000000 d with
  | false => exact Ev.neg (by decide) ((Ev.now _).cast (by simp [goodS, h1]))
  | true =>
    refine Ev.pos rfl (Ev.one (impl_within.eq _ _ _) ?_)
    cases h2 : inB 0 d n with
    | false => exact Ev.neg (by decide) ((Ev.now _).cast (by simp [goodS, h2]))
    | true =>
      have h3 := inB_iff.1 h1
      have h4 := inB_iff.1 h2
      exact Ev.pos rfl (Ev.bind (impl_gcd.ev (by omega) (by omega)) ((Ev.now _).cast (by simp [goodS, h1, h2])))

-- NEEDS Pow
theorem impl_FarthestOff.ev (q : Int) (l : List Int) (hn : l.length ≤ 9223372036854775807) : Ev (fun k => impl_FarthestOff.f k q l) (if (goodC q l && decide (l.sum ≤ 60)) = true then (if goodS (shareO (farC q l) (facI (l.length : Int) * l.sum)).1 (shareO (farC q l) (facI (l.length : Int) * l.sum)).2 = true then ((shareO (farC q l) (facI (l.length : Int) * l.sum)).1, (shareO (farC q l) (facI (l.length : Int) * l.sum)).2, true) else (0, 0, false)) else (0, 0, false)) := by
  unfold impl_FarthestOff.f
  refine Ev.bind (impl_isScanned.ev q l 60 hn) ?_
  cases h : (goodC q l && decide (l.sum ≤ 60)) with
  | false => exact Ev.neg (by decide) (Ev.now _)
  | true =>
    rw [Bool.and_eq_true, decide_eq_true_eq] at h
    obtain ⟨h1, h2, h3, h4, h5⟩ := goodC_iff.1 h.1
    have hf := facI_le (d := (l.length : Int)) (by omega)
    have hD := mul_bd (show 0 ≤ facI (l.length : Int) by omega) (show facI (l.length : Int) ≤ 362880 by omega) (show 0 ≤ l.sum by omega) h.2
    have hD1 : 1 ≤ facI (l.length : Int) * l.sum := Int.mul_pos (by omega) (by omega)
    have hF := far_le h.1 (by omega) l.length (Nat.le_refl _)
    have hF' : 0 ≤ farC q l ∧ farC q l ≤ 362880000 := hF
    refine Ev.pos rfl (Ev.bind (impl_Committee_farthest.ev q l h.1 h.2) (Ev.bind (impl_factorial.ev (d := (l.length : Int)) (by omega) (by omega)) (Ev.bind (impl_sumOf.ev l 1000 h3 (by omega) (by omega)) ?_)))
    rw [wrap_id (by omega) (by omega)]
    refine Ev.bind (impl_shareOf.ev hF'.1 (by omega) hD1 (by omega)) (Ev.bind (impl_isShare.ev _ _) ?_)
    rw [if_pos rfl]
    cases hg : goodS (shareO (farC q l) (facI (l.length : Int) * l.sum)).1 (shareO (farC q l) (facI (l.length : Int) * l.sum)).2 with
    | false => exact Ev.neg (by decide) (Ev.now _)
    | true => exact Ev.pos rfl (Ev.now _)

theorem laws_eqShare.eq (a b : Int) : laws_eqShare.f a b a b = some true := by simp [laws_eqShare.f]

end Go.Proofs.Ythjnmfacdlgbbaa.P
