/- Plain facts of mine on printed functions: what they answer. No Go, no memory. -/
import Derived.Test.YtameadmmgnfefaaPx16
import Derived.Test.YtameadmmgnfefaaEv
import Derived.Test.YtameadmmgnfefaaF1
import Derived.Test.YtameadmmgnfefaaF2
import Derived.Test.YtameadmmgnfefaaF4
import Derived.Test.YtameadmmgnfefaaF6
import Derived.Test.YtameadmmgnfefaaF8
import Derived.Test.YtameadmmgnfefaaF12
import Derived.Test.YtameadmmgnfefaaF13
import Derived.Test.YtameadmmgnfefaaPow
import Derived.Test.YtameadmmgnfefaaPow
import Derived.Test.YtameadmmgnfefaaPow
import Derived.Test.YtameadmmgnfefaaPow
import Derived.Test.YtameadmmgnfefaaPow
import Derived.Test.YtameadmmgnfefaaPow
namespace Go.Proofs.Ytameadmmgnfefaa.P
open Go.RowKit Go.Proofs.YtameadmmgnfefaaW.PrintWords Go.Proofs.YtameadmmgnfefaaW.PrintLast Go.Proofs.YtameadmmgnfefaaW.PrintMore
set_option linter.unusedVariables false
set_option linter.unusedSimpArgs false

-- NEEDS Pow
theorem spec_shScanned.ev (q : Int) (l : List Int) (hn : l.length ≤ 9223372036854775807) : Ev (fun k => spec_shScanned.f k q l) (goodC q l && decide (l.sum ≤ 60)) := by
  unfold spec_shScanned.f
  refine Ev.bind (spec_voGood.ev q l hn) ?_
  cases h : goodC q l with
  | false => exact Ev.neg (by decide) (Ev.now _)
  | true =>
    obtain ⟨h1, h2, h3, h4, h5⟩ := goodC_iff.1 h
    exact Ev.pos rfl (Ev.bind (spec_voSum.ev l 1000 h3 (by omega) (by omega)) ((Ev.now _).cast (by simp)))

-- NEEDS Pow
theorem spec_l1Abs.eq (a : Int) (h0 : -4000000000000000000 ≤ a) (h1 : a ≤ 4000000000000000000) : spec_l1Abs.f a = some (absI a) := by
  unfold spec_l1Abs.f
  rw [wrap_id (by omega) (by omega), spec_l1Most.eq]
  rfl

-- NEEDS Pow
theorem absI_le {a B : Int} (h0 : -B ≤ a) (h1 : a ≤ B) : absI a ≤ B := by unfold absI; split <;> omega
theorem spec_shOff.ev {p N w S : Int} (hp : 0 ≤ p) (hp2 : p ≤ N) (hN : 1 ≤ N) (hN2 : N ≤ 362880) (hw : 0 ≤ w) (hw2 : w ≤ S) (hS : 1 ≤ S) (hS2 : S ≤ 1000) : Ev (fun k => spec_shOff.f k (shareO p N).1 (shareO p N).2 (shareO w S).1 (shareO w S).2) (shareO (absI (p * S - w * N)) (N * S)) := by
  unfold spec_shOff.f
  have e := off_eq hp hN hw hS
  obtain ⟨g, hg, h1, h2, h3, h4⟩ := share_val hp hN
  obtain ⟨g', hg', i1, i2, i3, i4⟩ := share_val hw hS
  have c1 : (shareO p N).1 ≤ p := by have := Int.mul_le_mul_of_nonneg_right hg h3; rw [Int.one_mul, ← h1] at this; exact this
  have c2 : (shareO p N).2 ≤ N := by have := Int.mul_le_mul_of_nonneg_right hg (show 0 ≤ (shareO p N).2 by omega); rw [Int.one_mul, ← h2] at this; exact this
  have c3 : (shareO w S).1 ≤ w := by have := Int.mul_le_mul_of_nonneg_right hg' i3; rw [Int.one_mul, ← i1] at this; exact this
  have c4 : (shareO w S).2 ≤ S := by have := Int.mul_le_mul_of_nonneg_right hg' (show 0 ≤ (shareO w S).2 by omega); rw [Int.one_mul, ← i2] at this; exact this
  clear h1 h2 i1 i2
  generalize (shareO p N).1 = a1 at *
  generalize (shareO p N).2 = d1 at *
  generalize (shareO w S).1 = b1 at *
  generalize (shareO w S).2 = d2 at *
  have m1 := mul_bd h3 (show a1 ≤ 362880 by omega) (show 0 ≤ d2 by omega) (show d2 ≤ 1000 by omega)
  have m2 := mul_bd i3 (show b1 ≤ 1000 by omega) (show 0 ≤ d1 by omega) (show d1 ≤ 362880 by omega)
  have m3 := mul_bd (show 0 ≤ d1 by omega) (show d1 ≤ 362880 by omega) (show 0 ≤ d2 by omega) (show d2 ≤ 1000 by omega)
  have m4 : 0 < d1 * d2 := Int.mul_pos (by omega) (by omega)
  have a0 := absI_nonneg (a1 * d2 - b1 * d1)
  have a9 := absI_le (a := a1 * d2 - b1 * d1) (B := 1000000000000) (by omega) (by omega)
  rw [wrap_id (x := a1 * d2) (by omega) (by omega), wrap_id (x := b1 * d1) (by omega) (by omega), wrap_id (x := a1 * d2 - b1 * d1) (by omega) (by omega), wrap_id (x := d1 * d2) (by omega) (by omega)]
  refine Ev.one (spec_l1Abs.eq _ (by omega) (by omega)) (Ev.bind (spec_pwShare.ev a0 (by omega) (by omega) (by omega)) ((Ev.now _).cast ?_))
  rw [e]

-- NEEDS Pow
theorem shFar_at {L : List Int} {d : Int} {i : Nat} (h : i < L.length) : rd_T48 (impl_sharesOf.list L d) (i : Int) = ⟨(shareO L[i] d).1, (shareO L[i] d).2⟩ := by simp [rd_T48, impl_sharesOf.list, h]
/-- What is known of a member's two numbers. -/
theorem far_bounds {q : Int} {l : List Int} (h : goodC q l = true) {i : Nat} (hi : i < l.length) : 0 ≤ (pivotsC q l).getD i 0 ∧ (pivotsC q l).getD i 0 ≤ facI (l.length : Int) ∧ 0 ≤ l.getD i 0 ∧ l.getD i 0 ≤ l.sum := by
  obtain ⟨h1, h2, h3, h4, h5⟩ := goodC_iff.1 h
  have hlp : (pivotsC q l).length = l.length := by simp [pivotsC]
  have h6 := pivotsC_fac q l h2 ((pivotsC q l)[i]'(by omega)) (List.getElem_mem _)
  have h7 := h3 l[i] (List.getElem_mem hi)
  have h8 := (wt_le h3 (2 ^ i)).2
  rw [wt_single l i hi] at h8
  rw [getI_at (by omega), getI_at hi]
  exact ⟨h6.1, h6.2, h7.1, h8⟩
theorem far_le {q : Int} {l : List Int} (h : goodC q l = true) (hS : l.sum ≤ 1000) : ∀ i, i ≤ l.length → 0 ≤ farF q l i ∧ farF q l i ≤ 362880000 := by
  obtain ⟨h1, h2, h3, h4, h5⟩ := goodC_iff.1 h
  have hf := facI_le (d := (l.length : Int)) (by omega)
  intro i
  induction i with
  | zero => intro _; simp [farF]
  | succ i ih =>
    intro hi
    obtain ⟨b1, b2, b3, b4⟩ := far_bounds h (show i < l.length by omega)
    have := ih (by omega)
    have m1 := mul_bd b1 (show (pivotsC q l).getD i 0 ≤ 362880 by omega) (show 0 ≤ l.sum by omega) (show l.sum ≤ 1000 by omega)
    have m2 := mul_bd b3 (show l.getD i 0 ≤ 1000 by omega) (show 0 ≤ facI (l.length : Int) by omega) (show facI (l.length : Int) ≤ 362880 by omega)
    rw [farF]
    generalize (pivotsC q l).getD i 0 * l.sum = A at *
    generalize l.getD i 0 * facI (l.length : Int) = B at *
    unfold mx
    split <;> split <;> omega
theorem spec_shFar.ev (q : Int) (l : List Int) (h : goodC q l = true) (hS : l.sum ≤ 60) : Ev (fun k => spec_shFar.f k q l) (shareO (farC q l) (facI (l.length : Int) * l.sum)) := by
  unfold spec_shFar.f
  obtain ⟨h1, h2, h3, h4, h5⟩ := goodC_iff.1 h
  have hf := facI_le (d := (l.length : Int)) (by omega)
  have hlp : (pivotsC q l).length = l.length := by simp [pivotsC]
  refine Ev.bind (spec_shWeights.ev q l h2 h3 (by omega)) (Ev.bind (spec_shPowers.ev q l h2 h3) ?_)
  have hll : (impl_sharesOf.list (pivotsC q l) (facI (l.length : Int))).length = l.length := by simp [impl_sharesOf.list, hlp]
  have hlw : (impl_sharesOf.list l l.sum).length = l.length := by simp [impl_sharesOf.list]
  have hD := mul_bd (show 0 ≤ facI (l.length : Int) by omega) (show facI (l.length : Int) ≤ 362880 by omega) (show 0 ≤ l.sum by omega) hS
  have hD1 : 1 ≤ facI (l.length : Int) * l.sum := Int.mul_pos (by omega) (by omega)
  show Ev (fun k => spec_shFar.l0 k (impl_sharesOf.list l l.sum) (impl_sharesOf.list (pivotsC q l) (facI (l.length : Int))) ((impl_sharesOf.list (pivotsC q l) (facI (l.length : Int))).length : Int) 0 0 1) _
  rw [hll]
  have h := down (P := fun i => Ev (fun k => spec_shFar.l0 k (impl_sharesOf.list l l.sum) (impl_sharesOf.list (pivotsC q l) (facI (l.length : Int))) (l.length : Int) (i : Int) (shareO (farF q l i) (facI (l.length : Int) * l.sum)).1 (shareO (farF q l i) (facI (l.length : Int) * l.sum)).2) (shareO (farC q l) (facI (l.length : Int) * l.sum))) l.length ?_ ?_ 0 (Nat.zero_le _)
  · have e : shareO (farF q l 0) (facI (l.length : Int) * l.sum) = (0, 1) := by
      rw [farF]
      obtain ⟨D, hD2⟩ := Int.eq_ofNat_of_zero_le (show 0 ≤ facI (l.length : Int) * l.sum by omega)
      rw [hD2] at hD1 ⊢
      have := shareO_nat 0 D
      rw [Nat.gcd_zero_left, Nat.zero_div, Nat.div_self (by omega)] at this
      exact this
    rw [e] at h
    exact h
  · refine Ev.step (fun k => by rw [spec_shFar.l0]) ?_
    exact Ev.neg (by omega) (Ev.now _)
  · intro i hi ih
    refine Ev.step (fun k => by rw [spec_shFar.l0]) ?_
    obtain ⟨b1, b2, b3, b4⟩ := far_bounds h hi
    have hF := far_le h (by omega) i (by omega)
    have hF2 := far_le h (by omega) (i + 1) (by omega)
    rw [farF] at ih hF2
    refine Ev.pos (by omega) (Ev.pos (by omega) (Ev.pos (by omega) (Ev.pos (by omega) ?_)))
    rw [shFar_at hi, shFar_at (by omega), wrap_next hi (by omega)]
    have g1 : (pivotsC q l)[i]'(by omega) = (pivotsC q l).getD i 0 := (getI_at (by omega)).symm
    have g2 : l[i] = l.getD i 0 := (getI_at hi).symm
    rw [g1, g2]
    refine Ev.bind (spec_shOff.ev b1 b2 (by omega) (by omega) b3 b4 (by omega) (by omega)) ?_
    generalize hd : (pivotsC q l).getD i 0 * l.sum - l.getD i 0 * facI (l.length : Int) = d at *
    have ha : 0 ≤ absI d ∧ absI d ≤ 362880000 := by
      refine ⟨absI_nonneg d, ?_⟩
      unfold absI mx at *
      split <;> split at hF2 <;> split at hF2 <;> omega
    generalize facI (l.length : Int) * l.sum = D at *
    have v1 := shareO_bd ha.1 hD1
    have v2 := shareO_bd hF.1 hD1
    have p1 := mul_bd v1.1 (show (shareO (absI d) D).1 ≤ 362880000 by omega) v2.2.2.1 (show (shareO (farF q l i) D).2 ≤ 362880 * 60 by omega)
    have p2 := mul_bd v2.1 (show (shareO (farF q l i) D).1 ≤ 362880000 by omega) v1.2.2.1 (show (shareO (absI d) D).2 ≤ 362880 * 60 by omega)
    refine Ev.one (spec_pwCompare.eq p1.1 (Int.le_trans p1.2 (by decide)) p2.1 (Int.le_trans p2.2 (by decide))) ?_
    rw [share_cmp ha.1 hF.1 hD1]
    have key : mx (mx (farF q l i) d) (-d) = if absI d > farF q l i then absI d else farF q l i := by
      unfold absI mx
      grind
    rw [key] at ih
    by_cases hc : absI d > farF q l i
    · rw [if_pos hc] at ih
      exact Ev.pos (by unfold sgn; rw [if_pos (by omega)]; decide) ih
    · rw [if_neg hc] at ih
      refine Ev.neg ?_ ih
      unfold sgn
      rw [if_neg (by omega)]
      split <;> decide

-- NEEDS Pow
theorem impl_isScanned.ev (q : Int) (l : List Int) (m : Int) (hn : l.length ≤ 9223372036854775807) : Ev (fun k => impl_isScanned.f k q l m) (goodC q l && decide (l.sum ≤ m)) := by
  unfold impl_isScanned.f
  refine Ev.bind (impl_IsCommittee.ev q l hn) ?_
  cases h : goodC q l with
  | false => exact Ev.neg (by decide) (Ev.now _)
  | true =>
    obtain ⟨h1, h2, h3, h4, h5⟩ := goodC_iff.1 h
    exact Ev.pos rfl (Ev.bind (impl_sumOf.ev l 1000 h3 (by omega) (by omega)) ((Ev.now _).cast (by simp)))

-- NEEDS Pow
theorem impl_Committee_farthest.ev (q : Int) (l : List Int) (h : goodC q l = true) (hS : l.sum ≤ 60) : Ev (fun k => impl_Committee_farthest.f k q l) (farC q l) := by
  unfold impl_Committee_farthest.f
  obtain ⟨h1, h2, h3, h4, h5⟩ := goodC_iff.1 h
  have hf := facI_le (d := (l.length : Int)) (by omega)
  have hlp : (pivotsC q l).length = l.length := by simp [pivotsC]
  refine Ev.bind (impl_factorial.ev (d := (l.length : Int)) (by omega) (by omega)) (Ev.bind (impl_sumOf.ev l 1000 h3 (by omega) (by omega)) (Ev.one (impl_Committee_votes.eq h) (Ev.bind (impl_votes_pivots.ev _ l.length (winsC_length q l) h2) ?_)))
  show Ev (fun k => impl_Committee_farthest.l0 k 0 (facI (l.length : Int)) l.sum (pivotsC q l) ((pivotsC q l).length : Int) 0 q l) _
  rw [hlp]
  have hd := down (P := fun i => Ev (fun k => impl_Committee_farthest.l0 k (farF q l i) (facI (l.length : Int)) l.sum (pivotsC q l) (l.length : Int) (i : Int) q l) (farC q l)) l.length ?_ ?_ 0 (Nat.zero_le _)
  · exact hd
  · refine Ev.step (fun k => by rw [impl_Committee_farthest.l0]) ?_
    exact Ev.neg (by omega) (Ev.now _)
  · intro i hi ih
    refine Ev.step (fun k => by rw [impl_Committee_farthest.l0]) ?_
    obtain ⟨b1, b2, b3, b4⟩ := far_bounds h hi
    have m1 := mul_bd b1 (show (pivotsC q l).getD i 0 ≤ 362880 by omega) (show 0 ≤ l.sum by omega) hS
    have m2 := mul_bd b3 (show l.getD i 0 ≤ 60 by omega) (show 0 ≤ facI (l.length : Int) by omega) (show facI (l.length : Int) ≤ 362880 by omega)
    rw [farF] at ih
    refine Ev.pos (by omega) (Ev.pos (by omega) (Ev.pos (by omega) (Ev.pos (by omega) ?_)))
    have g1 : (pivotsC q l)[i]'(by omega) = (pivotsC q l).getD i 0 := (getI_at (by omega)).symm
    have g2 : l[i] = l.getD i 0 := (getI_at hi).symm
    rw [rd_nat hi, rd_nat (by omega), g1, g2, wrap_next hi (by omega)]
    generalize (pivotsC q l).getD i 0 * l.sum = A at *
    generalize l.getD i 0 * facI (l.length : Int) = B at *
    rw [wrap_id (x := A) (by omega) (by omega), wrap_id (x := B) (by omega) (by omega), wrap_id (x := A - B) (by omega) (by omega), wrap_id (x := -(A - B)) (by omega) (by omega)]
    exact ih

end Go.Proofs.Ytameadmmgnfefaa.P
