/- Plain facts of mine on printed functions: what they answer. No Go, no memory. -/
import Derived.Test.YtchcpjmdmohngaaPx7
import Derived.Test.YtchcpjmdmohngaaEv
import Derived.Test.YtchcpjmdmohngaaF1
import Derived.Test.YtchcpjmdmohngaaSums
import Derived.Test.YtchcpjmdmohngaaSums
namespace Go.Proofs.Ytchcpjmdmohngaa.P
open Go.RowKit Go.Proofs.YtchcpjmdmohngaaW.PrintWords Go.Proofs.YtchcpjmdmohngaaW.PrintLast Go.Proofs.YtchcpjmdmohngaaW.PrintMore
set_option linter.unusedVariables false
set_option linter.unusedSimpArgs false

-- NEEDS Sums
/-- The first sum of at least q, and the number behind the sum before it. -/
def rangeC (q : Int) : Int → List Int → Int × Int × Bool
  | _, [] => (0, 0, false)
  | low, w :: r => if q ≤ w then (low, w, true) else rangeC q (w + 1) r
theorem spec_QuotaRange.ev (q : Int) (l : List Int) (hn : l.length ≤ 9223372036854775807) : Ev (fun k => spec_QuotaRange.f k q l) (if goodC q l = true then rangeC q 1 (sumsS l) else (0, 0, false)) := by
  unfold spec_QuotaRange.f
  refine Ev.bind (spec_voGood.ev q l hn) ?_
  cases h : goodC q l with
  | false => exact Ev.neg (by decide) (Ev.now _)
  | true =>
    obtain ⟨h1, h2, h3, h4, h5⟩ := goodC_iff.1 h
    have hl := sumsS_length h2
    have hs := (sum_le h3).2
    have hx := sumsS_le h3
    refine Ev.pos rfl (Ev.bind (spec_shSums.ev q l h2 h3) ?_)
    rw [if_pos rfl]
    generalize sumsS l = L at hl hx
    have h := down (P := fun i => ∀ low : Int, Ev (fun k => spec_QuotaRange.l0 k low L (L.length : Int) (i : Int) q l) (rangeC q low (L.drop i))) L.length ?_ ?_ 0 (Nat.zero_le _)
    · exact h 1
    · intro low
      refine Ev.step (fun k => by rw [spec_QuotaRange.l0]) ?_
      exact Ev.neg (by omega) ((Ev.now _).cast (by rw [List.drop_length]; rfl))
    · intro i hi ih low
      refine Ev.step (fun k => by rw [spec_QuotaRange.l0]) ?_
      have hv := hx L[i] (List.getElem_mem hi)
      rw [rd_nat hi, wrap_next hi (by omega), wrap_id (by omega) (by omega), List.drop_eq_getElem_cons hi, rangeC]
      refine Ev.pos (by omega) (Ev.pos (by omega) (Ev.pos (by omega) ?_))
      by_cases h6 : q ≤ L[i]
      · rw [if_pos h6]
        exact Ev.pos h6 (Ev.now _)
      · rw [if_neg h6]
        exact Ev.neg h6 (ih _)

-- NEEDS Sums
theorem rangeC_found (q low : Int) (L : List Int) (h : ∃ x ∈ L, q ≤ x) : 0 ≤ idxOf (fun n => decide (q ≤ n)) L ∧ idxOf (fun n => decide (q ≤ n)) L < L.length ∧ rangeC q (low + 1) L = ((low :: L).getD (idxOf (fun n => decide (q ≤ n)) L).toNat 0 + 1, L.getD (idxOf (fun n => decide (q ≤ n)) L).toNat 0, true) := by
  induction L generalizing low with
  | nil => obtain ⟨x, hx, _⟩ := h; simp at hx
  | cons w r ih =>
    by_cases hw : q ≤ w
    · have e : idxOf (fun n => decide (q ≤ n)) (w :: r) = 0 := by simp [idxOf, hw]
      rw [e, rangeC, if_pos hw]
      exact ⟨Int.le_refl _, by simp, rfl⟩
    · obtain ⟨x, hx, hq⟩ := h
      have hx' : x ∈ r := by
        rcases List.mem_cons.1 hx with rfl | hx
        · exact absurd hq hw
        · exact hx
      obtain ⟨h1, h2, h3⟩ := ih w ⟨x, hx', hq⟩
      have e : idxOf (fun n => decide (q ≤ n)) (w :: r) = idxOf (fun n => decide (q ≤ n)) r + 1 := by
        rw [idxOf, if_neg (by simpa using hw), if_neg (by omega)]
      have e2 : (idxOf (fun n => decide (q ≤ n)) r + 1).toNat = (idxOf (fun n => decide (q ≤ n)) r).toNat + 1 := by omega
      rw [e, rangeC, if_neg hw, h3, e2]
      refine ⟨by omega, by rw [List.length_cons]; omega, ?_⟩
      simp only [List.getD_cons_succ]
theorem impl_QuotaRange.ev (q : Int) (l : List Int) (hn : l.length ≤ 9223372036854775807) : Ev (fun k => impl_QuotaRange.f k q l) (if goodC q l = true then rangeC q 1 (sumsS l) else (0, 0, false)) := by
  unfold impl_QuotaRange.f
  refine Ev.bind (impl_IsCommittee.ev q l hn) ?_
  cases h : goodC q l with
  | false => exact Ev.neg (by decide) (Ev.now _)
  | true =>
    obtain ⟨h1, h2, h3, h4, h5⟩ := goodC_iff.1 h
    have hl := sumsS_length h2
    have hs := (sum_le h3).2
    have hx := sumsS_le h3
    refine Ev.pos rfl (Ev.bind (impl_Committee_sums.ev q l h2 h3) (Ev.same ?_))
    obtain ⟨f1, f2, f3⟩ := rangeC_found q 0 (sumsS l) ⟨l.sum, sumsS_all (by omega), h5⟩
    have e : idxOf (fun n => decide (q ≤ n)) (0 :: sumsS l) = idxOf (fun n => decide (q ≤ n)) (sumsS l) + 1 := by
      rw [idxOf, if_neg (by simp; omega), if_neg (by omega)]
    unfold rangeO
    rw [if_pos rfl, e]
    rw [if_pos ⟨by omega, by rw [List.length_cons]; omega, by rw [List.length_cons]; omega, List.all_eq_true.2 fun x hx2 => by
      refine decide_eq_true ?_
      rcases List.mem_cons.1 hx2 with rfl | hx2
      · omega
      · have := hx x hx2
        omega⟩]
    rw [show (0 : Int) + 1 = 1 from rfl] at f3
    rw [f3, show idxOf (fun n => decide (q ≤ n)) (sumsS l) + 1 - 1 = idxOf (fun n => decide (q ≤ n)) (sumsS l) by omega, show (idxOf (fun n => decide (q ≤ n)) (sumsS l) + 1).toNat = (idxOf (fun n => decide (q ≤ n)) (sumsS l)).toNat + 1 by omega, List.getD_cons_succ]

end Go.Proofs.Ytchcpjmdmohngaa.P
