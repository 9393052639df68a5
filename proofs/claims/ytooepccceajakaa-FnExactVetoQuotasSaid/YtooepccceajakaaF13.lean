/- Plain facts of mine on printed functions: what they answer. No Go, no memory. -/
import Derived.Test.YtooepccceajakaaPx13
import Derived.Test.YtooepccceajakaaEv
import Derived.Test.YtooepccceajakaaF1
import Derived.Test.YtooepccceajakaaF9
import Derived.Test.YtooepccceajakaaPow
import Derived.Test.YtooepccceajakaaPow
import Derived.Test.YtooepccceajakaaPow
import Derived.Test.YtooepccceajakaaPow
namespace Go.Proofs.Ytooepccceajakaa.P
open Go.RowKit Go.Proofs.YtooepccceajakaaW.PrintWords Go.Proofs.YtooepccceajakaaW.PrintLast Go.Proofs.YtooepccceajakaaW.PrintMore
set_option linter.unusedVariables false
set_option linter.unusedSimpArgs false

-- NEEDS Pow
theorem spec_shScanned.ev (q : Int) (l : List Int) (hn : l.length ≤ 9223372036854775807) : Ev (fun k => spec_shScanned.f k q l) (goodC q l && decide (l.sum ≤ 60)) := by
  unfold spec_shScanned.f
  refine Ev.bind (spec_voGood.ev q l hn) ?_
  cases h : goodC q l with
  | false => exact Ev.neg (by decide) (Ev.now _)
  | true =>
    obtain ⟨h1, h2, h3, h4, h5⟩ := goodC_iff.1 h
    exact Ev.pos rfl (Ev.bind (spec_voSum.ev l 1000 h3 (by omega) (by omega)) ((Ev.now _).cast (by simp)))

-- NEEDS Pow
theorem spec_shMember.ev (q : Int) (l : List Int) (d : Int) (hn : l.length ≤ 9223372036854775807) : Ev (fun k => spec_shMember.f k q l d) (goodC q l && decide (l.sum ≤ 60) && inB 0 ((l.length : Int) - 1) d) := by
  unfold spec_shMember.f
  refine Ev.bind (spec_shScanned.ev q l hn) ?_
  cases h : (goodC q l && decide (l.sum ≤ 60)) with
  | false => exact Ev.neg (by decide) (Ev.now _)
  | true =>
    rw [wrap_id (by omega) (by omega)]
    exact Ev.pos rfl (Ev.one (spec_l1In.eq _ _ _) ((Ev.now _).cast (by simp)))

-- NEEDS Pow
theorem impl_isScanned.ev (q : Int) (l : List Int) (m : Int) (hn : l.length ≤ 9223372036854775807) : Ev (fun k => impl_isScanned.f k q l m) (goodC q l && decide (l.sum ≤ m)) := by
  unfold impl_isScanned.f
  refine Ev.bind (impl_IsCommittee.ev q l hn) ?_
  cases h : goodC q l with
  | false => exact Ev.neg (by decide) (Ev.now _)
  | true =>
    obtain ⟨h1, h2, h3, h4, h5⟩ := goodC_iff.1 h
    exact Ev.pos rfl (Ev.bind (impl_sumOf.ev l 1000 h3 (by omega) (by omega)) ((Ev.now _).cast (by simp)))

-- NEEDS Pow
def vetoQC (l : List Int) (d : Nat) : List Int := pickQ (vetoQ l.sum (l.getD d 0)) l.sum.toNat
theorem pickQ_none (p : Int → Bool) (n : Nat) (h : ∀ i, i < n → p ((i : Int) + 1) = false) : pickQ p n = [] := by
  induction n with
  | zero => rfl
  | succ n ih =>
    rw [pickQ_succ, if_neg (by rw [h n (by omega)]; decide)]
    exact ih (fun i hi => h i (by omega))
theorem veto_bounds {q : Int} {l : List Int} (h : goodC q l = true) {d : Nat} (hd : d < l.length) : 0 ≤ l.getD d 0 ∧ l.getD d 0 ≤ 1000 ∧ l.getD d 0 ≤ l.sum := by
  obtain ⟨h1, h2, h3, h4, h5⟩ := goodC_iff.1 h
  have h7 := h3 l[d] (List.getElem_mem hd)
  have h8 := (wt_le h3 (2 ^ d)).2
  rw [wt_single l d hd] at h8
  rw [getI_at hd]
  exact ⟨h7.1, h7.2, h8⟩
theorem spec_VetoQuotas.loop (q : Int) (l : List Int) (h : goodC q l = true) (hS : l.sum ≤ 60) (d : Nat) (hd : d < l.length) : Ev (fun k => spec_VetoQuotas.l0 k [] (l.sum - l.getD d 0 + 1) q l) (vetoQC l d, true) := by
  obtain ⟨h1, h2, h3, h4, h5⟩ := goodC_iff.1 h
  obtain ⟨b1, b2, b3⟩ := veto_bounds h hd
  obtain ⟨i0, hi0⟩ := Int.eq_ofNat_of_zero_le (show 0 ≤ l.sum - l.getD d 0 by omega)
  have hd := down (P := fun i => i0 ≤ i → Ev (fun k => spec_VetoQuotas.l0 k (pickQ (vetoQ l.sum (l.getD d 0)) i) ((i : Int) + 1) q l) (vetoQC l d, true)) l.sum.toNat ?_ ?_ i0 (by omega) (Nat.le_refl _)
  · have e := pickQ_none (vetoQ l.sum (l.getD d 0)) i0 (fun i hi => by unfold vetoQ; exact decide_eq_false (by omega))
    rw [e] at hd
    rw [hi0]
    exact hd
  · intro _
    refine Ev.step (fun k => by rw [spec_VetoQuotas.l0]) ?_
    exact Ev.bind (spec_voSum.ev l 1000 h3 (by omega) (by omega)) (Ev.neg (by omega) (Ev.now _))
  · intro i hi ih hle
    refine Ev.step (fun k => by rw [spec_VetoQuotas.l0]) ?_
    have hl := pickQ_length (vetoQ l.sum (l.getD d 0)) i
    have ih := ih (by omega)
    rw [pickQ_succ, if_pos (by unfold vetoQ; exact decide_eq_true (by omega))] at ih
    refine Ev.bind (spec_voSum.ev l 1000 h3 (by omega) (by omega)) (Ev.pos (by omega) (Ev.pos (by omega) ?_))
    rw [wrap_id (by omega) (by omega)]
    exact ih
theorem spec_VetoQuotas.ev (q : Int) (l : List Int) (d : Int) (hn : l.length ≤ 9223372036854775807) (hk0 : -9223372036854775808 ≤ d) (hk1 : d ≤ 9223372036854775807) : Ev (fun k => spec_VetoQuotas.f k q l d) (if (goodC q l && decide (l.sum ≤ 60) && inB 0 ((l.length : Int) - 1) d) = true then (vetoQC l d.toNat, true) else ([], false)) := by
  unfold spec_VetoQuotas.f
  refine Ev.bind (spec_shMember.ev q l d hn) ?_
  cases h : (goodC q l && decide (l.sum ≤ 60) && inB 0 ((l.length : Int) - 1) d) with
  | false => exact Ev.neg (by decide) (Ev.now _)
  | true =>
    rw [Bool.and_eq_true, Bool.and_eq_true, inB_iff, decide_eq_true_eq] at h
    obtain ⟨h1, h2, h3, h4, h5⟩ := goodC_iff.1 h.1.1
    obtain ⟨m, rfl⟩ := Int.eq_ofNat_of_zero_le h.2.1
    obtain ⟨b1, b2, b3⟩ := veto_bounds h.1.1 (show m < l.length by omega)
    have e : rd l (m : Int) = l.getD m 0 := by rw [rd_nat (by omega), getI_at (by omega)]
    refine Ev.pos rfl (Ev.bind (spec_voSum.ev l 1000 h3 (by omega) (by omega)) (Ev.pos (by omega) (Ev.pos (by omega) ?_)))
    rw [e, wrap_id (x := l.sum - l.getD m 0) (by omega) (by omega), wrap_id (by omega) (by omega), Int.toNat_natCast]
    exact spec_VetoQuotas.loop q l h.1.1 h.1.2 m (by omega)
theorem impl_VetoQuotas.ev (q : Int) (l : List Int) (d : Int) (hn : l.length ≤ 9223372036854775807) (hk0 : -9223372036854775808 ≤ d) (hk1 : d ≤ 9223372036854775807) : Ev (fun k => impl_VetoQuotas.f k q l d) (if (goodC q l && decide (l.sum ≤ 60) && inB 0 ((l.length : Int) - 1) d) = true then (vetoQC l d.toNat, true) else ([], false)) := by
  unfold impl_VetoQuotas.f
  refine Ev.bind (impl_isScanned.ev q l 60 hn) ?_
  cases h : (goodC q l && decide (l.sum ≤ 60)) with
  | false => exact Ev.neg (by decide) (Ev.now _)
  | true =>
    refine Ev.pos rfl (Ev.bind (impl_isMember.ev q l d hn) ?_)
    rw [Bool.and_eq_true, decide_eq_true_eq] at h
    obtain ⟨h1, h2, h3, h4, h5⟩ := goodC_iff.1 h.1
    simp only [h.1, Bool.true_and]
    cases h6 : inB 0 ((l.length : Int) - 1) d with
    | false => exact Ev.neg (by decide) (Ev.now _)
    | true =>
      have h7 := inB_iff.1 h6
      obtain ⟨b1, b2, b3⟩ := veto_bounds h.1 (show d.toNat < l.length by omega)
      exact Ev.pos rfl (Ev.bind (impl_sumOf.ev l 1000 h3 (by omega) (by omega)) (Ev.pos ⟨by omega, by omega, by omega, by omega, b1, b2⟩ (Ev.now _)))

end Go.Proofs.Ytooepccceajakaa.P
