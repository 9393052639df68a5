/- Plain facts of mine on printed functions: what they answer. No Go, no memory. -/
import Derived.Test.YthjnmfacdlgbbaaPx10
import Derived.Test.YthjnmfacdlgbbaaEv
import Derived.Test.YthjnmfacdlgbbaaF1
import Derived.Test.YthjnmfacdlgbbaaF4
import Derived.Test.YthjnmfacdlgbbaaF5
import Derived.Test.YthjnmfacdlgbbaaF6
import Derived.Test.YthjnmfacdlgbbaaF7
import Derived.Test.YthjnmfacdlgbbaaPow
import Derived.Test.YthjnmfacdlgbbaaPow
import Derived.Test.YthjnmfacdlgbbaaPow
namespace Go.Proofs.Ythjnmfacdlgbbaa.P
open Go.RowKit Go.Proofs.YthjnmfacdlgbbaaW.PrintWords Go.Proofs.YthjnmfacdlgbbaaW.PrintLast Go.Proofs.YthjnmfacdlgbbaaW.PrintMore
set_option linter.unusedVariables false
set_option linter.unusedSimpArgs false

-- NEEDS Pow
theorem spec_shMember.ev (q : Int) (l : List Int) (d : Int) (hn : l.length ≤ 9223372036854775807) : Ev (fun k => spec_shMember.f k q l d) (goodC q l && decide (l.sum ≤ 60) && inB 0 ((l.length : Int) - 1) d) := by
  unfold spec_shMember.f
  refine Ev.bind (spec_shScanned.ev q l hn) ?_
  cases h : (goodC q l && decide (l.sum ≤ 60)) with
  | false => exact Ev.neg (by decide) (Ev.now _)
  | true =>
    rw [wrap_id (by omega) (by omega)]
    exact Ev.pos rfl (Ev.one (spec_l1In.eq _ _ _) ((Ev.now _).cast (by simp)))

-- NEEDS Pow
/-- In how many sets a member swings, quota by quota: none? -/
def dumP (l : List Int) (d : Nat) (x : Int) : Bool := decide (cntN (isSw (winsC x l) d) (2 ^ l.length) = 0)
def dumC (l : List Int) (d : Nat) : List Int := pickQ (dumP l d) l.sum.toNat
theorem spec_DummyQuotas.ev (q : Int) (l : List Int) (d : Int) (hn : l.length ≤ 9223372036854775807) (hk0 : -9223372036854775808 ≤ d) (hk1 : d ≤ 9223372036854775807) : Ev (fun k => spec_DummyQuotas.f k q l d) (if (goodC q l && decide (l.sum ≤ 60) && inB 0 ((l.length : Int) - 1) d) = true then (dumC l d.toNat, true) else ([], false)) := by
  unfold spec_DummyQuotas.f
  refine Ev.bind (spec_shMember.ev q l d hn) ?_
  cases h : (goodC q l && decide (l.sum ≤ 60) && inB 0 ((l.length : Int) - 1) d) with
  | false => exact Ev.neg (by decide) (Ev.now _)
  | true =>
    rw [Bool.and_eq_true, Bool.and_eq_true, inB_iff, decide_eq_true_eq] at h
    obtain ⟨h1, h2, h3, h4, h5⟩ := goodC_iff.1 h.1.1
    obtain ⟨m, rfl⟩ := Int.eq_ofNat_of_zero_le h.2.1
    refine Ev.pos rfl ?_
    rw [Int.toNat_natCast]
    have hd := down (P := fun i => Ev (fun k => spec_DummyQuotas.l0 k (m : Int) (pickQ (dumP l m) i) ((i : Int) + 1) q l) (dumC l m, true)) l.sum.toNat ?_ ?_ 0 (Nat.zero_le _)
    · exact hd
    · refine Ev.step (fun k => by rw [spec_DummyQuotas.l0]) ?_
      exact Ev.bind (spec_voSum.ev l 1000 h3 (by omega) (by omega)) (Ev.neg (by omega) (Ev.now _))
    · intro i hi ih
      refine Ev.step (fun k => by rw [spec_DummyQuotas.l0]) ?_
      have hl := pickQ_length (dumP l m) i
      have hlt : (pickQ (dumP l m) i).length < 17592186044416 := by omega
      have hw := winsC_length ((i : Int) + 1) l
      have hs := swL_length (winsC ((i : Int) + 1) l) m (2 ^ l.length)
      rw [pickQ_succ] at ih
      refine Ev.bind (spec_voSum.ev l 1000 h3 (by omega) (by omega)) (Ev.pos (by omega) (Ev.bind (spec_voWins.ev ((i : Int) + 1) l h2 h3) (Ev.bind (spec_pwSwings.ev _ l.length m hw h2 (by omega)) ?_)))
      have e : wrap64 ((i : Int) + 1 + 1) = ((i + 1 : Nat) : Int) + 1 := by
        rw [wrap_id (by omega) (by omega)]
        omega
      rw [e]
      have hdm : dumP l m ((i : Int) + 1) = decide (((swL (winsC ((i : Int) + 1) l) m (2 ^ l.length)).length : Int) = 0) := by
        rw [hs]
        rfl
      rw [hdm] at ih
      by_cases hz : ((swL (winsC ((i : Int) + 1) l) m (2 ^ l.length)).length : Int) = 0
      · rw [if_pos (decide_eq_true hz)] at ih
        refine Ev.pos hz (Ev.pos hlt ?_)
        exact ih
      · rw [if_neg (by rw [decide_eq_true_eq]; exact hz)] at ih
        refine Ev.neg hz ?_
        exact ih

-- NEEDS Pow
theorem impl_DummyQuotas.one (l : List Int) (h9 : l.length ≤ 9) (hB : ∀ x ∈ l, 0 ≤ x ∧ x ≤ 1000) (d : Nat) (hd : d < l.length) (x : Int) : Ev (fun k => dummyG k l d x) (dumP l d x) := by
  unfold dummyG
  have hv : impl_Committee_votes.f x l = some ((l.length : Int), winsC x l) := by
    unfold impl_Committee_votes.f
    rw [if_pos ⟨h9, all_mem.2 fun y hy => inB_iff.2 (hB y hy)⟩]
  refine Ev.one hv (Ev.bind (impl_votes_swings.ev (winsC x l) l.length (winsC_length x l) h9) ?_)
  refine Ev.pos (by simp [hd]) ((Ev.now _).cast ?_)
  unfold dumP
  rw [Bool.eq_iff_iff, beq_iff_eq, decide_eq_true_eq]
  simp [hd]
theorem impl_DummyQuotas.ev (q : Int) (l : List Int) (d : Int) (hn : l.length ≤ 9223372036854775807) (hk0 : -9223372036854775808 ≤ d) (hk1 : d ≤ 9223372036854775807) : Ev (fun k => impl_DummyQuotas.f k q l d) (if (goodC q l && decide (l.sum ≤ 60) && inB 0 ((l.length : Int) - 1) d) = true then (dumC l d.toNat, true) else ([], false)) := by
  unfold impl_DummyQuotas.f
  refine Ev.bind (impl_isScanned.ev q l 60 hn) ?_
  cases h : (goodC q l && decide (l.sum ≤ 60)) with
  | false => exact Ev.neg (by decide) (Ev.now _)
  | true =>
    refine Ev.pos rfl (Ev.bind (impl_isMember.ev q l d hn) ?_)
    rw [Bool.and_eq_true, decide_eq_true_eq] at h
    obtain ⟨h1, h2, h3, h4, h5⟩ := goodC_iff.1 h.1
    simp only [h.1, Bool.true_and]
    cases h6 : inB 0 ((l.length : Int) - 1) d with
    | false => exact Ev.neg (by decide) (Ev.now _)
    | true =>
      have h7 := inB_iff.1 h6
      refine Ev.pos rfl (Ev.bind (impl_sumOf.ev l 1000 h3 (by omega) (by omega)) ?_)
      obtain ⟨K, hK⟩ := Ev.each (fun k (i : Nat) => dummyG k l d.toNat ((i : Int) + 1)) (fun (i : Nat) => dumP l d.toNat ((i : Int) + 1)) (List.range l.sum.toNat) (fun i _ => impl_DummyQuotas.one l h2 h3 d.toNat (by omega) _)
      refine ⟨K, fun k hk => ?_⟩
      have h8 := hK k hk
      show (if _ then _ else _) = _
      rw [if_pos ⟨by omega, by omega, by omega, by omega, List.all_eq_true.2 fun i hi => by rw [h8 i hi]; rfl⟩]
      have e : pickQ (dummyQ k l d.toNat) l.sum.toNat = dumC l d.toNat := pickQ_same (fun i hi => by unfold dummyQ; rw [h8 i (List.mem_range.2 hi)]; rfl)
      rw [e]
      rfl

end Go.Proofs.Ythjnmfacdlgbbaa.P
