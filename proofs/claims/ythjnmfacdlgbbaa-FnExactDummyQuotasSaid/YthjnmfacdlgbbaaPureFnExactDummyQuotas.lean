/- The plain statement of the law FnExactDummyQuotas: whatever the numbers and lists, its printed function answers true from some number of rounds on. No condition beyond the kinds' own. -/
import Derived.Test.YthjnmfacdlgbbaaPx11
import Derived.Test.YthjnmfacdlgbbaaEv
import Derived.Test.YthjnmfacdlgbbaaF1
import Derived.Test.YthjnmfacdlgbbaaF2
import Derived.Test.YthjnmfacdlgbbaaF3
import Derived.Test.YthjnmfacdlgbbaaF10
import Derived.Test.YthjnmfacdlgbbaaPow
namespace Go.Proofs.Ythjnmfacdlgbbaa.Pure
open Go.Proofs.Ythjnmfacdlgbbaa.P
open Go.RowKit Go.Proofs.YthjnmfacdlgbbaaW.PrintWords Go.Proofs.YthjnmfacdlgbbaaW.PrintLast Go.Proofs.YthjnmfacdlgbbaaW.PrintMore
set_option linter.unusedVariables false
set_option linter.unusedSimpArgs false

-- NEEDS Pow
theorem FnExactDummyQuotas : laws_FnExactDummyQuotas.Pure := by
  intro q l k0 hq hm hw hk
  have hn : l.length ≤ 9223372036854775807 := by unfold maxLen at hm; omega
  have hk2 := wf_i64 hk
  suffices h : Ev (fun k => laws_FnExactDummyQuotas.f k q l k0) true from h.rounds
  unfold laws_FnExactDummyQuotas.f
  refine Ev.one (laws_szCommittee.eq q l 1048576 (by omega) (by omega) hn) ?_
  by_cases hs : (1048576 : Int) - l.length < 0
  · rw [if_pos hs]
    exact Ev.pos (by omega) (Ev.now _)
  · rw [if_neg hs]
    refine Ev.neg hs ?_
    obtain ⟨r, b, hr, hs1, hi1⟩ : ∃ r b, r.length ≤ 2000000 ∧ Ev (fun k => spec_DummyQuotas.f k q l k0) (r, b) ∧ Ev (fun k => impl_DummyQuotas.f k q l k0) (r, b) := by
      have h1 := spec_DummyQuotas.ev q l k0 hn hk2.1 hk2.2
      have h2 := impl_DummyQuotas.ev q l k0 hn hk2.1 hk2.2
      generalize hg : (goodC q l && decide (l.sum ≤ 60) && inB 0 ((l.length : Int) - 1) k0) = g at h1 h2
      cases g with
      | false => rw [if_neg (by decide)] at h1 h2; exact ⟨[], false, by simp, h1, h2⟩
      | true => rw [if_pos rfl] at h1 h2; exact ⟨_, true, by have := pickQ_length (dumP l k0.toNat) l.sum.toNat; simp only [Bool.and_eq_true, decide_eq_true_eq] at hg; unfold dumC; omega, h1, h2⟩
    repeat' (first
      | exact Ev.now _
      | refine Ev.bind hs1 ?_
      | refine Ev.bind hi1 ?_
      | refine Ev.bind (laws_toCommittee.ev q l (by omega)) ?_
      | refine Ev.bind (laws_eqCommittee.ev q l hn) ?_
      | refine Ev.bind (laws_markCommittee.ev q l 1 (by omega) (by omega) (by omega)) ?_
      | refine Ev.bind (laws_eqIntS.ev r (by omega)) ?_
      | refine Ev.bind (laws_markIntS.ev r 1 (by omega) (by omega) (by omega)) ?_
      | refine Ev.bind (laws_heldIntS.ev r.length 1 (by omega) (by omega) (by omega)) ?_
      | refine Ev.pos rfl ?_
      | refine Ev.neg (by decide) ?_
      | refine Ev.neg (by omega) ?_
      | refine Ev.pos (by omega) ?_
      | (rw [bne_self_eq_false])
      | refine Ev.step (fun k => by rw [laws_FnExactDummyQuotas.j0]) ?_
      | refine Ev.step (fun k => by rw [laws_FnExactDummyQuotas.j1]) ?_
      | refine Ev.step (fun k => by rw [laws_FnExactDummyQuotas.j2]) ?_)

end Go.Proofs.Ythjnmfacdlgbbaa.Pure
