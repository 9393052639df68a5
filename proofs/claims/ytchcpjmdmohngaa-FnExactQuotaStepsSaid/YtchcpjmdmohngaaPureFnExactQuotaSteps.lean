/- The plain statement of the law FnExactQuotaSteps: whatever the numbers and lists, its printed function answers true from some number of rounds on. No condition beyond the kinds' own. -/
import Derived.Test.YtchcpjmdmohngaaPx6
import Derived.Test.YtchcpjmdmohngaaEv
import Derived.Test.YtchcpjmdmohngaaF1
import Derived.Test.YtchcpjmdmohngaaF2
import Derived.Test.YtchcpjmdmohngaaF5
import Derived.Test.YtchcpjmdmohngaaPow
namespace Go.Proofs.Ytchcpjmdmohngaa.Pure
open Go.Proofs.Ytchcpjmdmohngaa.P
open Go.RowKit Go.Proofs.YtchcpjmdmohngaaW.PrintWords Go.Proofs.YtchcpjmdmohngaaW.PrintLast Go.Proofs.YtchcpjmdmohngaaW.PrintMore
set_option linter.unusedVariables false
set_option linter.unusedSimpArgs false

-- NEEDS Pow
theorem FnExactQuotaSteps : laws_FnExactQuotaSteps.Pure := by
  intro q l hq hm hw
  have hn : l.length ≤ 9223372036854775807 := by unfold maxLen at hm; omega
  suffices h : Ev (fun k => laws_FnExactQuotaSteps.f k q l) true from h.rounds
  unfold laws_FnExactQuotaSteps.f
  refine Ev.one (laws_szCommittee.eq q l 1048576 (by omega) (by omega) hn) ?_
  by_cases hs : (1048576 : Int) - l.length < 0
  · rw [if_pos hs]
    exact Ev.pos (by omega) (Ev.now _)
  · rw [if_neg hs]
    refine Ev.neg hs ?_
    obtain ⟨r, b, hr, hs1, hi1⟩ : ∃ r b, r.length ≤ 2000000 ∧ Ev (fun k => spec_QuotaSteps.f k q l) (r, b) ∧ Ev (fun k => impl_QuotaSteps.f k q l) (r, b) := by
      have h1 := spec_QuotaSteps.ev q l hn
      have h2 := impl_QuotaSteps.ev q l hn
      generalize hg : goodC q l = g at h1 h2
      cases g with
      | false => rw [if_neg (by decide)] at h1 h2; exact ⟨[], false, by simp, h1, h2⟩
      | true => rw [if_pos rfl] at h1 h2; exact ⟨_, true, by have := stepsC_length hg; omega, h1, h2⟩
    repeat' (first
      | exact Ev.now _
      | refine Ev.bind hs1 ?_
      | refine Ev.bind hi1 ?_
      | refine Ev.bind (laws_toCommittee.ev q l (by omega)) ?_
      | refine Ev.bind (laws_eqCommittee.ev q l hn) ?_
      | refine Ev.bind (laws_markCommittee.ev q l 1 (by omega) (by omega) (by omega)) ?_
      | refine Ev.bind (laws_eqIntS.ev r (by omega)) ?_
      | refine Ev.bind (laws_markIntS.ev r 1 (by omega) (by omega) (by omega)) ?_
      | refine Ev.bind (laws_heldIntS.ev r.length 1 (by omega) (by omega) (by omega)) ?_
      | refine Ev.pos rfl ?_
      | refine Ev.neg (by decide) ?_
      | refine Ev.neg (by omega) ?_
      | refine Ev.pos (by omega) ?_
      | (rw [bne_self_eq_false])
      | refine Ev.step (fun k => by rw [laws_FnExactQuotaSteps.j0]) ?_
      | refine Ev.step (fun k => by rw [laws_FnExactQuotaSteps.j1]) ?_
      | refine Ev.step (fun k => by rw [laws_FnExactQuotaSteps.j2]) ?_)

end Go.Proofs.Ytchcpjmdmohngaa.Pure
