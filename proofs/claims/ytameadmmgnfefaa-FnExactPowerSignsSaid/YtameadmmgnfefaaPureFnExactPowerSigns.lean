/- The plain statement of the law FnExactPowerSigns: whatever the numbers and lists, its printed function answers true from some number of rounds on. No condition beyond the kinds' own. -/
import Derived.Test.YtameadmmgnfefaaPx35
import Derived.Test.YtameadmmgnfefaaEv
import Derived.Test.YtameadmmgnfefaaF1
import Derived.Test.YtameadmmgnfefaaF2
import Derived.Test.YtameadmmgnfefaaF3
import Derived.Test.YtameadmmgnfefaaF11
import Derived.Test.YtameadmmgnfefaaF34
import Derived.Test.YtameadmmgnfefaaPow
namespace Go.Proofs.Ytameadmmgnfefaa.Pure
open Go.Proofs.Ytameadmmgnfefaa.P
open Go.RowKit Go.Proofs.YtameadmmgnfefaaW.PrintWords Go.Proofs.YtameadmmgnfefaaW.PrintLast Go.Proofs.YtameadmmgnfefaaW.PrintMore
set_option linter.unusedVariables false
set_option linter.unusedSimpArgs false

-- NEEDS Pow
theorem FnExactPowerSigns : laws_FnExactPowerSigns.Pure := by
  intro q l hq hm hw
  have hn : l.length ≤ 9223372036854775807 := by unfold maxLen at hm; omega
  suffices h : Ev (fun k => laws_FnExactPowerSigns.f k q l) true from h.rounds
  unfold laws_FnExactPowerSigns.f
  refine Ev.one (laws_szCommittee.eq q l 1048576 (by omega) (by omega) hn) ?_
  by_cases hs : (1048576 : Int) - l.length < 0
  · rw [if_pos hs]
    exact Ev.pos (by omega) (Ev.now _)
  · rw [if_neg hs]
    refine Ev.neg hs ?_
    obtain ⟨r, b, hr, hs1, hi1⟩ : ∃ r b, r.length ≤ 2000000 ∧ Ev (fun k => spec_PowerSigns.f k q l) (r, b) ∧ Ev (fun k => impl_PowerSigns.f k q l) (r, b) := by
      have h1 := spec_PowerSigns.ev q l hn
      have h2 := impl_PowerSigns.ev q l hn
      generalize hg : goodC q l = g at h1 h2
      cases g with
      | false => rw [if_neg (by decide)] at h1 h2; exact ⟨[], false, by simp, h1, h2⟩
      | true => rw [if_pos rfl] at h1 h2; exact ⟨_, true, by simp [spec_PowerSigns.value, spec_PowerSigns.signs]; omega, h1, h2⟩
    repeat' (first
      | exact Ev.now _
      | refine Ev.bind hs1 ?_
      | refine Ev.bind hi1 ?_
      | refine Ev.bind (laws_toCommittee.ev q l (by omega)) ?_
      | refine Ev.bind (laws_eqCommittee.ev q l hn) ?_
      | refine Ev.bind (laws_markCommittee.ev q l 1 (by omega) (by omega) (by omega)) ?_
      | refine Ev.bind (laws_eqIntS.ev r (by omega)) ?_
      | refine Ev.bind (laws_markIntS.ev r 1 (by omega) (by omega) (by omega)) ?_
      | refine Ev.bind (laws_heldIntS.ev r.length 1 (by omega) (by omega) (by omega)) ?_
      | refine Ev.pos rfl ?_
      | refine Ev.neg (by decide) ?_
      | refine Ev.neg (by omega) ?_
      | refine Ev.pos (by omega) ?_
      | (rw [bne_self_eq_false])
      | refine Ev.step (fun k => by rw [laws_FnExactPowerSigns.j0]) ?_
      | refine Ev.step (fun k => by rw [laws_FnExactPowerSigns.j1]) ?_
      | refine Ev.step (fun k => by rw [laws_FnExactPowerSigns.j2]) ?_)

end Go.Proofs.Ytameadmmgnfefaa.Pure
