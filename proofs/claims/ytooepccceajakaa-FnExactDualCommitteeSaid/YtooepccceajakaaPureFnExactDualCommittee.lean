/- The plain statement of the law FnExactDualCommittee: whatever the numbers and lists, its printed function answers true from some number of rounds on. No condition beyond the kinds' own. -/
import Derived.Test.YtooepccceajakaaPx16
import Derived.Test.YtooepccceajakaaEv
import Derived.Test.YtooepccceajakaaF1
import Derived.Test.YtooepccceajakaaF6
import Derived.Test.YtooepccceajakaaF10
import Derived.Test.YtooepccceajakaaF15
import Derived.Test.YtooepccceajakaaSets
namespace Go.Proofs.Ytooepccceajakaa.Pure
open Go.Proofs.Ytooepccceajakaa.P
open Go.RowKit Go.Proofs.YtooepccceajakaaW.PrintWords Go.Proofs.YtooepccceajakaaW.PrintLast Go.Proofs.YtooepccceajakaaW.PrintMore
set_option linter.unusedVariables false
set_option linter.unusedSimpArgs false

-- NEEDS Sets
theorem FnExactDualCommittee : laws_FnExactDualCommittee.Pure := by
  intro q l hq hm hw
  have hn : l.length ≤ 9223372036854775807 := by unfold maxLen at hm; omega
  suffices h : Ev (fun k => laws_FnExactDualCommittee.f k q l) true from h.rounds
  unfold laws_FnExactDualCommittee.f
  refine Ev.one (laws_szCommittee.eq q l 1048576 (by omega) (by omega) hn) ?_
  by_cases hs : (1048576 : Int) - l.length < 0
  · rw [if_pos hs]
    exact Ev.pos (by omega) (Ev.now _)
  · rw [if_neg hs]
    refine Ev.neg hs ?_
    obtain ⟨r1, r2, b, hr, hs1, hi1⟩ : ∃ r1 r2 b, r2.length ≤ 2000000 ∧ Ev (fun k => spec_DualCommittee.f k q l) (r1, r2, b) ∧ Ev (fun k => impl_DualCommittee.f k q l) (r1, r2, b) := by
      have h1 := spec_DualCommittee.ev q l hn
      have h2 := impl_DualCommittee.ev q l hn
      generalize hg : goodC q l = g at h1 h2
      cases g with
      | false => rw [if_neg (by decide)] at h1 h2; exact ⟨0, [], false, by simp, h1, h2⟩
      | true => rw [if_pos rfl] at h1 h2; exact ⟨_, _, true, by omega, h1, h2⟩
    repeat' (first
      | exact Ev.now _
      | refine Ev.bind hs1 ?_
      | refine Ev.bind hi1 ?_
      | refine Ev.bind (laws_toCommittee.ev q l (by omega)) ?_
      | refine Ev.bind (laws_eqCommittee.ev q l hn) ?_
      | refine Ev.bind (laws_eqCommittee.ev r1 r2 (by omega)) ?_
      | refine Ev.bind (laws_markCommittee.ev q l 1 (by omega) (by omega) (by omega)) ?_
      | refine Ev.bind (laws_markCommittee.ev r1 r2 1 (by omega) (by omega) (by omega)) ?_
      | refine Ev.bind (laws_heldCommittee.ev r1 r2.length 1 (by omega) (by omega) (by omega)) ?_
      | refine Ev.pos rfl ?_
      | refine Ev.neg (by decide) ?_
      | refine Ev.neg (by omega) ?_
      | refine Ev.pos (by omega) ?_
      | (rw [bne_self_eq_false])
      | refine Ev.step (fun k => by rw [laws_FnExactDualCommittee.j0]) ?_
      | refine Ev.step (fun k => by rw [laws_FnExactDualCommittee.j1]) ?_
      | refine Ev.step (fun k => by rw [laws_FnExactDualCommittee.j2]) ?_)

end Go.Proofs.Ytooepccceajakaa.Pure
