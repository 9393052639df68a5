/- The plain statement of the law FnExactRenameCommittee: whatever the numbers and lists, its printed function answers true from some number of rounds on. No condition beyond the kinds' own. -/
import Derived.Test.YtbjgdbgaopgbjaaPx3
import Derived.Test.YtbjgdbgaopgbjaaEv
import Derived.Test.YtbjgdbgaopgbjaaF1
import Derived.Test.YtbjgdbgaopgbjaaF2
import Derived.Test.YtbjgdbgaopgbjaaPow
namespace Go.Proofs.Ytbjgdbgaopgbjaa.Pure
open Go.Proofs.Ytbjgdbgaopgbjaa.P
open Go.RowKit Go.Proofs.YtbjgdbgaopgbjaaW.PrintWords Go.Proofs.YtbjgdbgaopgbjaaW.PrintLast Go.Proofs.YtbjgdbgaopgbjaaW.PrintMore
set_option linter.unusedVariables false
set_option linter.unusedSimpArgs false

-- NEEDS Pow
theorem FnExactRenameCommittee : laws_FnExactRenameCommittee.Pure := by
  intro q l s hq hm hw hm2 hw2
  have hn : l.length ≤ 9223372036854775807 := by unfold maxLen at hm; omega
  have hn2 : s.length ≤ 9223372036854775807 := by unfold maxLen at hm2; omega
  suffices h : Ev (fun k => laws_FnExactRenameCommittee.f k q l s) true from h.rounds
  unfold laws_FnExactRenameCommittee.f
  by_cases hs2 : (s.length : Int) > 1048576
  · exact Ev.pos hs2 (Ev.now _)
  refine Ev.neg hs2 ?_
  refine Ev.one (laws_szCommittee.eq q l 1048576 (by omega) (by omega) hn) ?_
  by_cases hs : (1048576 : Int) - l.length < 0
  · rw [if_pos hs]
    exact Ev.pos (by omega) (Ev.now _)
  · rw [if_neg hs]
    refine Ev.neg hs ?_
    obtain ⟨r1, r2, b, hr, hs1, hi1⟩ : ∃ r1 r2 b, r2.length ≤ 2000000 ∧ Ev (fun k => spec_RenameCommittee.f k q l s) (r1, r2, b) ∧ Ev (fun k => impl_RenameCommittee.f k q l s) (r1, r2, b) := by
      have h1 := spec_RenameCommittee.ev q l s hn hn2
      have h2 := impl_RenameCommittee.ev q l s hn hn2
      generalize hg : (goodC q l && orderL l.length s) = g at h1 h2
      cases g with
      | false => rw [if_neg (by decide)] at h1 h2; exact ⟨0, [], false, by simp, h1, h2⟩
      | true => rw [if_pos rfl] at h1 h2; exact ⟨_, _, true, by simp; omega, h1, h2⟩
    repeat' (first
      | exact Ev.now _
      | refine Ev.bind hs1 ?_
      | refine Ev.bind hi1 ?_
      | refine Ev.bind (laws_toCommittee.ev q l (by omega)) ?_
      | refine Ev.bind (laws_toIntS.ev s (by omega)) ?_
      | refine Ev.bind (laws_eqIntS.ev s hn2) ?_
      | refine Ev.bind (laws_eqCommittee.ev q l hn) ?_
      | refine Ev.bind (laws_eqCommittee.ev r1 r2 (by omega)) ?_
      | refine Ev.bind (laws_markCommittee.ev q l 1 (by omega) (by omega) (by omega)) ?_
      | refine Ev.bind (laws_markIntS.ev s (1 + l.length) (by omega) (by omega) (by omega)) ?_
      | refine Ev.bind (laws_markCommittee.ev r1 r2 1 (by omega) (by omega) (by omega)) ?_
      | refine Ev.bind (laws_heldCommittee.ev r1 r2.length 1 (by omega) (by omega) (by omega)) ?_
      | refine Ev.pos rfl ?_
      | refine Ev.neg (by decide) ?_
      | refine Ev.neg (by omega) ?_
      | refine Ev.pos (by omega) ?_
      | (rw [bne_self_eq_false])
      | refine Ev.step (fun k => by rw [laws_FnExactRenameCommittee.j0]) ?_
      | refine Ev.step (fun k => by rw [laws_FnExactRenameCommittee.j1]) ?_
      | refine Ev.step (fun k => by rw [laws_FnExactRenameCommittee.j2]) ?_)

end Go.Proofs.Ytbjgdbgaopgbjaa.Pure
