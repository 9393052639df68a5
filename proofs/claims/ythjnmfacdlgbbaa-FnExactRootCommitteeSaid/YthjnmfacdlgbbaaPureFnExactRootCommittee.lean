/- The plain statement of the law FnExactRootCommittee: whatever the numbers and lists, its printed function answers true from some number of rounds on. No condition beyond the kinds' own. -/
import Derived.Test.YthjnmfacdlgbbaaPx17
import Derived.Test.YthjnmfacdlgbbaaEv
import Derived.Test.YthjnmfacdlgbbaaF1
import Derived.Test.YthjnmfacdlgbbaaF2
import Derived.Test.YthjnmfacdlgbbaaF8
import Derived.Test.YthjnmfacdlgbbaaF16
import Derived.Test.YthjnmfacdlgbbaaPow
import Derived.Test.YthjnmfacdlgbbaaRootC
namespace Go.Proofs.Ythjnmfacdlgbbaa.Pure
open Go.Proofs.Ythjnmfacdlgbbaa.P
open Go.RowKit Go.Proofs.YthjnmfacdlgbbaaW.PrintWords Go.Proofs.YthjnmfacdlgbbaaW.PrintLast Go.Proofs.YthjnmfacdlgbbaaW.PrintMore
set_option linter.unusedVariables false
set_option linter.unusedSimpArgs false

-- NEEDS Pow
-- NEEDS RootC
theorem FnExactRootCommittee : laws_FnExactRootCommittee.Pure := by
  intro l hm hw
  have hn : l.length ≤ 9223372036854775807 := by unfold maxLen at hm; omega
  suffices h : Ev (fun k => laws_FnExactRootCommittee.f k l) true from h.rounds
  unfold laws_FnExactRootCommittee.f
  by_cases hs : (l.length : Int) > 1048576
  · exact Ev.pos hs (Ev.now _)
  · refine Ev.neg hs ?_
    obtain ⟨r1, r2, b, hr, hs1, hi1⟩ : ∃ r1 r2 b, r2.length ≤ 2000000 ∧ Ev (fun k => spec_RootCommittee.f k l) (r1, r2, b) ∧ Ev (fun k => impl_RootCommittee.f k l) (r1, r2, b) := by
      have h1 := spec_RootCommittee.ev l hn
      have h2 := impl_RootCommittee.ev l hn
      refine ⟨(rootC l).1, (rootC l).2.1, (rootC l).2.2, ?_, h1, h2⟩
      unfold rootC
      split
      · show (rootL l).length ≤ 2000000
        unfold rootL
        rw [List.length_map]
        omega
      · simp
    repeat' (first
      | exact Ev.now _
      | refine Ev.bind hs1 ?_
      | refine Ev.bind hi1 ?_
      | refine Ev.bind (laws_toIntS.ev l (by omega)) ?_
      | refine Ev.bind (laws_eqIntS.ev l hn) ?_
      | refine Ev.bind (laws_markIntS.ev l 1 (by omega) (by omega) (by omega)) ?_
      | refine Ev.bind (laws_eqCommittee.ev r1 r2 (by omega)) ?_
      | refine Ev.bind (laws_markCommittee.ev r1 r2 1 (by omega) (by omega) (by omega)) ?_
      | refine Ev.bind (laws_heldCommittee.ev r1 r2.length 1 (by omega) (by omega) (by omega)) ?_
      | refine Ev.pos rfl ?_
      | refine Ev.neg (by decide) ?_
      | refine Ev.neg (by omega) ?_
      | refine Ev.pos (by omega) ?_
      | (rw [bne_self_eq_false])
      | refine Ev.step (fun k => by rw [laws_FnExactRootCommittee.j0]) ?_
      | refine Ev.step (fun k => by rw [laws_FnExactRootCommittee.j1]) ?_
      | refine Ev.step (fun k => by rw [laws_FnExactRootCommittee.j2]) ?_)

end Go.Proofs.Ythjnmfacdlgbbaa.Pure
