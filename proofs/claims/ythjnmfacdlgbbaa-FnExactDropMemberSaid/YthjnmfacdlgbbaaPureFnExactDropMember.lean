/- The plain statement of the law FnExactDropMember: whatever the numbers and lists, its printed function answers true from some number of rounds on. No condition beyond the kinds' own. -/
import Derived.Test.YthjnmfacdlgbbaaPx13
import Derived.Test.YthjnmfacdlgbbaaEv
import Derived.Test.YthjnmfacdlgbbaaF1
import Derived.Test.YthjnmfacdlgbbaaF2
import Derived.Test.YthjnmfacdlgbbaaF3
import Derived.Test.YthjnmfacdlgbbaaF8
import Derived.Test.YthjnmfacdlgbbaaF12
import Derived.Test.YthjnmfacdlgbbaaPow
namespace Go.Proofs.Ythjnmfacdlgbbaa.Pure
open Go.Proofs.Ythjnmfacdlgbbaa.P
open Go.RowKit Go.Proofs.YthjnmfacdlgbbaaW.PrintWords Go.Proofs.YthjnmfacdlgbbaaW.PrintLast Go.Proofs.YthjnmfacdlgbbaaW.PrintMore
set_option linter.unusedVariables false
set_option linter.unusedSimpArgs false

-- NEEDS Pow
theorem FnExactDropMember : laws_FnExactDropMember.Pure := by
  intro q l k0 hq hm hw hk
  have hk2 := wf_i64 hk
  have hn : l.length ≤ 9223372036854775807 := by unfold maxLen at hm; omega
  suffices h : Ev (fun k => laws_FnExactDropMember.f k q l k0) true from h.rounds
  unfold laws_FnExactDropMember.f
  refine Ev.one (laws_szCommittee.eq q l 1048576 (by omega) (by omega) hn) ?_
  by_cases hs : (1048576 : Int) - l.length < 0
  · rw [if_pos hs]
    exact Ev.pos (by omega) (Ev.now _)
  · rw [if_neg hs]
    refine Ev.neg hs ?_
    obtain ⟨r1, r2, b, hr, hs1, hi1⟩ : ∃ r1 r2 b, r2.length ≤ 2000000 ∧ Ev (fun k => spec_DropMember.f k q l k0) (r1, r2, b) ∧ Ev (fun k => impl_DropMember.f k q l k0) (r1, r2, b) := by
      have h1 := spec_DropMember.ev q l k0 hn hk2.1 hk2.2
      have h2 := impl_DropMember.ev q l k0 hn hk2.1 hk2.2
      unfold dropV at h1 h2
      have hl := dropL_length l k0.toNat
      generalize hg : (goodC q l && inB 0 ((l.length : Int) - 1) k0 && goodC q (dropL l k0.toNat)) = g at h1 h2
      cases g with
      | false => rw [if_neg (by decide)] at h1 h2; exact ⟨0, [], false, by simp, h1, h2⟩
      | true => rw [if_pos rfl] at h1 h2; exact ⟨_, _, true, by omega, h1, h2⟩
    repeat' (first
      | exact Ev.now _
      | refine Ev.bind hs1 ?_
      | refine Ev.bind hi1 ?_
      | refine Ev.bind (laws_toCommittee.ev q l (by omega)) ?_
      | refine Ev.bind (laws_eqCommittee.ev q l hn) ?_
      | refine Ev.bind (laws_eqCommittee.ev r1 r2 (by omega)) ?_
      | refine Ev.bind (laws_markCommittee.ev q l 1 (by omega) (by omega) (by omega)) ?_
      | refine Ev.bind (laws_markCommittee.ev r1 r2 1 (by omega) (by omega) (by omega)) ?_
      | refine Ev.bind (laws_heldCommittee.ev r1 r2.length 1 (by omega) (by omega) (by omega)) ?_
      | refine Ev.pos rfl ?_
      | refine Ev.neg (by decide) ?_
      | refine Ev.neg (by omega) ?_
      | refine Ev.pos (by omega) ?_
      | (rw [bne_self_eq_false])
      | refine Ev.step (fun k => by rw [laws_FnExactDropMember.j0]) ?_
      | refine Ev.step (fun k => by rw [laws_FnExactDropMember.j1]) ?_
      | refine Ev.step (fun k => by rw [laws_FnExactDropMember.j2]) ?_)

end Go.Proofs.Ythjnmfacdlgbbaa.Pure
