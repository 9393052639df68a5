/- The plain statement of the law FnExactParseCommittee: whatever the numbers and lists, its printed function answers true from some number of rounds on. No condition beyond the kinds' own. -/
import Derived.Test.YtchcpjmdmohngaaDoorPx3
import Derived.Test.YtchcpjmdmohngaaDoorEv
import Derived.Test.YtchcpjmdmohngaaDoorF1
import Derived.Test.YtchcpjmdmohngaaDoorF2
namespace Go.Proofs.YtchcpjmdmohngaaDoor.Pure
open Go.Proofs.YtchcpjmdmohngaaDoor.P
open Go.RowKit Go.Proofs.YtchcpjmdmohngaaDoorW.PrintWords Go.Proofs.YtchcpjmdmohngaaDoorW.PrintLast Go.Proofs.YtchcpjmdmohngaaDoorW.PrintMore
set_option linter.unusedVariables false
set_option linter.unusedSimpArgs false

theorem FnExactParseCommittee : laws_FnExactParseCommittee.Pure := by
  intro s hsz
  suffices h : Ev (fun k => laws_FnExactParseCommittee.f k s) true from h.rounds
  unfold laws_FnExactParseCommittee.f
  by_cases hs : (s.size : Int) > 1048576
  · exact Ev.pos hs (Ev.now _)
  · refine Ev.neg hs ?_
    obtain ⟨q, l, b, hl, hs1, hi1⟩ : ∃ q l b, l.length ≤ 9 ∧ Ev (fun k => spec_ParseCommittee.f k s) (q, l, b) ∧ Ev (fun k => impl_ParseCommittee.f k s) (q, l, b) := by
      by_cases h : ∃ q l, goodC q l = true ∧ textC q l = s
      · obtain ⟨q, l, hg, rfl⟩ := h
        exact ⟨q, l, true, (goodC_iff.1 hg).2.1, spec_ParseCommittee.on q l hg, impl_ParseCommittee.on q l hg⟩
      · have h2 : ∀ q l, goodC q l = true → textC q l ≠ s := fun q l hg he => h ⟨q, l, hg, he⟩
        exact ⟨0, [], false, by simp, spec_ParseCommittee.off s (by omega) h2, impl_ParseCommittee.off s (by omega) h2⟩
    repeat' (first
      | exact Ev.now _
      | refine Ev.bind hs1 ?_
      | refine Ev.bind hi1 ?_
      | refine Ev.bind (laws_eqCommittee.ev q l (by omega)) ?_
      | refine Ev.bind (laws_markCommittee.ev q l 1 (by omega) (by omega) (by omega)) ?_
      | refine Ev.bind (laws_heldCommittee.ev q l.length 1 (by omega) (by omega) (by omega)) ?_
      | refine Ev.pos rfl ?_
      | refine Ev.neg (by decide) ?_
      | refine Ev.neg (by omega) ?_
      | refine Ev.pos (by omega) ?_
      | (rw [bne_self_eq_false])
      | refine Ev.step (fun k => by rw [laws_FnExactParseCommittee.j0]) ?_
      | refine Ev.step (fun k => by rw [laws_FnExactParseCommittee.j1]) ?_)

end Go.Proofs.YtchcpjmdmohngaaDoor.Pure
