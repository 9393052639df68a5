/- The plain statement of the law FnExactCommitteeText: whatever the numbers and lists, its printed function answers true from some number of rounds on. No condition beyond the kinds' own. -/
import Derived.Test.YtchcpjmdmohngaaDoorPx2
import Derived.Test.YtchcpjmdmohngaaDoorEv
import Derived.Test.YtchcpjmdmohngaaDoorF1
namespace Go.Proofs.YtchcpjmdmohngaaDoor.Pure
open Go.Proofs.YtchcpjmdmohngaaDoor.P
open Go.RowKit Go.Proofs.YtchcpjmdmohngaaDoorW.PrintWords Go.Proofs.YtchcpjmdmohngaaDoorW.PrintLast Go.Proofs.YtchcpjmdmohngaaDoorW.PrintMore
set_option linter.unusedVariables false
set_option linter.unusedSimpArgs false

theorem FnExactCommitteeText : laws_FnExactCommitteeText.Pure := by
  intro q l hq hm hw
  have hn : l.length ≤ 9223372036854775807 := by unfold maxLen at hm; omega
  suffices h : Ev (fun k => laws_FnExactCommitteeText.f k q l) true from h.rounds
  unfold laws_FnExactCommitteeText.f
  refine Ev.one (laws_szCommittee.eq q l 1048576 (by omega) (by omega) hn) ?_
  by_cases hs : (1048576 : Int) - l.length < 0
  · rw [if_pos hs]
    exact Ev.pos (by omega) (Ev.now _)
  · rw [if_neg hs]
    refine Ev.neg hs ?_
    repeat' (first
      | exact Ev.now _
      | refine Ev.bind (spec_CommitteeText.ev q l hn) ?_
      | refine Ev.bind (impl_CommitteeText.ev q l hn) ?_
      | refine Ev.bind (laws_toCommittee.ev q l (by omega)) ?_
      | refine Ev.bind (laws_eqCommittee.ev q l hn) ?_
      | refine Ev.pos rfl ?_
      | refine Ev.neg (by decide) ?_
      | refine Ev.neg (by omega) ?_
      | refine Ev.pos (by omega) ?_
      | (rw [bne_self_eq_false])
      | refine Ev.step (fun k => by rw [laws_FnExactCommitteeText.j0]) ?_)

end Go.Proofs.YtchcpjmdmohngaaDoor.Pure
