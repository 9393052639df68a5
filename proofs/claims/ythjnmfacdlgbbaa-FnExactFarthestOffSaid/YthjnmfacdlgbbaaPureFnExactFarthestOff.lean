/- The plain statement of the law FnExactFarthestOff: whatever the numbers and lists, its printed function answers true from some number of rounds on. No condition beyond the kinds' own. -/
import Derived.Test.YthjnmfacdlgbbaaPx20
import Derived.Test.YthjnmfacdlgbbaaEv
import Derived.Test.YthjnmfacdlgbbaaF1
import Derived.Test.YthjnmfacdlgbbaaF3
import Derived.Test.YthjnmfacdlgbbaaF18
import Derived.Test.YthjnmfacdlgbbaaF19
namespace Go.Proofs.Ythjnmfacdlgbbaa.Pure
open Go.Proofs.Ythjnmfacdlgbbaa.P
open Go.RowKit Go.Proofs.YthjnmfacdlgbbaaW.PrintWords Go.Proofs.YthjnmfacdlgbbaaW.PrintLast Go.Proofs.YthjnmfacdlgbbaaW.PrintMore
set_option linter.unusedVariables false
set_option linter.unusedSimpArgs false

theorem FnExactFarthestOff : laws_FnExactFarthestOff.Pure := by
  intro q l hq hm hw
  have hn : l.length ≤ 9223372036854775807 := by unfold maxLen at hm; omega
  suffices h : Ev (fun k => laws_FnExactFarthestOff.f k q l) true from h.rounds
  unfold laws_FnExactFarthestOff.f
  refine Ev.one (laws_szCommittee.eq q l 1048576 (by omega) (by omega) hn) ?_
  by_cases hs : (1048576 : Int) - l.length < 0
  · rw [if_pos hs]
    exact Ev.pos (by omega) (Ev.now _)
  · rw [if_neg hs]
    refine Ev.neg hs ?_
    repeat' (first
      | exact Ev.now _
      | refine Ev.bind (spec_FarthestOff.ev q l hn) ?_
      | refine Ev.bind (impl_FarthestOff.ev q l hn) ?_
      | refine Ev.bind (laws_toCommittee.ev q l (by omega)) ?_
      | refine Ev.bind (laws_eqCommittee.ev q l hn) ?_
      | refine Ev.one (laws_eqShare.eq _ _) ?_
      | refine Ev.pos rfl ?_
      | refine Ev.neg (by decide) ?_
      | refine Ev.neg (by omega) ?_
      | refine Ev.pos (by omega) ?_
      | (rw [bne_self_eq_false])
      | refine Ev.step (fun k => by rw [laws_FnExactFarthestOff.j0]) ?_)

end Go.Proofs.Ythjnmfacdlgbbaa.Pure
