/- The plain statement of the law FnExactAreSameVotes: whatever the numbers and lists, its printed function answers true from some number of rounds on. No condition beyond the kinds' own. -/
import Derived.Test.YtooepccceajakaaPx32
import Derived.Test.YtooepccceajakaaEv
import Derived.Test.YtooepccceajakaaF1
import Derived.Test.YtooepccceajakaaF31
import Derived.Test.YtooepccceajakaaSets
namespace Go.Proofs.Ytooepccceajakaa.Pure
open Go.Proofs.Ytooepccceajakaa.P
open Go.RowKit Go.Proofs.YtooepccceajakaaW.PrintWords Go.Proofs.YtooepccceajakaaW.PrintLast Go.Proofs.YtooepccceajakaaW.PrintMore
set_option linter.unusedVariables false
set_option linter.unusedSimpArgs false

-- NEEDS Sets
theorem FnExactAreSameVotes : laws_FnExactAreSameVotes.Pure := by
  intro q l q2 l2 hq hm hw hq2 hm2 hw2
  have hn : l.length ≤ 9223372036854775807 := by unfold maxLen at hm; omega
  suffices h : Ev (fun k => laws_FnExactAreSameVotes.f k q l q2 l2) true from h.rounds
  unfold laws_FnExactAreSameVotes.f
  refine Ev.one (laws_szCommittee.eq q l 1048576 (by omega) (by omega) hn) ?_
  by_cases hs : (1048576 : Int) - l.length < 0
  · rw [if_pos hs]
    exact Ev.pos (by omega) (Ev.now _)
  · rw [if_neg hs]
    refine Ev.neg hs ?_
    have hn2 : l2.length ≤ 9223372036854775807 := by unfold maxLen at hm2; omega
    refine Ev.one (laws_szCommittee.eq q2 l2 _ (by omega) (by omega) hn2) ?_
    by_cases hs2 : (1048576 : Int) - l.length - l2.length < 0
    · rw [if_pos hs2]
      exact Ev.pos (by omega) (Ev.now _)
    rw [if_neg hs2]
    refine Ev.neg hs2 ?_
    repeat' (first
      | exact Ev.now _
      | refine Ev.bind (spec_AreSameVotes.ev q l q2 l2 hn hn2) ?_
      | refine Ev.bind (impl_AreSameVotes.ev q l q2 l2 hn hn2) ?_
      | refine Ev.bind (laws_toCommittee.ev q l (by omega)) ?_
      | refine Ev.bind (laws_toCommittee.ev q2 l2 (by omega)) ?_
      | refine Ev.bind (laws_eqCommittee.ev q l hn) ?_
      | refine Ev.bind (laws_eqCommittee.ev q2 l2 hn2) ?_
      | refine Ev.neg (by rw [bne_self_eq_false]; decide) ?_
      | refine Ev.pos rfl ?_
      | refine Ev.neg (by decide) ?_
      | refine Ev.neg (by omega) ?_
      | refine Ev.pos (by omega) ?_
      | (rw [bne_self_eq_false])
      | refine Ev.step (fun k => by rw [laws_FnExactAreSameVotes.j0]) ?_)

end Go.Proofs.Ytooepccceajakaa.Pure
