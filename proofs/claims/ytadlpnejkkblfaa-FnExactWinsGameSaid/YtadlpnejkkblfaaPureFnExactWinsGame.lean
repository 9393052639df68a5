/- The plain statement of the law FnExactWinsGame: whatever the numbers and lists, its printed function answers true from some number of rounds on. No condition beyond the kinds' own. -/
import Derived.Test.YtadlpnejkkblfaaPx10
import Derived.Test.YtadlpnejkkblfaaEv
import Derived.Test.YtadlpnejkkblfaaF2
import Derived.Test.YtadlpnejkkblfaaF9
import Derived.Test.YtadlpnejkkblfaaGame
namespace Go.Proofs.Ytadlpnejkkblfaa.Pure
open Go.Proofs.Ytadlpnejkkblfaa.P
open Go.RowKit Go.Proofs.YtadlpnejkkblfaaW.PrintWords Go.Proofs.YtadlpnejkkblfaaW.PrintLast Go.Proofs.YtadlpnejkkblfaaW.PrintMore
set_option linter.unusedVariables false
set_option linter.unusedSimpArgs false

-- NEEDS Game
theorem FnExactWinsGame : laws_FnExactWinsGame.Pure := by
  intro n L s hq hm hw hm2 hw2
  have hL : L.length ≤ 9223372036854775807 := by unfold maxLen at hm; omega
  have hr : ∀ s ∈ L, s.length ≤ 9223372036854775807 := fun s hs => by have := (hw s hs).1; unfold maxLen at this; omega
  have hn2 : s.length ≤ 9223372036854775807 := by unfold maxLen at hm2; omega
  have hs0 := sizeR_nonneg L
  suffices h : Ev (fun k => laws_FnExactWinsGame.f k n L s) true from h.rounds
  unfold laws_FnExactWinsGame.f
  by_cases hs2 : (s.length : Int) > 1048576
  · exact Ev.pos hs2 (Ev.now _)
  refine Ev.neg hs2 ?_
  refine Ev.bind (laws_szGame.ev n L 1048576 (by omega) (by omega) hL hr) ?_
  by_cases hs : (1048576 : Int) - L.length - sizeR L < 0
  · rw [if_pos hs]
    exact Ev.pos (by omega) (Ev.now _)
  · rw [if_neg hs]
    refine Ev.neg hs ?_
    have hL' : L.length ≤ 1048576 := by omega
    have hr' : ∀ s ∈ L, s.length ≤ 1048576 := fun s hs => by have := sizeR_mem hs; omega
    repeat' (first
      | exact Ev.now _
      | refine Ev.bind (spec_WinsGame.ev n L s hL hr hn2) ?_
      | refine Ev.bind (impl_WinsGame.ev n L s hL hr hn2) ?_
      | refine Ev.bind (laws_toGame.ev n L hL' hr') ?_
      | refine Ev.bind (laws_eqGame.ev n L hL hr) ?_
      | refine Ev.bind (laws_toIntS.ev s (by omega)) ?_
      | refine Ev.bind (laws_eqIntS.ev s hn2) ?_
      | refine Ev.pos rfl ?_
      | refine Ev.neg (by decide) ?_
      | refine Ev.neg (by omega) ?_
      | refine Ev.pos (by omega) ?_
      | (rw [bne_self_eq_false])
      | refine Ev.step (fun k => by rw [laws_FnExactWinsGame.j0]) ?_)

end Go.Proofs.Ytadlpnejkkblfaa.Pure
