/- The plain statement of the law FnExactCountGames: whatever the numbers and lists, its printed function answers true from some number of rounds on. No condition beyond the kinds' own. -/
import Derived.Test.YtadlpnejkkblfaaPx2
import Derived.Test.YtadlpnejkkblfaaEv
import Derived.Test.YtadlpnejkkblfaaF1
namespace Go.Proofs.Ytadlpnejkkblfaa.Pure
open Go.Proofs.Ytadlpnejkkblfaa.P
open Go.RowKit Go.Proofs.YtadlpnejkkblfaaW.PrintWords Go.Proofs.YtadlpnejkkblfaaW.PrintLast Go.Proofs.YtadlpnejkkblfaaW.PrintMore
set_option linter.unusedVariables false
set_option linter.unusedSimpArgs false

theorem FnExactCountGames : laws_FnExactCountGames.Pure := by
  intro a0 hw
  by_cases h : 1 ≤ a0 ∧ a0 ≤ 4
  · have h4 : a0 = 1 ∨ a0 = 2 ∨ a0 = 3 ∨ a0 = 4 := by omega
    rcases h4 with rfl | rfl | rfl | rfl
    · exact ⟨1000, by decide +kernel⟩
    · exact ⟨1000, by decide +kernel⟩
    · exact ⟨1000, by decide +kernel⟩
    · exact ⟨1000, by decide +kernel⟩
  · refine ⟨1, ?_⟩
    have hi : impl_CountGames.f a0 = some (0, false) := by unfold impl_CountGames.f; rw [if_neg h]
    have hb : inB 1 4 a0 = false := decide_eq_false (by omega)
    have hs : spec_CountGames.f 1 a0 = some (0, false) := by
      unfold spec_CountGames.f
      rw [spec_l1In.eq, hb]
      rfl
    unfold laws_FnExactCountGames.f
    rw [hs, hi]
    rfl

end Go.Proofs.Ytadlpnejkkblfaa.Pure
