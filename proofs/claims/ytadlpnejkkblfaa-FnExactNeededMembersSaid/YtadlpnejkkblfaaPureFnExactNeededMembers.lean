/- The plain statement of the law FnExactNeededMembers: whatever the numbers and lists, its printed function answers true from some number of rounds on. No condition beyond the kinds' own. -/
import Derived.Test.YtadlpnejkkblfaaPx18
import Derived.Test.YtadlpnejkkblfaaEv
import Derived.Test.YtadlpnejkkblfaaF2
import Derived.Test.YtadlpnejkkblfaaF17
import Derived.Test.YtadlpnejkkblfaaGame
import Derived.Test.YtadlpnejkkblfaaNeed
namespace Go.Proofs.Ytadlpnejkkblfaa.Pure
open Go.Proofs.Ytadlpnejkkblfaa.P
open Go.RowKit Go.Proofs.YtadlpnejkkblfaaW.PrintWords Go.Proofs.YtadlpnejkkblfaaW.PrintLast Go.Proofs.YtadlpnejkkblfaaW.PrintMore
set_option linter.unusedVariables false
set_option linter.unusedSimpArgs false

-- NEEDS Game
-- NEEDS Need
theorem FnExactNeededMembers : laws_FnExactNeededMembers.Pure := by
  intro n L hq hm hw
  have hL : L.length ≤ 9223372036854775807 := by unfold maxLen at hm; omega
  have hr : ∀ s ∈ L, s.length ≤ 9223372036854775807 := fun s hs => by have := (hw s hs).1; unfold maxLen at this; omega
  have hs0 := sizeR_nonneg L
  suffices h : Ev (fun k => laws_FnExactNeededMembers.f k n L) true from h.rounds
  unfold laws_FnExactNeededMembers.f
  refine Ev.bind (laws_szGame.ev n L 1048576 (by omega) (by omega) hL hr) ?_
  by_cases hs : (1048576 : Int) - L.length - sizeR L < 0
  · rw [if_pos hs]
    exact Ev.pos (by omega) (Ev.now _)
  · rw [if_neg hs]
    refine Ev.neg hs ?_
    have hL' : L.length ≤ 1048576 := by omega
    have hr' : ∀ s ∈ L, s.length ≤ 1048576 := fun s hs => by have := sizeR_mem hs; omega
    obtain ⟨r, b, hrl, hs1, hi1⟩ : ∃ r b, r.length ≤ 2000000 ∧ Ev (fun k => spec_NeededMembers.f k n L) (r, b) ∧ Ev (fun k => impl_NeededMembers.f k n L) (r, b) := by
      have h1 := spec_NeededMembers.ev n L hL hr
      have h2 := impl_NeededMembers.ev n L hL hr
      generalize hg : gameOK n L = g at h1 h2
      cases g with
      | false => rw [if_neg (by decide)] at h1 h2; exact ⟨[], false, by simp, h1, h2⟩
      | true =>
        rw [if_pos rfl] at h1 h2
        have h3 := gameOK_iff hg
        exact ⟨_, true, by have := pickI_length (needP L) n.toNat; unfold needC; omega, h1, h2⟩
    repeat' (first
      | exact Ev.now _
      | refine Ev.bind hs1 ?_
      | refine Ev.bind hi1 ?_
      | refine Ev.bind (laws_toGame.ev n L hL' hr') ?_
      | refine Ev.bind (laws_eqGame.ev n L hL hr) ?_
      | refine Ev.bind (laws_markGame.ev n L 1 (by omega) (by omega) (by omega)) ?_
      | refine Ev.bind (laws_eqIntS.ev r (by omega)) ?_
      | refine Ev.bind (laws_markIntS.ev r 1 (by omega) (by omega) (by omega)) ?_
      | refine Ev.bind (laws_heldIntS.ev r.length 1 (by omega) (by omega) (by omega)) ?_
      | refine Ev.pos rfl ?_
      | refine Ev.neg (by decide) ?_
      | refine Ev.neg (by omega) ?_
      | refine Ev.pos (by omega) ?_
      | (rw [bne_self_eq_false])
      | refine Ev.step (fun k => by rw [laws_FnExactNeededMembers.j0]) ?_
      | refine Ev.step (fun k => by rw [laws_FnExactNeededMembers.j1]) ?_
      | refine Ev.step (fun k => by rw [laws_FnExactNeededMembers.j2]) ?_)

end Go.Proofs.Ytadlpnejkkblfaa.Pure
