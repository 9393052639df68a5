/- The plain statement of the law FnExactSamePower: whatever the numbers and lists, its printed function answers true from some number of rounds on. No condition beyond the kinds' own. -/
import Derived.Test.YthjnmfacdlgbbaaPx15
import Derived.Test.YthjnmfacdlgbbaaEv
import Derived.Test.YthjnmfacdlgbbaaF1
import Derived.Test.YthjnmfacdlgbbaaF2
import Derived.Test.YthjnmfacdlgbbaaF3
import Derived.Test.YthjnmfacdlgbbaaF14
import Derived.Test.YthjnmfacdlgbbaaSame
namespace Go.Proofs.Ythjnmfacdlgbbaa.Pure
open Go.Proofs.Ythjnmfacdlgbbaa.P
open Go.RowKit Go.Proofs.YthjnmfacdlgbbaaW.PrintWords Go.Proofs.YthjnmfacdlgbbaaW.PrintLast Go.Proofs.YthjnmfacdlgbbaaW.PrintMore
set_option linter.unusedVariables false
set_option linter.unusedSimpArgs false

-- NEEDS Same
theorem FnExactSamePower : laws_FnExactSamePower.Pure := by
  intro q l hq hm hw
  have hn : l.length ≤ 9223372036854775807 := by unfold maxLen at hm; omega
  suffices h : Ev (fun k => laws_FnExactSamePower.f k q l) true from h.rounds
  unfold laws_FnExactSamePower.f
  refine Ev.one (laws_szCommittee.eq q l 1048576 (by omega) (by omega) hn) ?_
  by_cases hs : (1048576 : Int) - l.length < 0
  · rw [if_pos hs]
    exact Ev.pos (by omega) (Ev.now _)
  · rw [if_neg hs]
    refine Ev.neg hs ?_
    obtain ⟨r, b, hr, hr2, hs1, hi1⟩ : ∃ r b, r.length ≤ 9 ∧ (∀ s ∈ r, s.length ≤ 9) ∧ Ev (fun k => spec_SamePower.f k q l) (r, b) ∧ Ev (fun k => impl_SamePower.f k q l) (r, b) := by
      have h1 := spec_SamePower.ev q l hn
      have h2 := impl_SamePower.ev q l hn
      generalize hg : goodC q l = g at h1 h2
      cases g with
      | false => rw [if_neg (by decide)] at h1 h2; exact ⟨[], false, by simp, by simp, h1, h2⟩
      | true =>
        rw [if_pos rfl] at h1 h2
        obtain ⟨g1, g2, g3, g4, g5⟩ := goodC_iff.1 hg
        obtain ⟨k1, k2⟩ := sameC_len q l
        exact ⟨_, true, Nat.le_trans k1 g2, fun s hs => Nat.le_trans (k2 s hs) g2, h1, h2⟩
    have hl1 := lenR_le 9 r hr2
    have hl0 := lenR_nonneg r
    have hnew := laws_markIntSS.new_is r 1 (by omega) (by omega) (by omega)
    have hmk := laws_markIntSS.ev r 1 (by omega) (by omega) (by omega)
    have hhd := laws_heldIntSS.ev r 1 (by omega) (by omega) (by omega) (fun s hs => Nat.le_trans (hr2 s hs) (by omega))
    rw [← hnew] at hhd
    have heq := laws_eqIntSS.ev r (by omega) (fun s hs => Nat.le_trans (hr2 s hs) (by omega))
    repeat' (first
      | exact Ev.now _
      | refine Ev.bind hs1 ?_
      | refine Ev.bind hi1 ?_
      | refine Ev.bind (laws_toCommittee.ev q l (by omega)) ?_
      | refine Ev.bind (laws_eqCommittee.ev q l hn) ?_
      | refine Ev.bind (laws_markCommittee.ev q l 1 (by omega) (by omega) (by omega)) ?_
      | refine Ev.bind heq ?_
      | refine Ev.bind hmk ?_
      | refine Ev.bind hhd ?_
      | refine Ev.pos rfl ?_
      | refine Ev.neg (by decide) ?_
      | refine Ev.neg (by omega) ?_
      | refine Ev.pos (by omega) ?_
      | (rw [bne_self_eq_false])
      | refine Ev.step (fun k => by rw [laws_FnExactSamePower.j0]) ?_
      | refine Ev.step (fun k => by rw [laws_FnExactSamePower.j1]) ?_
      | refine Ev.step (fun k => by rw [laws_FnExactSamePower.j2]) ?_)

end Go.Proofs.Ythjnmfacdlgbbaa.Pure
