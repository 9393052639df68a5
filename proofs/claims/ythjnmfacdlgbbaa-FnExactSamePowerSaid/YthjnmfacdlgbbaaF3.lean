/- Plain facts of mine on printed functions: what they answer. No Go, no memory. -/
import Derived.Test.YthjnmfacdlgbbaaPx3
import Derived.Test.YthjnmfacdlgbbaaEv
import Derived.Test.YthjnmfacdlgbbaaF1
namespace Go.Proofs.Ythjnmfacdlgbbaa.P
open Go.RowKit Go.Proofs.YthjnmfacdlgbbaaW.PrintWords Go.Proofs.YthjnmfacdlgbbaaW.PrintLast Go.Proofs.YthjnmfacdlgbbaaW.PrintMore
set_option linter.unusedVariables false
set_option linter.unusedSimpArgs false

theorem laws_szIntS.eq (l : List Int) (a : Int) (h0 : 0 ≤ a) (h1 : a ≤ 9223372036854775807) (hn : l.length ≤ 9223372036854775807) : laws_szIntS.f l a = some (if a - l.length < 0 then -1 else a - l.length) := by
  unfold laws_szIntS.f
  rw [wrap_id (by omega) (by omega)]
  split <;> rfl

theorem laws_szCommittee.eq (q : Int) (l : List Int) (a : Int) (h0 : 0 ≤ a) (h1 : a ≤ 9223372036854775807) (hn : l.length ≤ 9223372036854775807) : laws_szCommittee.f q l a = some (if a - l.length < 0 then -1 else a - l.length) := by
  unfold laws_szCommittee.f
  rw [laws_szIntS.eq l a h0 h1 hn, Option.bind_some]
  by_cases h : a - l.length < 0
  · simp [h]
  · simp [h]

theorem spec_voGood.ev (q : Int) (l : List Int) (hn : l.length ≤ 9223372036854775807) : Ev (fun k => spec_voGood.f k q l) (goodC q l) := by
  unfold spec_voGood.f
  refine Ev.one (spec_l1In.eq _ _ _) ?_
  have hj : ∀ b : Bool, (b = false → l.length ≤ 9 ∧ l.all (inB 0 1000) = true) → Ev (fun k => spec_voGood.j0 k b q l) (!b && inB 1 l.sum q) := by
    intro b hb
    refine Ev.step (fun k => by rw [spec_voGood.j0]) ?_
    cases b with
    | true => exact Ev.pos rfl (Ev.now _)
    | false =>
      obtain ⟨h1, h2⟩ := hb rfl
      refine Ev.neg (by decide) (Ev.bind (spec_voSum.ev l 1000 (fun x hx => inB_iff.1 (all_mem.1 h2 x hx)) (by omega) (by omega)) (Ev.one (spec_l1In.eq _ _ _) ((Ev.now _).cast (by simp))))
  cases h1 : inB 1 9 (l.length : Int) with
  | false => exact Ev.neg (by decide) ((hj true (by simp)).cast (by simp [goodC, h1]))
  | true =>
    refine Ev.pos rfl (Ev.bind (spec_l1All.ev l 0 1000 hn) ((hj _ ?_).cast ?_))
    · intro h2
      have := inB_iff.1 h1
      exact ⟨by omega, by simpa using h2⟩
    · simp [goodC, h1]

theorem laws_toCommittee.ev (q : Int) (l : List Int) (hn : l.length ≤ 35184372088832) : Ev (fun k => laws_toCommittee.f k q l) (q, l) := by
  unfold laws_toCommittee.f
  exact Ev.bind (laws_toIntS.ev l hn) (Ev.now _)

end Go.Proofs.Ythjnmfacdlgbbaa.P
