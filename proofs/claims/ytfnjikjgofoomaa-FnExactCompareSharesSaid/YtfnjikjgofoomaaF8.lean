/- Plain facts of mine on printed functions: what they answer. No Go, no memory. -/
import Derived.Test.YtfnjikjgofoomaaPx8
import Derived.Test.YtfnjikjgofoomaaEv
import Derived.Test.YtfnjikjgofoomaaF3
import Derived.Test.YtfnjikjgofoomaaShare
import Derived.Test.YtfnjikjgofoomaaShare
import Derived.Test.YtfnjikjgofoomaaShare
import Derived.Test.YtfnjikjgofoomaaShare
import Derived.Test.YtfnjikjgofoomaaShare
import Derived.Test.YtfnjikjgofoomaaShare
namespace Go.Proofs.Ytfnjikjgofoomaa.P
open Go.RowKit Go.Proofs.YtfnjikjgofoomaaW.PrintWords Go.Proofs.YtfnjikjgofoomaaW.PrintLast Go.Proofs.YtfnjikjgofoomaaW.PrintMore
set_option linter.unusedVariables false
set_option linter.unusedSimpArgs false

-- NEEDS Share
theorem spec_l1Sign.eq (a : Int) : spec_l1Sign.f a = some (sgn a) := by
  unfold spec_l1Sign.f sgn
  split
  · rfl
  · split <;> rfl

-- NEEDS Share
theorem spec_pwCompare.eq {a b c d : Int} (h0 : 0 ≤ a * d) (h1 : a * d ≤ 4000000000000000000) (h2 : 0 ≤ c * b) (h3 : c * b ≤ 4000000000000000000) : spec_pwCompare.f a b c d = some (sgn (a * d - c * b)) := by
  unfold spec_pwCompare.f
  rw [wrap_id (x := a * d) (by omega) (by omega), wrap_id (x := c * b) (by omega) (by omega), wrap_id (by omega) (by omega), spec_l1Sign.eq]
  rfl

-- NEEDS Share
theorem spec_CompareShares.ev (a b c d : Int) : Ev (fun k => spec_CompareShares.f k a b c d) (cmpS a b c d) := by
  unfold spec_CompareShares.f
  refine Ev.bind (spec_pwGood.ev _ _) ?_
  cases h1 : goodS a b with
  | false => exact Ev.neg (by decide) ((Ev.now _).cast (by simp [cmpS, h1]))
  | true =>
    refine Ev.pos rfl (Ev.bind (spec_pwGood.ev _ _) ?_)
    cases h2 : goodS c d with
    | false => exact Ev.neg (by decide) ((Ev.now _).cast (by simp [cmpS, h2]))
    | true =>
      obtain ⟨h3, h4, h5, h6⟩ := cmpS_bounds h1 h2
      exact Ev.pos rfl (Ev.one (spec_pwCompare.eq h3 h4 h5 h6) ((Ev.now _).cast (by simp [cmpS, h1, h2])))

theorem cmp_isNaN_int.eq (a : Int) : cmp_isNaN_int.f a = some false := by simp [cmp_isNaN_int.f]

-- NEEDS Share
theorem cmp_Compare_int.eq (a b : Int) : cmp_Compare_int.f a b = some (sgn (a - b)) := by
  unfold cmp_Compare_int.f sgn
  simp only [cmp_isNaN_int.eq, Option.bind_some, Bool.false_eq_true, if_false]
  by_cases h1 : a < b
  · rw [if_pos h1, if_neg (by omega), if_pos (by omega)]
  · rw [if_neg h1]
    by_cases h2 : a > b
    · rw [if_pos h2, if_pos (by omega)]
    · rw [if_neg h2, if_neg (by omega), if_neg (by omega)]

-- NEEDS Share
theorem impl_compare.eq {a b c d : Int} (h0 : 0 ≤ a * d) (h1 : a * d ≤ 4000000000000000000) (h2 : 0 ≤ c * b) (h3 : c * b ≤ 4000000000000000000) : impl_compare.f a b c d = some (sgn (a * d - c * b)) := by
  unfold impl_compare.f
  rw [wrap_id (x := a * d) (by omega) (by omega), wrap_id (x := c * b) (by omega) (by omega), cmp_Compare_int.eq]
  rfl

-- NEEDS Share
theorem impl_CompareShares.ev (a b c d : Int) : Ev (fun k => impl_CompareShares.f k a b c d) (cmpS a b c d) := by
  unfold impl_CompareShares.f
  refine Ev.bind (impl_isShare.ev _ _) ?_
  cases h1 : goodS a b with
  | false => exact Ev.neg (by decide) ((Ev.now _).cast (by simp [cmpS, h1]))
  | true =>
    refine Ev.pos rfl (Ev.bind (impl_isShare.ev _ _) ?_)
    cases h2 : goodS c d with
    | false => exact Ev.neg (by decide) ((Ev.now _).cast (by simp [cmpS, h2]))
    | true =>
      obtain ⟨h3, h4, h5, h6⟩ := cmpS_bounds h1 h2
      exact Ev.pos rfl (Ev.one (impl_compare.eq h3 h4 h5 h6) ((Ev.now _).cast (by simp [cmpS, h1, h2])))

end Go.Proofs.Ytfnjikjgofoomaa.P
