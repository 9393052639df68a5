/- Plain facts of mine on printed functions: what they answer. No Go, no memory. -/
import Derived.Test.YtfnjikjgofoomaaPx6
import Derived.Test.YtfnjikjgofoomaaEv
import Derived.Test.YtfnjikjgofoomaaF3
import Derived.Test.YtfnjikjgofoomaaShare
import Derived.Test.YtfnjikjgofoomaaShare
import Derived.Test.YtfnjikjgofoomaaShare
import Derived.Test.YtfnjikjgofoomaaShare
import Derived.Test.YtfnjikjgofoomaaShare
namespace Go.Proofs.Ytfnjikjgofoomaa.P
open Go.RowKit Go.Proofs.YtfnjikjgofoomaaW.PrintWords Go.Proofs.YtfnjikjgofoomaaW.PrintLast Go.Proofs.YtfnjikjgofoomaaW.PrintMore
set_option linter.unusedVariables false
set_option linter.unusedSimpArgs false

-- NEEDS Share
theorem spec_pwShare.ev {n d : Int} (h0 : 0 ≤ n) (h1 : n ≤ 9223372036854775807) (h2 : 1 ≤ d) (h3 : d ≤ 9223372036854775807) : Ev (fun k => spec_pwShare.f k n d) (shareO n d) := by
  unfold spec_pwShare.f
  refine Ev.bind (spec_pwCommon.ev h0 (by omega)) ?_
  have hg : 0 < Nat.gcd n.toNat d.toNat := Nat.gcd_pos_of_pos_right _ (by omega)
  refine Ev.neg (by omega) ((Ev.now _).cast ?_)
  obtain ⟨n, rfl⟩ := Int.eq_ofNat_of_zero_le h0
  obtain ⟨d, rfl⟩ := Int.eq_ofNat_of_zero_le (show 0 ≤ d by omega)
  simp only [Int.toNat_natCast] at hg ⊢
  have e1 : wrap64 (Int.tdiv (n : Int) (Nat.gcd n d : Nat)) = ((n / Nat.gcd n d : Nat) : Int) := by
    rw [← Int.ofNat_tdiv]
    have := Nat.div_le_self n (Nat.gcd n d)
    exact wrap_id (Int.le_trans (by decide) (Int.natCast_nonneg _)) (Int.le_trans (Int.ofNat_le.2 this) (by omega))
  have e2 : wrap64 (Int.tdiv (d : Int) (Nat.gcd n d : Nat)) = ((d / Nat.gcd n d : Nat) : Int) := by
    rw [← Int.ofNat_tdiv]
    have := Nat.div_le_self d (Nat.gcd n d)
    exact wrap_id (Int.le_trans (by decide) (Int.natCast_nonneg _)) (Int.le_trans (Int.ofNat_le.2 this) (by omega))
  simp only [shareO, Int.toNat_natCast, e1, e2]

-- NEEDS Share
theorem spec_AddShares.ev (a b c d : Int) : Ev (fun k => spec_AddShares.f k a b c d) (addS a b c d) := by
  unfold spec_AddShares.f
  have hj : ∀ x : Bool, (x = false → goodS a b = true ∧ goodS c d = true) → Ev (fun k => spec_AddShares.j0 k x a b c d) (if x = true then (0, 0, false) else sumS a b c d) := by
    intro x hx
    refine Ev.step (fun k => by rw [spec_AddShares.j0]) ?_
    cases x with
    | true => exact Ev.pos rfl (Ev.now _)
    | false =>
      obtain ⟨h1, h2⟩ := hx rfl
      obtain ⟨h3, h4, h5, h6, h7, h8, h9, e1, e2, e3, e4⟩ := sumS_bounds h1 h2
      rw [e1, e2, e3, e4]
      refine Ev.neg (by decide) (Ev.bind (spec_pwShare.ev h3 h4 h5 h6) (Ev.bind (spec_pwGood.ev _ _) ?_))
      cases h : goodS (shareO (a * d + c * b) (b * d)).1 (shareO (a * d + c * b) (b * d)).2 with
      | true => exact Ev.pos rfl ((Ev.now _).cast (by simp [sumS, h]))
      | false => exact Ev.neg (by decide) ((Ev.now _).cast (by simp [sumS, h]))
  refine Ev.bind (spec_pwGood.ev _ _) ?_
  cases h1 : goodS a b with
  | false => exact Ev.neg (by decide) ((hj true (by simp)).cast (by simp [addS, h1]))
  | true =>
    refine Ev.pos rfl (Ev.bind (spec_pwGood.ev _ _) ?_)
    cases h2 : goodS c d with
    | false => exact (hj true (by simp)).cast (by simp [addS, h2])
    | true => exact (hj false (by simp [h1, h2])).cast (by simp [addS, h1, h2])

-- NEEDS Share
theorem impl_shareOf.ev {n d : Int} (h0 : 0 ≤ n) (h1 : n ≤ 9223372036854775807) (h2 : 1 ≤ d) (h3 : d ≤ 9223372036854775807) : Ev (fun k => impl_shareOf.f k n d) (shareO n d) := by
  unfold impl_shareOf.f
  refine Ev.bind (impl_gcd.ev h0 (by omega)) ?_
  have hg : 0 < Nat.gcd n.toNat d.toNat := Nat.gcd_pos_of_pos_right _ (by omega)
  refine Ev.neg (by omega) ((Ev.now _).cast ?_)
  obtain ⟨n, rfl⟩ := Int.eq_ofNat_of_zero_le h0
  obtain ⟨d, rfl⟩ := Int.eq_ofNat_of_zero_le (show 0 ≤ d by omega)
  simp only [Int.toNat_natCast] at hg ⊢
  have e1 : wrap64 (Int.tdiv (n : Int) (Nat.gcd n d : Nat)) = ((n / Nat.gcd n d : Nat) : Int) := by
    rw [← Int.ofNat_tdiv]
    have := Nat.div_le_self n (Nat.gcd n d)
    exact wrap_id (Int.le_trans (by decide) (Int.natCast_nonneg _)) (Int.le_trans (Int.ofNat_le.2 this) (by omega))
  have e2 : wrap64 (Int.tdiv (d : Int) (Nat.gcd n d : Nat)) = ((d / Nat.gcd n d : Nat) : Int) := by
    rw [← Int.ofNat_tdiv]
    have := Nat.div_le_self d (Nat.gcd n d)
    exact wrap_id (Int.le_trans (by decide) (Int.natCast_nonneg _)) (Int.le_trans (Int.ofNat_le.2 this) (by omega))
  simp only [shareO, Int.toNat_natCast, e1, e2]

-- NEEDS Share
theorem impl_add.ev {a b c d : Int} (h1 : goodS a b = true) (h2 : goodS c d = true) : Ev (fun k => impl_add.f k a b c d) (shareO (a * d + c * b) (b * d)) := by
  unfold impl_add.f
  obtain ⟨h3, h4, h5, h6, h7, h8, h9, e1, e2, e3, e4⟩ := sumS_bounds h1 h2
  rw [e1, e2, e3, e4]
  exact Ev.bind (impl_shareOf.ev h3 h4 h5 h6) (Ev.now _)

-- NEEDS Share
theorem impl_AddShares.ev (a b c d : Int) : Ev (fun k => impl_AddShares.f k a b c d) (addS a b c d) := by
  unfold impl_AddShares.f
  have hj : ∀ x : Bool, (x = false → goodS a b = true ∧ goodS c d = true) → Ev (fun k => impl_AddShares.j0 k x a b c d) (if x = true then (0, 0, false) else sumS a b c d) := by
    intro x hx
    refine Ev.step (fun k => by rw [impl_AddShares.j0]) ?_
    cases x with
    | true => exact Ev.pos rfl (Ev.now _)
    | false =>
      obtain ⟨h1, h2⟩ := hx rfl
      refine Ev.neg (by decide) (Ev.bind (impl_add.ev h1 h2) (Ev.bind (impl_isShare.ev _ _) ?_))
      cases h : goodS (shareO (a * d + c * b) (b * d)).1 (shareO (a * d + c * b) (b * d)).2 with
      | true => exact Ev.pos rfl ((Ev.now _).cast (by simp [sumS, h]))
      | false => exact Ev.neg (by decide) ((Ev.now _).cast (by simp [sumS, h]))
  refine Ev.bind (impl_isShare.ev _ _) ?_
  cases h1 : goodS a b with
  | false => exact Ev.neg (by decide) ((hj true (by simp)).cast (by simp [addS, h1]))
  | true =>
    refine Ev.pos rfl (Ev.bind (impl_isShare.ev _ _) ?_)
    cases h2 : goodS c d with
    | false => exact (hj true (by simp)).cast (by simp [addS, h2])
    | true => exact (hj false (by simp [h1, h2])).cast (by simp [addS, h1, h2])

theorem laws_eqShare.eq (a b : Int) : laws_eqShare.f a b a b = some true := by simp [laws_eqShare.f]

end Go.Proofs.Ytfnjikjgofoomaa.P
