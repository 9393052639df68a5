/- Plain words of mine on shares: fractions in lowest terms. No condition. -/
import Derived.Test.YtadlpnejkkblfaaEv
namespace Go.Proofs.YtadlpnejkkblfaaW.PrintMore
open Go.RowKit Go.Proofs.YtadlpnejkkblfaaW.PrintWords Go.Proofs.YtadlpnejkkblfaaW.PrintLast
set_option linter.unusedVariables false
/-- Is n / d a share? -/
def goodS (n d : Int) : Bool := inB 1 1000000 d && inB 0 d n && (((Nat.gcd n.toNat d.toNat : Nat) : Int) == 1)
/-- n / d in lowest terms. -/
def shareO (n d : Int) : Int × Int := (((n.toNat / Nat.gcd n.toNat d.toNat : Nat) : Int), ((d.toNat / Nat.gcd n.toNat d.toNat : Nat) : Int))
def sgn (a : Int) : Int := if a > 0 then 1 else if a < 0 then -1 else 0
def sumS (a b c d : Int) : Int × Int × Bool := if goodS (shareO (a * d + c * b) (b * d)).1 (shareO (a * d + c * b) (b * d)).2 = true then ((shareO (a * d + c * b) (b * d)).1, (shareO (a * d + c * b) (b * d)).2, true) else (0, 0, false)
def addS (a b c d : Int) : Int × Int × Bool := if goodS a b = true ∧ goodS c d = true then sumS a b c d else (0, 0, false)
def cmpS (a b c d : Int) : Int × Bool := if goodS a b = true ∧ goodS c d = true then (sgn (a * d - c * b), true) else (0, false)
theorem goodS_iff {n d : Int} : goodS n d = true ↔ 1 ≤ d ∧ d ≤ 1000000 ∧ 0 ≤ n ∧ n ≤ d ∧ Nat.gcd n.toNat d.toNat = 1 := by
  simp only [goodS, Bool.and_eq_true, inB_iff, beq_iff_eq]
  constructor
  · rintro ⟨⟨⟨h1, h2⟩, h3, h4⟩, h5⟩
    exact ⟨h1, h2, h3, h4, by omega⟩
  · rintro ⟨h1, h2, h3, h4, h5⟩
    exact ⟨⟨⟨h1, h2⟩, h3, h4⟩, by omega⟩
theorem mul_bd {x y B C : Int} (h0 : 0 ≤ x) (h1 : x ≤ B) (h2 : 0 ≤ y) (h3 : y ≤ C) : 0 ≤ x * y ∧ x * y ≤ B * C :=
  ⟨Int.mul_nonneg h0 h2, Int.le_trans (Int.mul_le_mul_of_nonneg_right h1 h2) (Int.mul_le_mul_of_nonneg_left h3 (by omega))⟩
theorem cmpS_bounds {a b c d : Int} (h1 : goodS a b = true) (h2 : goodS c d = true) : 0 ≤ a * d ∧ a * d ≤ 4000000000000000000 ∧ 0 ≤ c * b ∧ c * b ≤ 4000000000000000000 := by
  obtain ⟨a1, a2, a3, a4, _⟩ := goodS_iff.1 h1
  obtain ⟨b1, b2, b3, b4, _⟩ := goodS_iff.1 h2
  have p := mul_bd a3 (show a ≤ 1000000 by omega) (show 0 ≤ d by omega) b2
  have q := mul_bd b3 (show c ≤ 1000000 by omega) (show 0 ≤ b by omega) a2
  omega
theorem sumS_bounds {a b c d : Int} (h1 : goodS a b = true) (h2 : goodS c d = true) :
    0 ≤ a * d + c * b ∧ a * d + c * b ≤ 9223372036854775807 ∧ 1 ≤ b * d ∧ b * d ≤ 9223372036854775807 ∧ True ∧ True ∧ True ∧
    wrap64 (a * d) = a * d ∧ wrap64 (c * b) = c * b ∧ wrap64 (a * d + c * b) = a * d + c * b ∧ wrap64 (b * d) = b * d := by
  obtain ⟨a1, a2, a3, a4, _⟩ := goodS_iff.1 h1
  obtain ⟨b1, b2, b3, b4, _⟩ := goodS_iff.1 h2
  have p := mul_bd a3 (show a ≤ 1000000 by omega) (show 0 ≤ d by omega) b2
  have q := mul_bd b3 (show c ≤ 1000000 by omega) (show 0 ≤ b by omega) a2
  have r := mul_bd (show 0 ≤ b by omega) a2 (show 0 ≤ d by omega) b2
  have s : 0 < b * d := Int.mul_pos (by omega) (by omega)
  refine ⟨by omega, by omega, by omega, by omega, trivial, trivial, trivial, wrap_id (by omega) (by omega), wrap_id (by omega) (by omega), wrap_id (by omega) (by omega), wrap_id (by omega) (by omega)⟩
end Go.Proofs.YtadlpnejkkblfaaW.PrintMore
