/- Plain words of mine on shares: fractions in lowest terms. No condition. -/
import Derived.Test.YthjnmfacdlgbbaaEv
namespace Go.Proofs.YthjnmfacdlgbbaaW.PrintMore
open Go.RowKit Go.Proofs.YthjnmfacdlgbbaaW.PrintWords Go.Proofs.YthjnmfacdlgbbaaW.PrintLast
set_option linter.unusedVariables false
def goodS (n d : Int) : Bool := inB 1 1000000 d && inB 0 d n && (((Nat.gcd n.toNat d.toNat : Nat) : Int) == 1)
def shareO (n d : Int) : Int × Int := (((n.toNat / Nat.gcd n.toNat d.toNat : Nat) : Int), ((d.toNat / Nat.gcd n.toNat d.toNat : Nat) : Int))
def sgn (a : Int) : Int := if a > 0 then 1 else if a < 0 then -1 else 0
theorem mul_bd {x y B C : Int} (h0 : 0 ≤ x) (h1 : x ≤ B) (h2 : 0 ≤ y) (h3 : y ≤ C) : 0 ≤ x * y ∧ x * y ≤ B * C :=
  ⟨Int.mul_nonneg h0 h2, Int.le_trans (Int.mul_le_mul_of_nonneg_right h1 h2) (Int.mul_le_mul_of_nonneg_left h3 (by omega))⟩
end Go.Proofs.YthjnmfacdlgbbaaW.PrintMore
