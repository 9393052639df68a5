/- Plain words of mine on sets, masks, winning sets; rows of marks. No condition. -/
import Derived.Test.YthjnmfacdlgbbaaWin
namespace Go.Proofs.YthjnmfacdlgbbaaW.PrintMore
open Go.RowKit Go.Proofs.YthjnmfacdlgbbaaW.PrintWords Go.Proofs.YthjnmfacdlgbbaaW.PrintLast
set_option linter.unusedVariables false
theorem wt_zero (l : List Int) : wt l 0 = 0 := by
  induction l with
  | nil => rfl
  | cons x r ih => simp [wt, ih]
theorem wt_single (l : List Int) : ∀ (k : Nat) (h : k < l.length), wt l (2 ^ k) = l[k] := by
  induction l with
  | nil => intro k h; simp at h
  | cons x r ih =>
    intro k h
    cases k with
    | zero => simp [wt, wt_zero]
    | succ k =>
      have h1 : 2 ^ (k + 1) % 2 = 0 := by rw [Nat.pow_succ]; exact Nat.mul_mod_left _ _
      have h2 : 2 ^ (k + 1) / 2 = 2 ^ k := by rw [Nat.pow_succ]; exact Nat.mul_div_cancel _ (by omega)
      rw [wt, if_neg (by omega), h2, ih k (by simpa using h)]
      simp
theorem getD_at {ws : List Bool} {i : Nat} (h : i < ws.length) : ws.getD i false = ws[i] := by simp [h]
theorem getI_at {l : List Int} {i : Nat} (h : i < l.length) : l.getD i 0 = l[i] := by simp [h]
end Go.Proofs.YthjnmfacdlgbbaaW.PrintMore
