/- Plain words of mine on committees by square roots. No condition. -/
import Derived.Test.YthjnmfacdlgbbaaRoot
import Derived.Test.YthjnmfacdlgbbaaSqrt
namespace Go.Proofs.YthjnmfacdlgbbaaW.PrintMore
open Go.RowKit Go.Proofs.YthjnmfacdlgbbaaW.PrintWords Go.Proofs.YthjnmfacdlgbbaaW.PrintLast
set_option linter.unusedVariables false
theorem rootW_range {n : Int} (h : 1 ≤ n) : 1 ≤ rootW n ∧ rootW n ≤ 1000 := by
  have h1 : ∀ m : Nat, 0 ≤ (List.range m).foldl (fun (r : Int) _ => if (r + 1) * (r + 1) ≤ n then r + 1 else r) 0 ∧ (List.range m).foldl (fun (r : Int) _ => if (r + 1) * (r + 1) ≤ n then r + 1 else r) 0 ≤ m ∧ (1 ≤ m → 1 ≤ (List.range m).foldl (fun (r : Int) _ => if (r + 1) * (r + 1) ≤ n then r + 1 else r) 0) := by
    intro m
    induction m with
    | zero => simp
    | succ m ih =>
      rw [List.range_succ, List.foldl_append, List.foldl_cons, List.foldl_nil]
      generalize (List.range m).foldl (fun (r : Int) _ => if (r + 1) * (r + 1) ≤ n then r + 1 else r) 0 = r at ih ⊢
      obtain ⟨i1, i2, i3⟩ := ih
      split
      · exact ⟨by omega, by omega, fun _ => by omega⟩
      · rename_i hc
        refine ⟨i1, by omega, fun _ => ?_⟩
        rcases Nat.eq_zero_or_pos m with rfl | hm
        · have : r = 0 := by omega
          subst this
          exact absurd h hc
        · exact i3 hm
  exact ⟨(h1 1000).2.2 (by omega), (h1 1000).2.1⟩
theorem sqs_le_sq : ∀ l : List Int, (∀ x ∈ l, 0 ≤ x ∧ x ≤ 1000) → sqs l ≤ l.sum * l.sum
  | [], _ => by simp [sqs]
  | a :: r, h => by
    have h1 := sqs_le_sq r (fun x hx => h x (List.mem_cons_of_mem _ hx))
    have h2 := h a List.mem_cons_self
    have h3 := sum_le (l := r) (fun x hx => h x (List.mem_cons_of_mem _ hx))
    have h4 := Int.mul_nonneg h2.1 h3.1
    have e : sqs (a :: r) = a * a + sqs r := by simp [sqs]
    have e2 : (a :: r).sum * (a :: r).sum = a * a + 2 * (a * r.sum) + r.sum * r.sum := by
      rw [List.sum_cons, Int.add_mul, Int.mul_add, Int.mul_add, Int.mul_comm r.sum a]
      omega
    rw [e, e2]
    omega
theorem rootQ_le {sq all : Int} (h : sq ≤ all * all) (n : Nat) : ∀ q : Int, q ≤ all → q ≤ rootQ sq all n q ∧ rootQ sq all n q ≤ all := by
  induction n with
  | zero => intro q hq; exact ⟨Int.le_refl _, hq⟩
  | succ n ih =>
    intro q hq
    rw [rootQ]
    split
    · rename_i hc
      have hne : q ≠ all := by
        rintro rfl
        have e : 2 * q - q = q := by omega
        rw [e] at hc
        omega
      have := ih (q + 1) (by omega)
      omega
    · omega
/-- The weights: whole roots. -/
def rootL (l : List Int) : List Int := l.map rootW
theorem rootL_mem {l : List Int} (h : ∀ x ∈ l, 1 ≤ x ∧ x ≤ 1000000) : ∀ y ∈ rootL l, 0 ≤ y ∧ y ≤ 1000 := by
  intro y hy
  obtain ⟨x, hx, rfl⟩ := List.mem_map.1 hy
  have := rootW_range (h x hx).1
  omega
theorem rootL_sum : ∀ l : List Int, (∀ x ∈ l, 1 ≤ x ∧ x ≤ 1000000) → (l.length : Int) ≤ (rootL l).sum
  | [], _ => by simp [rootL]
  | a :: r, h => by
    have h1 := rootL_sum r (fun x hx => h x (List.mem_cons_of_mem _ hx))
    have h2 := rootW_range (h a List.mem_cons_self).1
    have e : (rootL (a :: r)).sum = rootW a + (rootL r).sum := by simp [rootL]
    rw [e, List.length_cons]
    omega
theorem rootL_good {l : List Int} (h1 : 1 ≤ l.length) (h9 : l.length ≤ 9) (h : ∀ x ∈ l, 1 ≤ x ∧ x ≤ 1000000) : goodC (rootOf (rootL l)) (rootL l) = true := by
  have e : (rootL l).length = l.length := by simp [rootL]
  have hm := rootL_mem h
  have hs := rootL_sum l h
  have hq := rootQ_le (sqs_le_sq (rootL l) hm) 10000 (((rootL l).sum + 1) / 2) (by omega)
  exact goodC_iff.2 ⟨by omega, by omega, hm, by unfold rootOf; omega, by unfold rootOf; omega⟩
/-- The answer. -/
def rootC (l : List Int) : Int × List Int × Bool := if inB 1 9 (l.length : Int) = true ∧ l.all (inB 1 1000000) = true then (rootOf (rootL l), rootL l, true) else (0, [], false)
end Go.Proofs.YthjnmfacdlgbbaaW.PrintMore
