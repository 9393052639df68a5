/- Plain words of mine on the quota by squares, and on the greatest number of a list. No condition. -/
import Derived.Test.YthjnmfacdlgbbaaEv
namespace Go.Proofs.YthjnmfacdlgbbaaW.PrintMore
open Go.RowKit Go.Proofs.YthjnmfacdlgbbaaW.PrintWords Go.Proofs.YthjnmfacdlgbbaaW.PrintLast
set_option linter.unusedVariables false
/-- The first quota from q on, n rounds at the most. -/
def rootQ (sq all : Int) : Nat → Int → Int
  | 0, q => q
  | n + 1, q => if (2 * q - all) * (2 * q - all) < sq then rootQ sq all n (q + 1) else q
def sqs (l : List Int) : Int := (l.map fun x => x * x).sum
def rootOf (l : List Int) : Int := rootQ (sqs l) l.sum 10000 ((l.sum + 1) / 2)
def rootV (l : List Int) : Int × Bool := if inB 1 9 (l.length : Int) = true ∧ l.all (inB 0 1000) = true ∧ l.sum ≠ 0 then (rootOf l, true) else (0, false)
def maxL (l : List Int) : Int := l.tail.foldl (fun a b => mx a b) (l.getD 0 0)
theorem sqs_take {l : List Int} {i : Nat} (h : i < l.length) : sqs (l.take (i + 1)) = sqs (l.take i) + l[i] * l[i] := by
  unfold sqs
  rw [List.take_succ_eq_append_getElem h, List.map_append, List.sum_append]
  simp
theorem sqs_le {l : List Int} (h : ∀ x ∈ l, 0 ≤ x ∧ x ≤ 1000) : 0 ≤ sqs l ∧ sqs l ≤ l.length * 1000000 := by
  unfold sqs
  have := sum_le (l := l.map fun x => x * x) (B := 1000000) (fun y hy => by
    obtain ⟨x, hx, rfl⟩ := List.mem_map.1 hy
    obtain ⟨h0, h1⟩ := h x hx
    have := Int.mul_nonneg h0 h0
    have h2 := Int.mul_le_mul_of_nonneg_left h1 h0
    exact ⟨this, by omega⟩)
  simpa using this
theorem foldl_mx (l : List Int) : ∀ m : Int, m ≤ l.foldl (fun a b => mx a b) m ∧ (∀ x ∈ l, x ≤ l.foldl (fun a b => mx a b) m) ∧ (l.foldl (fun a b => mx a b) m = m ∨ l.foldl (fun a b => mx a b) m ∈ l) := by
  induction l with
  | nil => intro m; simp
  | cons a r ih =>
    intro m
    obtain ⟨h1, h2, h3⟩ := ih (mx m a)
    have h4 : m ≤ mx m a ∧ a ≤ mx m a ∧ (mx m a = m ∨ mx m a = a) := by unfold mx; split <;> omega
    rw [List.foldl_cons]
    refine ⟨by omega, ?_, ?_⟩
    · intro x hx
      rcases List.mem_cons.1 hx with rfl | hx
      · omega
      · exact h2 x hx
    · rcases h3 with h3 | h3
      · rcases h4.2.2 with h5 | h5
        · exact .inl (h3.trans h5)
        · exact .inr (by rw [h3, h5]; exact List.mem_cons_self)
      · exact .inr (List.mem_cons_of_mem _ h3)
theorem maxL_spec {l : List Int} (h : 0 < l.length) : (∀ x ∈ l, x ≤ maxL l) ∧ maxL l ∈ l := by
  match l, h with
  | a :: r, _ =>
    obtain ⟨h1, h2, h3⟩ := foldl_mx r a
    have e : maxL (a :: r) = r.foldl (fun a b => mx a b) a := rfl
    rw [e]
    refine ⟨fun x hx => ?_, ?_⟩
    · rcases List.mem_cons.1 hx with rfl | hx
      · exact h1
      · exact h2 x hx
    · rcases h3 with h3 | h3
      · rw [h3]; exact List.mem_cons_self
      · exact List.mem_cons_of_mem _ h3
theorem max_zero {l : List Int} (h : 0 < l.length) (h0 : ∀ x ∈ l, 0 ≤ x ∧ x ≤ 1000) : (maxL l == 0) = (decide (l.sum = 0)) := by
  obtain ⟨h1, h2⟩ := maxL_spec h
  by_cases hm : maxL l = 0
  · have : ∀ x ∈ l, 0 ≤ x ∧ x ≤ 0 := fun x hx => ⟨(h0 x hx).1, by have := h1 x hx; omega⟩
    have := sum_le this
    have e : l.sum = 0 := by omega
    simp [hm, e]
  · have hs : maxL l ≤ l.sum := by
      obtain ⟨s, t, e⟩ := List.append_of_mem h2
      have h3 : l.sum = s.sum + (maxL l + t.sum) := by
        have := congrArg List.sum e
        rwa [List.sum_append, List.sum_cons] at this
      have h4 := (sum_le (l := s) (B := 1000) (fun x hx => h0 x (by rw [e]; exact List.mem_append_left _ hx))).1
      have h5 := (sum_le (l := t) (B := 1000) (fun x hx => h0 x (by rw [e]; exact List.mem_append_right _ (List.mem_cons_of_mem _ hx)))).1
      omega
    have := (h0 _ h2).1
    have e : ¬ l.sum = 0 := by omega
    simp [hm, e]
/-- Does a round go on? As the printed functions compute it. -/
theorem root_test {sq all q : Int} (h0 : 0 ≤ all) (h1 : all ≤ 10000) (h2 : 0 ≤ q) (h3 : q ≤ 40000) :
    wrap64 ((wrap64 ((wrap64 (2 * q)) - all)) * (wrap64 ((wrap64 (2 * q)) - all))) = (2 * q - all) * (2 * q - all) := by
  rw [wrap_id (x := 2 * q) (by omega) (by omega), wrap_id (x := 2 * q - all) (by omega) (by omega)]
  have h4 : (2 * q - all) * (2 * q - all) ≤ 100000 * 100000 := by
    by_cases h : 0 ≤ 2 * q - all
    · exact Int.mul_le_mul (by omega) (by omega) h (by omega)
    · have := Int.mul_le_mul (show -(2 * q - all) ≤ 100000 by omega) (show -(2 * q - all) ≤ 100000 by omega) (by omega) (by omega)
      rwa [Int.neg_mul_neg] at this
  have h5 : 0 ≤ (2 * q - all) * (2 * q - all) := by
    by_cases h : 0 ≤ 2 * q - all
    · exact Int.mul_nonneg h h
    · have := Int.mul_nonneg (show 0 ≤ -(2 * q - all) by omega) (show 0 ≤ -(2 * q - all) by omega)
      rwa [Int.neg_mul_neg] at this
  exact wrap_id (by omega) (by omega)
theorem root_far {sq all q : Int} (h0 : 0 ≤ all) (h1 : all ≤ 10000) (h2 : 10000 ≤ q) (h3 : sq ≤ 10000000) : ¬ (2 * q - all) * (2 * q - all) < sq := by
  have := Int.mul_le_mul (show 10000 ≤ 2 * q - all by omega) (show 10000 ≤ 2 * q - all by omega) (by omega) (by omega)
  omega
end Go.Proofs.YthjnmfacdlgbbaaW.PrintMore
