/- Plain words of mine: a committee has a winning set, a losing set and a swing; sums and counts are above nothing. No condition. -/
import Derived.Test.YtameadmmgnfefaaPow
namespace Go.Proofs.YtameadmmgnfefaaW.PrintMore
open Go.RowKit Go.Proofs.YtameadmmgnfefaaW.PrintWords Go.Proofs.YtameadmmgnfefaaW.PrintLast
set_option linter.unusedVariables false
theorem sum_one {l : List Int} (h : ∀ x ∈ l, 0 ≤ x) {x : Int} (hx : x ∈ l) (h1 : 1 ≤ x) : 1 ≤ l.sum := by
  induction l with
  | nil => cases hx
  | cons a r ih =>
    have ha := h a List.mem_cons_self
    have hr : 0 ≤ r.sum := by
      clear ih hx ha
      have h' : ∀ y ∈ r, 0 ≤ y := fun y hy => h y (List.mem_cons_of_mem _ hy)
      clear h
      induction r with
      | nil => simp
      | cons b s ih =>
        have := h' b List.mem_cons_self
        have := ih (fun y hy => h' y (List.mem_cons_of_mem _ hy))
        rw [List.sum_cons]
        omega
    rw [List.sum_cons]
    rcases List.mem_cons.1 hx with e | hx
    · omega
    · have := ih (fun y hy => h y (List.mem_cons_of_mem _ hy)) hx
      omega
theorem cntN_one {p : Nat → Bool} {N m : Nat} (hm : m < N) (h : p m = true) : 1 ≤ cntN p N := by
  unfold cntN
  have : m ∈ (List.range N).filter p := List.mem_filter.2 ⟨by simpa using hm, h⟩
  have := List.length_pos_of_mem this
  omega
theorem countL_one {ws : List Bool} {i : Nat} (h : i < ws.length) (hb : ws[i] = true) : 1 ≤ countL ws := by
  unfold countL
  have : true ∈ ws.filter id := List.mem_filter.2 ⟨hb ▸ List.getElem_mem h, rfl⟩
  have := List.length_pos_of_mem this
  omega
theorem countL_lt {ws : List Bool} {i : Nat} (h : i < ws.length) (hb : ws[i] = false) : countL ws + 1 ≤ ws.length := by
  unfold countL
  have h1 : (ws.filter id).length ≠ ws.length := by
    intro e
    have := List.length_filter_eq_length_iff.1 e (ws[i]) (List.getElem_mem h)
    rw [hb] at this
    cases this
  have := List.length_filter_le id ws
  omega
/-- The whole weight. -/
theorem wt_full (l : List Int) : wt l (2 ^ l.length - 1) = l.sum := by
  have h := wt_compl l 0 (Nat.two_pow_pos _)
  rw [wt_zero, Nat.sub_zero] at h
  rw [h, Int.sub_zero]
theorem wins_full {q : Int} {l : List Int} (h : goodC q l = true) : (winsC q l)[2 ^ l.length - 1]'(by rw [winsC_length]; have := Nat.two_pow_pos l.length; omega) = true := by
  obtain ⟨h1, h2, h3, h4, h5⟩ := goodC_iff.1 h
  rw [winsC_at, wt_full]
  exact decide_eq_true h5
theorem wins_none {q : Int} {l : List Int} (h : goodC q l = true) : (winsC q l)[0]'(by rw [winsC_length]; exact Nat.two_pow_pos _) = false := by
  obtain ⟨h1, h2, h3, h4, h5⟩ := goodC_iff.1 h
  rw [winsC_at, wt_zero]
  exact decide_eq_false (by omega)
theorem wins_count {q : Int} {l : List Int} (h : goodC q l = true) : 1 ≤ countL (winsC q l) ∧ countL (winsC q l) + 1 ≤ (winsC q l).length := ⟨countL_one _ (wins_full h), countL_lt _ (wins_none h)⟩
/-- From a set that loses to one that wins there is a step. -/
theorem swing_step (ws : List Bool) (n : Nat) (h0 : ws.getD 0 false = false) (h1 : ws.getD (2 ^ n - 1) false = true) : ∃ k, k < n ∧ isSw ws k (2 ^ k - 1) = true := by
  induction n with
  | zero => simp at h1; simp [h1] at h0
  | succ n ih =>
    cases hb : ws.getD (2 ^ n - 1) false with
    | true =>
      obtain ⟨k, hk, hs⟩ := ih hb
      exact ⟨k, by omega, hs⟩
    | false =>
      refine ⟨n, by omega, ?_⟩
      have hp := Nat.two_pow_pos n
      have e : 2 ^ n - 1 + 2 ^ n = 2 ^ (n + 1) - 1 := by rw [Nat.pow_succ]; omega
      rw [isSw, hb, e, h1, Nat.testBit_two_pow_sub_one]
      simp
theorem swings_sum {q : Int} {l : List Int} (h : goodC q l = true) : 1 ≤ (swingsC q l).sum := by
  have h9 := (goodC_iff.1 h).2.1
  have hw := winsC_length q l
  have hp := Nat.two_pow_pos l.length
  obtain ⟨k, hk, hs⟩ := swing_step (winsC q l) l.length (by rw [getD_at (by omega)]; exact wins_none h) (by rw [getD_at (by omega)]; exact wins_full h)
  have hle : 2 ^ k ≤ 2 ^ l.length := Nat.pow_le_pow_right (by omega) (by omega)
  have hk2 := Nat.two_pow_pos k
  exact sum_one (fun x hx => (swingsC_le q l h9 x hx).1) (List.mem_map.2 ⟨k, by simpa using hk, rfl⟩) (cntN_one (by omega) hs)
theorem swingsC_512 (q : Int) (l : List Int) (h9 : l.length ≤ 9) : ∀ x ∈ swingsC q l, 0 ≤ x ∧ x ≤ 512 := by
  intro x hx
  obtain ⟨k, _, rfl⟩ := List.mem_map.1 hx
  have h1 := cntN_le (isSw (winsC q l) k) (2 ^ l.length)
  have h2 := pow9 h9
  omega
theorem pivotsC_le (q : Int) (l : List Int) (h9 : l.length ≤ 9) : ∀ x ∈ pivotsC q l, 0 ≤ x ∧ x ≤ 67421872128000 := by
  intro x hx
  obtain ⟨k, _, rfl⟩ := List.mem_map.1 hx
  have h1 := sumN_le (p := isSw (winsC q l) k) (g := pivF l.length) (B := 362880 * 362880) (by decide) (pivF_le h9) (2 ^ l.length)
  have h2 := pow9 h9
  have h3 : ((2 ^ l.length : Nat) : Int) * (362880 * 362880) ≤ 512 * (362880 * 362880) := Int.mul_le_mul_of_nonneg_right (by omega) (by decide)
  omega
end Go.Proofs.YtameadmmgnfefaaW.PrintMore
