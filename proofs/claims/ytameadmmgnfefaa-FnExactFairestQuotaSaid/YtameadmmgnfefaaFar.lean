/- Plain words of mine: fractions over one number, told in lowest terms, are as far apart as the numbers; a member is the pivot of n! orders at most. No condition. -/
import Derived.Test.YtameadmmgnfefaaChain
namespace Go.Proofs.YtameadmmgnfefaaW.PrintMore
open Go.RowKit Go.Proofs.YtameadmmgnfefaaW.PrintWords Go.Proofs.YtameadmmgnfefaaW.PrintLast
set_option linter.unusedVariables false
theorem shareO_nat (a d : Nat) : shareO (a : Int) (d : Int) = (((a / Nat.gcd a d : Nat) : Int), ((d / Nat.gcd a d : Nat) : Int)) := rfl
theorem share_scale {k a d : Int} (hk : 1 ≤ k) (ha : 0 ≤ a) (hd : 0 ≤ d) : shareO (k * a) (k * d) = shareO a d := by
  obtain ⟨K, rfl⟩ := Int.eq_ofNat_of_zero_le (show 0 ≤ k by omega)
  obtain ⟨A, rfl⟩ := Int.eq_ofNat_of_zero_le ha
  obtain ⟨D, rfl⟩ := Int.eq_ofNat_of_zero_le hd
  rw [← Int.natCast_mul, ← Int.natCast_mul, shareO_nat, shareO_nat, Nat.gcd_mul_left, Nat.mul_div_mul_left _ _ (by omega), Nat.mul_div_mul_left _ _ (by omega)]
theorem share_val {a d : Int} (ha : 0 ≤ a) (hd : 1 ≤ d) : ∃ g : Int, 1 ≤ g ∧ a = g * (shareO a d).1 ∧ d = g * (shareO a d).2 ∧ 0 ≤ (shareO a d).1 ∧ 1 ≤ (shareO a d).2 := by
  obtain ⟨A, rfl⟩ := Int.eq_ofNat_of_zero_le ha
  obtain ⟨D, rfl⟩ := Int.eq_ofNat_of_zero_le (show 0 ≤ d by omega)
  have hg : 0 < Nat.gcd A D := Nat.gcd_pos_of_pos_right _ (by omega)
  have h1 := Nat.mul_div_cancel' (Nat.gcd_dvd_left A D)
  have h2 := Nat.mul_div_cancel' (Nat.gcd_dvd_right A D)
  have h3 : 0 < D / Nat.gcd A D := Nat.div_pos (Nat.le_of_dvd (by omega) (Nat.gcd_dvd_right A D)) hg
  refine ⟨(Nat.gcd A D : Int), by omega, ?_, ?_, ?_, ?_⟩
  · rw [shareO_nat, ← Int.natCast_mul, h1]
  · rw [shareO_nat, ← Int.natCast_mul, h2]
  · rw [shareO_nat]; exact Int.natCast_nonneg _
  · rw [shareO_nat]; show (1 : Int) ≤ ((D / Nat.gcd A D : Nat) : Int); omega
theorem shareO_bd {n d : Int} (hn : 0 ≤ n) (hd : 1 ≤ d) : 0 ≤ (shareO n d).1 ∧ (shareO n d).1 ≤ n ∧ 0 ≤ (shareO n d).2 ∧ (shareO n d).2 ≤ d := by
  unfold shareO
  have h1 := Nat.div_le_self n.toNat (Nat.gcd n.toNat d.toNat)
  have h2 := Nat.div_le_self d.toNat (Nat.gcd n.toNat d.toNat)
  refine ⟨Int.natCast_nonneg _, ?_, Int.natCast_nonneg _, ?_⟩
  · exact Int.le_trans (Int.ofNat_le.2 h1) (by omega)
  · exact Int.le_trans (Int.ofNat_le.2 h2) (by omega)
theorem pos_right {m y : Int} (hm : 1 ≤ m) (h : 0 < m * y) : 0 < y := by
  by_cases hy : 0 < y
  · exact hy
  · have := Int.mul_nonneg (show 0 ≤ m by omega) (show 0 ≤ -y by omega)
    rw [Int.mul_neg] at this
    omega
theorem sgn_scale {k m x y : Int} (hk : 1 ≤ k) (hm : 1 ≤ m) (h : k * x = m * y) : sgn x = sgn y := by
  have hx : x = 0 ∨ 0 < x ∨ x < 0 := by omega
  rcases hx with rfl | hx | hx
  · rw [Int.mul_zero] at h
    have : y = 0 := by
      rcases Int.mul_eq_zero.1 h.symm with e | e
      · omega
      · exact e
    rw [this]
  · have h1 : 0 < m * y := by rw [← h]; exact Int.mul_pos (by omega) hx
    have h2 : 0 < y := pos_right hm h1
    unfold sgn
    rw [if_pos hx, if_pos h2]
  · have h1 : 0 < m * (-y) := by
      have : 0 < k * (-x) := Int.mul_pos (by omega) (by omega)
      rw [Int.mul_neg, h] at this
      rwa [Int.mul_neg]
    have h2 : 0 < -y := pos_right hm h1
    unfold sgn
    rw [if_neg (by omega), if_pos hx, if_neg (by omega), if_pos (by omega)]
theorem share_cmp {a b d : Int} (ha : 0 ≤ a) (hb : 0 ≤ b) (hd : 1 ≤ d) : sgn ((shareO a d).1 * (shareO b d).2 - (shareO b d).1 * (shareO a d).2) = sgn (a - b) := by
  obtain ⟨g, hg, h1, h2, _, _⟩ := share_val ha hd
  obtain ⟨g', hg', h3, h4, _, _⟩ := share_val hb hd
  generalize (shareO a d).1 = a1 at *
  generalize (shareO a d).2 = d1 at *
  generalize (shareO b d).1 = b1 at *
  generalize (shareO b d).2 = d2 at *
  have hk : 1 ≤ g * g' := Int.mul_pos (by omega) (by omega)
  refine sgn_scale (k := g * g') (m := d) hk hd ?_
  have e1 : g * g' * (a1 * d2 - b1 * d1) = (g * a1) * (g' * d2) - (g' * b1) * (g * d1) := by grind
  rw [e1, ← h1, ← h2, ← h3, ← h4]
  grind
def absI (a : Int) : Int := if a > -a then a else -a
theorem absI_nonneg (a : Int) : 0 ≤ absI a := by unfold absI; split <;> omega
theorem absI_mul {k a : Int} (hk : 1 ≤ k) : absI (k * a) = k * absI a := by
  unfold absI
  by_cases h : a > 0
  · have : 0 < k * a := Int.mul_pos (by omega) h
    rw [if_pos (by omega), if_pos (by omega)]
  · have h1 : 0 ≤ k * (-a) := Int.mul_nonneg (by omega) (by omega)
    rw [Int.mul_neg] at h1
    by_cases e : k * a > -(k * a)
    · omega
    · rw [if_neg e, if_neg (by omega), Int.mul_neg]
/-- How far two fractions are apart. -/
theorem off_eq {p N w S : Int} (hp : 0 ≤ p) (hN : 1 ≤ N) (hw : 0 ≤ w) (hS : 1 ≤ S) : shareO (absI ((shareO p N).1 * (shareO w S).2 - (shareO w S).1 * (shareO p N).2)) ((shareO p N).2 * (shareO w S).2) = shareO (absI (p * S - w * N)) (N * S) := by
  obtain ⟨g, hg, h1, h2, _, h5⟩ := share_val hp hN
  obtain ⟨g', hg', h3, h4, _, h6⟩ := share_val hw hS
  generalize (shareO p N).1 = a1 at *
  generalize (shareO p N).2 = d1 at *
  generalize (shareO w S).1 = b1 at *
  generalize (shareO w S).2 = d2 at *
  have hk : 1 ≤ g * g' := Int.mul_pos (by omega) (by omega)
  have e1 : p * S - w * N = g * g' * (a1 * d2 - b1 * d1) := by rw [h1, h2, h3, h4]; grind
  have e2 : N * S = g * g' * (d1 * d2) := by rw [h2, h4]; grind
  have hd : 0 ≤ d1 * d2 := Int.mul_nonneg (by omega) (by omega)
  rw [e1, e2, absI_mul hk, share_scale hk (absI_nonneg _) hd]
/-- All orders. -/
theorem orders_all : ∀ n, n < 10 → ∀ k, k < n → sumN (fun m => !m.testBit k) (pivF n) (2 ^ n) = facI (n : Int) := by decide +kernel
theorem sumN_mono {p p' : Nat → Bool} {g : Nat → Int} (hp : ∀ m, p m = true → p' m = true) (hg : ∀ m, 0 ≤ g m) : ∀ i, sumN p g i ≤ sumN p' g i := by
  intro i
  induction i with
  | zero => simp [sumN]
  | succ i ih =>
    have := hg i
    rw [sumN, sumN]
    by_cases h : p i = true
    · rw [if_pos h, if_pos (hp i h)]; omega
    · rw [if_neg h]
      split <;> omega
theorem pivotsC_fac (q : Int) (l : List Int) (h9 : l.length ≤ 9) : ∀ x ∈ pivotsC q l, 0 ≤ x ∧ x ≤ facI (l.length : Int) := by
  intro x hx
  refine ⟨(pivotsC_le q l h9 x hx).1, ?_⟩
  obtain ⟨k, hk, rfl⟩ := List.mem_map.1 hx
  rw [← orders_all l.length (by omega) k (by simpa using hk)]
  exact sumN_mono (fun m h => by simp only [isSw, Bool.and_eq_true] at h; exact h.1.1) (fun m => (pivF_le h9 m).1) _
/-- How far the member furthest off is off, over n! times the whole weight, for the first i members. -/
def farF (q : Int) (l : List Int) : Nat → Int
  | 0 => 0
  | i + 1 => mx (mx (farF q l i) ((pivotsC q l).getD i 0 * l.sum - l.getD i 0 * facI (l.length : Int))) (-((pivotsC q l).getD i 0 * l.sum - l.getD i 0 * facI (l.length : Int)))
def farC (q : Int) (l : List Int) : Int := farF q l l.length
end Go.Proofs.YtameadmmgnfefaaW.PrintMore
