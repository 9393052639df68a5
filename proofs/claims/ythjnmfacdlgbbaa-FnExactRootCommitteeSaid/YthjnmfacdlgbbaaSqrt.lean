/- Plain words of mine on square roots of small whole numbers as the language's floats give them. No condition. -/
import Derived.Laws.FloatArith
import Derived.Laws.Cover2
import Derived.Laws.Externs
import Derived.Test.YthjnmfacdlgbbaaWWords
namespace Go.Proofs.YthjnmfacdlgbbaaW.PrintMore
open Ieee Go.RowKit
theorem cut_zero_drop (w : Toward) (n : Nat) : w.cut false n 0 = n := by
  unfold Toward.cut
  simp only [Nat.zero_le, Nat.min_eq_left, Nat.shiftLeft_zero, Nat.div_one, Nat.mod_one]
  cases w <;> simp
theorem log2_lt {n k : Nat} (h : n < 2 ^ (k + 1)) (h0 : n ≠ 0) : n.log2 ≤ k := by
  have := (Nat.log2_lt h0).2 h
  omega
theorem log2_le {n k : Nat} (h : 2 ^ k ≤ n) : k ≤ n.log2 := by
  have h0 : n ≠ 0 := by
    have := Nat.two_pow_pos k
    omega
  exact (Nat.le_log2 h0).2 h
/-- Finite words read back. -/
theorem read_mid {q r : Nat} (h1 : 1 ≤ q) (h2 : q ≤ 2000) (hr : r < 2 ^ 52) : double.read (q * 2 ^ 52 + r) = .number false (2 ^ 52 + r) (-1075 + (q : Int)) := by
  have e1 : double.signWeight = 2 ^ 63 := by decide
  have e2 : double.binade = 2 ^ 52 := by decide
  have e3 : double.infRung = 2047 * 2 ^ 52 := by decide
  have e4 : double.leastPlace = -1074 := by decide
  unfold Format.read
  rw [e1, e2, e3, e4]
  have hlt : q * 2 ^ 52 + r < 2 ^ 63 := by omega
  have a1 : (q * 2 ^ 52 + r) / 2 ^ 63 = 0 := Nat.div_eq_of_lt hlt
  have a2 : (q * 2 ^ 52 + r) % 2 ^ 63 = q * 2 ^ 52 + r := Nat.mod_eq_of_lt hlt
  have a3 : (q * 2 ^ 52 + r) % 2 ^ 52 = r := by rw [Nat.add_comm, Nat.add_mul_mod_self_right, Nat.mod_eq_of_lt hr]
  have a4 : (q * 2 ^ 52 + r) / 2 ^ 52 = q := by omega
  simp only [a1, a2, a3, a4]
  rw [if_neg (by omega), if_pos (by omega)]
  congr 1
  omega
/-- A whole number as a float. -/
theorem read_int {n : Nat} (h0 : 1 ≤ n) (h1 : n ≤ 1000000) : double.read (double.nearest false n 0) = .number false (n <<< (52 - n.log2)) ((n.log2 : Int) - 52) := by
  have hl : n.log2 ≤ 19 := log2_lt (by omega) (by omega)
  have b1 : 2 ^ n.log2 ≤ n := Nat.log2_self_le (by omega)
  have b2 : n < 2 ^ (n.log2 + 1) := Nat.lt_log2_self
  have e2 : double.binade = 2 ^ 52 := by decide
  have e3 : double.infRung = 2047 * 2 ^ 52 := by decide
  have e4 : double.leastPlace = -1074 := by decide
  have e5 : double.fractionBits = 52 := rfl
  generalize hL : n.log2 = L at hl b1 b2 ⊢
  have c1 : 2 ^ L * 2 ^ (52 - L) = 2 ^ 52 := by rw [← Nat.pow_add]; congr 1; omega
  have c2 : 2 ^ (L + 1) * 2 ^ (52 - L) = 2 ^ 53 := by rw [← Nat.pow_add]; congr 1; omega
  have hm1 : 2 ^ 52 ≤ n <<< (52 - L) := by rw [Nat.shiftLeft_eq, ← c1]; exact Nat.mul_le_mul_right _ b1
  have hm2 : n <<< (52 - L) < 2 ^ 53 := by rw [Nat.shiftLeft_eq, ← c2]; exact Nat.mul_lt_mul_of_pos_right b2 (Nat.two_pow_pos _)
  have hn0 : n ≠ 0 := by omega
  clear c1 c2 b1 b2
  unfold Format.nearest
  rw [if_neg hn0, e2, e3, e4, e5, hL]
  have d1 : max ((0 : Int) + (L : Int) - ((52 : Nat) : Int)) (-1074) = (L : Int) - 52 := by omega
  simp only [d1]
  have d2 : ((0 : Int) - ((L : Int) - 52)).toNat = 52 - L := by omega
  have d3 : ((L : Int) - 52 - 0).toNat = 0 := by omega
  have d4 : ((L : Int) - 52 - -1074).toNat = L + 1022 := by omega
  rw [d2, d3, d4, cut_zero_drop]
  generalize n <<< (52 - L) = m at hm1 hm2 ⊢
  clear d1 d2 d3 d4 e2 e3 e4 e5 hL hn0 h0 h1
  have d5 : min ((L + 1022) * 2 ^ 52 + m) (2047 * 2 ^ 52) = (L + 1023) * 2 ^ 52 + (m - 2 ^ 52) := by omega
  rw [d5]
  have h := read_mid (q := L + 1023) (r := m - 2 ^ 52) (by omega) (by omega) (by omega)
  simp only [Format.word, Bool.false_eq_true, if_false]
  rw [h, show 2 ^ 52 + (m - 2 ^ 52) = m by omega, show (-1075 : Int) + ((L + 1023 : Nat) : Int) = (L : Int) - 52 by omega]
theorem rootFrom_lt (n : Nat) : ∀ (todo root : Nat), Datum.rootFrom n todo root < root + 2 ^ todo := by
  intro todo
  induction todo with
  | zero => intro root; simp [Datum.rootFrom]
  | succ t ih =>
    intro root
    have h1 : 1 <<< t = 2 ^ t := by rw [Nat.shiftLeft_eq, Nat.one_mul]
    have h2 : 2 ^ (t + 1) = 2 ^ t + 2 ^ t := by rw [Nat.pow_succ]; omega
    show Datum.rootFrom n t (if (root + 1 <<< t) * (root + 1 <<< t) ≤ n then root + 1 <<< t else root) < _
    rw [h1, h2]
    generalize 2 ^ t = T at ih ⊢
    split
    · have := ih (root + T)
      omega
    · have := ih root
      omega
/-- A number below 2^11 or so, written and read, made whole. -/
theorem small_whole {M : Nat} {p : Int} (hM : M < 2 ^ 56) (h1 : -60 ≤ p) (h2 : p ≤ -46) : ∃ r : Nat, (double.read (double.nearest false M p)).toInt .zero = some (r : Int) ∧ r ≤ 4096 := by
  have e2 : double.binade = 2 ^ 52 := by decide
  have e3 : double.infRung = 2047 * 2 ^ 52 := by decide
  have e4 : double.leastPlace = -1074 := by decide
  have e5 : double.fractionBits = 52 := rfl
  by_cases hz : M = 0
  · subst hz
    refine ⟨0, ?_, by omega⟩
    unfold Format.nearest
    rw [if_pos rfl]
    decide +kernel
  have hl : M.log2 ≤ 55 := log2_lt hM hz
  have b2 : M < 2 ^ (M.log2 + 1) := Nat.lt_log2_self
  unfold Format.nearest
  rw [if_neg hz, e2, e3, e4, e5]
  clear e2 e3 e4 e5
  generalize hL : M.log2 = L at hl b2 ⊢
  have d1 : max (p + (L : Int) - ((52 : Nat) : Int)) (-1074) = p + (L : Int) - 52 := by omega
  simp only [d1]
  have hk : Toward.even.cut false (M <<< (p - (p + (L : Int) - 52)).toNat) (p + (L : Int) - 52 - p).toNat ≤ 2 ^ 53 := by
    by_cases hc : L ≤ 52
    · have d2 : (p - (p + (L : Int) - 52)).toNat = 52 - L := by omega
      have d3 : (p + (L : Int) - 52 - p).toNat = 0 := by omega
      have c2 : 2 ^ (L + 1) * 2 ^ (52 - L) = 2 ^ 53 := by rw [← Nat.pow_add]; congr 1; omega
      rw [d2, d3, cut_zero_drop, Nat.shiftLeft_eq, ← c2]
      exact Nat.mul_le_mul_right _ (Nat.le_of_lt b2)
    · have d2 : (p - (p + (L : Int) - 52)).toNat = 0 := by omega
      obtain ⟨d, hd⟩ : ∃ d, L = 52 + d := ⟨L - 52, by omega⟩
      have d3 : (p + (L : Int) - 52 - p).toNat = d := by omega
      rw [d2, d3, Nat.shiftLeft_zero]
      unfold Toward.cut
      have hmin : min d (M.log2 + 2) = d := by omega
      have c2 : 2 ^ 53 * 2 ^ d = 2 ^ (L + 1) := by rw [← Nat.pow_add]; congr 1; omega
      have hdiv : M / (1 <<< d) < 2 ^ 53 := by
        rw [Nat.shiftLeft_eq, Nat.one_mul]
        exact Nat.div_lt_of_lt_mul (by rw [Nat.mul_comm, c2]; exact b2)
      simp only [hmin]
      refine Nat.le_trans (Nat.add_le_add_left (show _ ≤ 1 from ?_) _) (by omega)
      exact Bool.toNat_le _
  generalize Toward.even.cut false (M <<< (p - (p + (L : Int) - 52)).toNat) (p + (L : Int) - 52 - p).toNat = kept at hk ⊢
  obtain ⟨q, hq⟩ : ∃ q : Nat, q = (p + (L : Int) - 52 - -1074).toNat := ⟨_, rfl⟩
  rw [← hq]
  have hq1 : (q : Int) = p + L - 52 + 1074 := by omega
  have hmin : min (q * 2 ^ 52 + kept) (2047 * 2 ^ 52) = q * 2 ^ 52 + kept := by omega
  have hsplit : q * 2 ^ 52 + kept = (q + kept / 2 ^ 52) * 2 ^ 52 + kept % 2 ^ 52 := by omega
  simp only [Format.word, Bool.false_eq_true, if_false, hmin]
  rw [hsplit, read_mid (by omega) (by omega) (Nat.mod_lt _ (by omega))]
  have hmag : 2 ^ 52 + kept % 2 ^ 52 < 2 ^ 53 := by omega
  have hplace : (-1075 : Int) + ((q + kept / 2 ^ 52 : Nat) : Int) ≤ -42 := by omega
  generalize 2 ^ 52 + kept % 2 ^ 52 = mag at hmag ⊢
  generalize (-1075 : Int) + ((q + kept / 2 ^ 52 : Nat) : Int) = pl at hplace ⊢
  unfold Datum.toInt Datum.integral
  have t1 : pl.toNat = 0 := by omega
  obtain ⟨dr, hdr⟩ : ∃ dr : Nat, dr = (-pl).toNat := ⟨_, rfl⟩
  dsimp only
  rw [t1, Nat.shiftLeft_zero, ← hdr]
  refine ⟨Toward.zero.cut false mag dr, by simp [signed], ?_⟩
  unfold Toward.cut
  simp only [Bool.toNat_false, Nat.add_zero]
  rw [Nat.shiftLeft_eq, Nat.one_mul]
  rcases Nat.le_total dr (mag.log2 + 2) with h | h
  · rw [Nat.min_eq_left h]
    have h3 : 2 ^ 42 ≤ 2 ^ dr := Nat.pow_le_pow_right (by omega) (by omega)
    have h4 : mag / 2 ^ dr ≤ mag / 2 ^ 42 := Nat.div_le_div_left h3 (by omega)
    omega
  · rw [Nat.min_eq_right h]
    have h3 : mag < 2 ^ (mag.log2 + 2) := Nat.lt_of_lt_of_le Nat.lt_log2_self (Nat.pow_le_pow_right (by omega) (by omega))
    rw [Nat.div_eq_of_lt h3]
    omega
theorem frac : double.fractionBits = 52 := rfl
theorem of_int (n : Nat) : floatOfInt .f64 (n : Int) = double.nearest false n 0 := by
  show double.write (.number (decide ((n : Int) < 0)) (n : Int).natAbs 0) = _
  rw [decide_eq_false (by omega), Int.natAbs_natCast]
  rfl
/-- int(math.Sqrt(float64(n))) is some number that is not great. -/
theorem sqrt_small {n : Int} (h0 : 1 ≤ n) (h1 : n ≤ 1000000) : ∃ (s : Nat) (r : Nat), FloatKind.f64.format.sqrt (floatOfInt .f64 n) = some s ∧ floatToIntVal .f64 s .i64 = some (r : Int) ∧ r ≤ 4096 := by
  obtain ⟨n, rfl⟩ := Int.eq_ofNat_of_zero_le (show 0 ≤ n by omega)
  have hl : n.log2 ≤ 19 := log2_lt (by omega) (by omega)
  have b1 : 2 ^ n.log2 ≤ n := Nat.log2_self_le (by omega)
  have b2 : n < 2 ^ (n.log2 + 1) := Nat.lt_log2_self
  have hr := read_int (n := n) (by omega) (by omega)
  generalize hL : n.log2 = L at hl b1 b2 hr
  have c1 : 2 ^ L * 2 ^ (52 - L) = 2 ^ 52 := by rw [← Nat.pow_add]; congr 1; omega
  have c2 : 2 ^ (L + 1) * 2 ^ (52 - L) = 2 ^ 53 := by rw [← Nat.pow_add]; congr 1; omega
  have hm1 : 2 ^ 52 ≤ n <<< (52 - L) := by rw [Nat.shiftLeft_eq, ← c1]; exact Nat.mul_le_mul_right _ b1
  have hm2 : n <<< (52 - L) < 2 ^ 53 := by rw [Nat.shiftLeft_eq, ← c2]; exact Nat.mul_lt_mul_of_pos_right b2 (Nat.two_pow_pos _)
  generalize n <<< (52 - L) = m at hm1 hm2 hr
  have hml : m.log2 = 52 := Nat.le_antisymm (log2_lt hm2 (by omega)) (log2_le hm1)
  show ∃ (s : Nat) (r : Nat), double.sqrt (floatOfInt .f64 (n : Int)) = some s ∧ _
  rw [of_int]
  unfold Format.sqrt
  rw [hr, frac]
  clear hr c1 c2 b1 b2 hL h0 h1
  unfold Datum.root
  dsimp only
  rw [if_neg (by omega)]
  simp only [hml, Bool.false_eq_true, if_false]
  obtain ⟨t, ht⟩ : ∃ t : Nat, t = (((L : Int) - 52 - ((2 * (52 + 2) - 52 : Nat) : Int)) % 2).toNat := ⟨_, rfl⟩
  rw [← ht]
  have ht1 : t ≤ 1 := by omega
  have hn2 : (m <<< (2 * (52 + 2) - 52 + t)).log2 / 2 + 1 ≤ 55 := by
    have h3 : m <<< (2 * (52 + 2) - 52 + t) < 2 ^ (109 + 1) := by
      rw [Nat.shiftLeft_eq]
      have h4 : 2 ^ (2 * (52 + 2) - 52 + t) ≤ 2 ^ 57 := Nat.pow_le_pow_right (by omega) (by omega)
      have h5 : m * 2 ^ (2 * (52 + 2) - 52 + t) ≤ m * 2 ^ 57 := Nat.mul_le_mul_left _ h4
      omega
    have h6 : m <<< (2 * (52 + 2) - 52 + t) ≠ 0 := by
      rw [Nat.shiftLeft_eq]
      exact Nat.ne_of_gt (Nat.mul_pos (by omega) (Nat.two_pow_pos _))
    have := log2_lt h3 h6
    omega
  generalize m <<< (2 * (52 + 2) - 52 + t) = N at hn2 ⊢
  have hw := rootFrom_lt N (N.log2 / 2 + 1) 0
  have hw2 : 2 ^ (N.log2 / 2 + 1) ≤ 2 ^ 55 := Nat.pow_le_pow_right (by omega) hn2
  generalize Datum.rootFrom N (N.log2 / 2 + 1) 0 = wh at hw ⊢
  have hb : (wh * wh != N).toNat ≤ 1 := Bool.toNat_le _
  obtain ⟨r, hr1, hr2⟩ := small_whole (M := 2 * wh + (wh * wh != N).toNat) (p := ((L : Int) - 52 - ((2 * (52 + 2) - 52 + t : Nat) : Int)) / 2 - 1) (by omega) (by omega) (by omega)
  refine ⟨_, r, rfl, ?_, hr2⟩
  unfold floatToIntVal
  have e6 : FloatKind.f64.decode (double.write (Datum.number false (2 * wh + (wh * wh != N).toNat) (((L : Int) - 52 - ((2 * (52 + 2) - 52 + t : Nat) : Int)) / 2 - 1))) = double.read (double.nearest false (2 * wh + (wh * wh != N).toNat) (((L : Int) - 52 - ((2 * (52 + 2) - 52 + t : Nat) : Int)) / 2 - 1)) := rfl
  rw [e6, hr1]
  have m0 : IntKind.min .i64 = -9223372036854775808 := by decide
  have m1 : IntKind.max .i64 = 9223372036854775807 := by decide
  simp only [m0, m1]
  rw [if_pos (by omega)]
/-- The whole root of a number that is not great. -/
def rootW (n : Int) : Int := (List.range 1000).foldl (fun (r : Int) _ => if (r + 1) * (r + 1) ≤ n then r + 1 else r) 0
theorem rootW_only {n r : Int} (h0 : 0 ≤ r) (h1 : r ≤ 1000) (h2 : r * r ≤ n) (h3 : n < (r + 1) * (r + 1)) : rootW n = r := by
  have h : ∀ m : Nat, (List.range m).foldl (fun (r : Int) _ => if (r + 1) * (r + 1) ≤ n then r + 1 else r) 0 = min r (m : Int) := by
    intro m
    induction m with
    | zero => simp; omega
    | succ m ih =>
      rw [List.range_succ, List.foldl_append, ih, List.foldl_cons, List.foldl_nil]
      by_cases hc : (m : Int) < r
      · rw [show min r (m : Int) = (m : Int) by omega]
        have h4 : ((m : Int) + 1) * ((m : Int) + 1) ≤ r * r := Int.mul_le_mul (by omega) (by omega) (by omega) (by omega)
        rw [if_pos (Int.le_trans h4 h2)]
        omega
      · rw [show min r (m : Int) = r by omega, if_neg (Int.not_le.2 h3)]
        omega
  unfold rootW
  rw [h 1000]
  omega
theorem sq_bounds {r : Int} (h0 : 0 ≤ r) (h1 : r ≤ 4100) : 0 ≤ r * r ∧ r * r ≤ 16810000 := by
  have p := Int.mul_nonneg h0 h0
  have q := Int.mul_le_mul h1 h1 h0 (by omega)
  omega
theorem root_small {n r : Int} (h0 : 0 ≤ r) (h1 : n ≤ 1000000) (h2 : r * r ≤ n) : r ≤ 1000 := by
  rcases Int.lt_or_le 1000 r with h | h
  · have q := Int.mul_le_mul (show (1001 : Int) ≤ r by omega) (show (1001 : Int) ≤ r by omega) (by omega) h0
    omega
  · exact h
end Go.Proofs.YthjnmfacdlgbbaaW.PrintMore
