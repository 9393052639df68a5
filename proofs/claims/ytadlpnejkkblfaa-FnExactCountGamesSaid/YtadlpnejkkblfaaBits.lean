/- Plain words of mine on sets told by bits: tests, shifts, unions, what is left of all; the weight of a set. No condition. -/
import Derived.Test.YtadlpnejkkblfaaEv
import Derived.Laws.BitsLemmas
namespace Go.Proofs.YtadlpnejkkblfaaW.PrintMore
open Go.RowKit Go.Proofs.YtadlpnejkkblfaaW.PrintWords Go.Proofs.YtadlpnejkkblfaaW.PrintLast
set_option linter.unusedVariables false
theorem wraps_i64 (n : Int) (h0 : 0 ≤ n) (h1 : n < 2 ^ 63) : IntKind.i64.wrap n = n := by rw [IntKind.wrap_i64]; omega
theorem and_nat {a b : Nat} (ha : a < 2 ^ 63) (hb : b < 2 ^ 63) : Go.bits .and .i64 (a : Int) (b : Int) = ((a &&& b : Nat) : Int) := (bits_nat .i64 63 (by decide) wraps_i64 a b ha hb).1
theorem or_nat {a b : Nat} (ha : a < 2 ^ 63) (hb : b < 2 ^ 63) : Go.bits .or .i64 (a : Int) (b : Int) = ((a ||| b : Nat) : Int) := (bits_nat .i64 63 (by decide) wraps_i64 a b ha hb).2
theorem shr_nat (m i : Nat) (hi : i ≤ 64) : shr .i64 (m : Int) (i : Int) = ((m / 2 ^ i : Nat) : Int) := by
  unfold shr
  have e : min (i : Int).toNat IntKind.i64.bits = i := by
    have : IntKind.i64.bits = 64 := rfl
    omega
  rw [e]
  simp
theorem shl_one {i : Nat} (hi : i ≤ 62) : shl .i64 1 (i : Int) = ((2 ^ i : Nat) : Int) := by
  unfold shl
  have e : min (i : Int).toNat IntKind.i64.bits = i := by
    have : IntKind.i64.bits = 64 := rfl
    omega
  rw [e, Int.one_mul]
  have h := Nat.pow_le_pow_right (n := 2) (by omega) hi
  have e2 : ((2 : Int) ^ i) = ((2 ^ i : Nat) : Int) := by simp
  rw [e2]
  exact wraps_i64 _ (Int.natCast_nonneg _) (by omega)
theorem bit_iff (m i : Nat) : m / 2 ^ i % 2 = 1 ↔ m.testBit i = true := by
  rw [Nat.testBit_eq_decide_div_mod_eq, decide_eq_true_eq]
/-- Has the set told by m the member i? As 'm >> i & 1 == 1'. -/
theorem has_nat {m i : Nat} (hm : m < 2 ^ 63) (hi : i ≤ 64) : (Go.bits .and .i64 (shr .i64 (m : Int) (i : Int)) 1 == 1) = m.testBit i := by
  rw [shr_nat m i hi]
  have h1 : m / 2 ^ i < 2 ^ 63 := Nat.lt_of_le_of_lt (Nat.div_le_self _ _) hm
  have h2 := and_nat (a := m / 2 ^ i) (b := 1) h1 (by decide)
  rw [show ((1 : Nat) : Int) = 1 from rfl] at h2
  rw [h2, Nat.and_one_is_mod, Nat.testBit_eq_decide_div_mod_eq]
  rw [Bool.eq_iff_iff, beq_iff_eq, decide_eq_true_eq]
  omega
/-- As 'm >> i % 2 == 1'. -/
theorem mod_nat (m i : Nat) (hi : i ≤ 64) : (Int.tmod (shr .i64 (m : Int) (i : Int)) 2 = 1) ↔ m.testBit i = true := by
  rw [shr_nat m i hi, ← bit_iff]
  have e : Int.tmod ((m / 2 ^ i : Nat) : Int) 2 = ((m / 2 ^ i % 2 : Nat) : Int) := by
    have := Int.ofNat_tmod (m / 2 ^ i) 2
    rw [this]
    rfl
  rw [e]
  omega
theorem mod_nat0 (m i : Nat) (hi : i ≤ 64) : (Int.tmod (shr .i64 (m : Int) (i : Int)) 2 = 0) ↔ m.testBit i = false := by
  rw [shr_nat m i hi]
  have e : Int.tmod ((m / 2 ^ i : Nat) : Int) 2 = ((m / 2 ^ i % 2 : Nat) : Int) := by
    have := Int.ofNat_tmod (m / 2 ^ i) 2
    rw [this]
    rfl
  have h := bit_iff m i
  rw [e, ← Bool.not_eq_true, ← h]
  omega
/-- What is left of all n members. -/
theorem andNot_all {n m : Nat} (hn : n ≤ 62) (hm : m < 2 ^ n) : Go.bits .andNot .i64 ((2 ^ n - 1 : Nat) : Int) (m : Int) = ((2 ^ n - 1 - m : Nat) : Int) := by
  have hp := Nat.pow_le_pow_right (n := 2) (by omega) hn
  have e : (BitVec.ofInt 64 ((2 ^ n - 1 : Nat) : Int) &&& ~~~(BitVec.ofInt 64 (m : Int))).toNat = 2 ^ n - 1 - m := by
    apply Nat.eq_of_testBit_eq
    intro i
    rw [BitVec.ofInt_natCast, BitVec.ofInt_natCast]
    have h1 : (2 ^ n - 1 - m : Nat) = 2 ^ n - (m + 1) := by omega
    rw [h1, Nat.testBit_two_pow_sub_succ hm, BitVec.testBit_toNat, BitVec.getLsbD_and, BitVec.getLsbD_not, BitVec.getLsbD_ofNat, BitVec.getLsbD_ofNat, Nat.testBit_two_pow_sub_one]
    by_cases hi : i < n
    · have : i < 64 := by omega
      simp [hi, this]
    · simp [hi]
  have e2 : Go.bits .andNot .i64 ((2 ^ n - 1 : Nat) : Int) (m : Int) = IntKind.i64.wrap ((BitVec.ofInt 64 ((2 ^ n - 1 : Nat) : Int) &&& ~~~(BitVec.ofInt 64 (m : Int))).toNat : Int) := rfl
  rw [e2, e]
  exact wraps_i64 _ (Int.natCast_nonneg _) (by omega)
/-- The weight of the set told by m. -/
def wt : List Int → Nat → Int
  | [], _ => 0
  | x :: r, m => (if m % 2 = 1 then x else 0) + wt r (m / 2)
theorem wt_take (l : List Int) : ∀ (m i : Nat) (h : i < l.length), wt (l.take (i + 1)) m = wt (l.take i) m + if m.testBit i = true then l[i] else 0 := by
  induction l with
  | nil => intro m i h; simp at h
  | cons x r ih =>
    intro m i h
    cases i with
    | zero =>
      simp only [List.take_succ_cons, List.take_zero, wt, List.getElem_cons_zero, Nat.testBit_zero, decide_eq_true_eq]
      omega
    | succ i =>
      have := ih (m / 2) i (by simpa using h)
      simp only [List.take_succ_cons, wt, List.getElem_cons_succ, Nat.testBit_succ]
      rw [this]
      omega
theorem wt_le {l : List Int} {B : Int} (h : ∀ x ∈ l, 0 ≤ x ∧ x ≤ B) : ∀ m, 0 ≤ wt l m ∧ wt l m ≤ l.sum := by
  induction l with
  | nil => intro m; simp [wt]
  | cons x r ih =>
    intro m
    have h1 := ih (fun y hy => h y (List.mem_cons_of_mem _ hy)) (m / 2)
    have h2 := h x List.mem_cons_self
    rw [List.sum_cons]
    unfold wt
    split <;> omega
theorem wt_take_le {l : List Int} {B : Int} (h : ∀ x ∈ l, 0 ≤ x ∧ x ≤ B) (m i : Nat) (hi : i ≤ l.length) : 0 ≤ wt (l.take i) m ∧ wt (l.take i) m ≤ i * B := by
  have h0 : ∀ x ∈ l.take i, 0 ≤ x ∧ x ≤ B := fun x hx => h x (List.mem_of_mem_take hx)
  have h1 := wt_le h0 m
  have h2 := take_sum_le h i hi
  omega
/-- Which sets win. -/
def winsC (q : Int) (l : List Int) : List Bool := (List.range (2 ^ l.length)).map fun m => decide (q ≤ wt l m)
theorem winsC_length (q : Int) (l : List Int) : (winsC q l).length = 2 ^ l.length := by simp [winsC]
theorem winsC_at {q : Int} {l : List Int} {m : Nat} (h : m < (winsC q l).length) : (winsC q l)[m] = decide (q ≤ wt l m) := by simp [winsC]
theorem pow9 {n : Nat} (h : n ≤ 9) : 1 ≤ 2 ^ n ∧ 2 ^ n ≤ 512 := ⟨Nat.one_le_two_pow, Nat.pow_le_pow_right (n := 2) (by omega) h⟩
end Go.Proofs.YtadlpnejkkblfaaW.PrintMore
