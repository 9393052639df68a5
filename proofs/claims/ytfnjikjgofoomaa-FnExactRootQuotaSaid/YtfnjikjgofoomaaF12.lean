/- Plain facts of mine on printed functions: what they answer. No Go, no memory. -/
import Derived.Test.YtfnjikjgofoomaaPx12
import Derived.Test.YtfnjikjgofoomaaEv
import Derived.Test.YtfnjikjgofoomaaF1
import Derived.Test.YtfnjikjgofoomaaF2
import Derived.Test.YtfnjikjgofoomaaRoot
import Derived.Test.YtfnjikjgofoomaaRoot
import Derived.Test.YtfnjikjgofoomaaRoot
import Derived.Test.YtfnjikjgofoomaaRoot
namespace Go.Proofs.Ytfnjikjgofoomaa.P
open Go.RowKit Go.Proofs.YtfnjikjgofoomaaW.PrintWords Go.Proofs.YtfnjikjgofoomaaW.PrintLast Go.Proofs.YtfnjikjgofoomaaW.PrintMore
set_option linter.unusedVariables false
set_option linter.unusedSimpArgs false

-- NEEDS Root
theorem spec_shQuota.loop {sq all : Int} (h0 : 0 ≤ all) (h1 : all ≤ 10000) (h3 : sq ≤ 10000000) (n : Nat) : ∀ q : Int, 0 ≤ q → q ≤ 20000 → 10000 ≤ q + n → n ≤ 10000 → Ev (fun k => spec_shQuota.l1 k sq all q) (rootQ sq all n q) := by
  induction n with
  | zero =>
    intro q hq0 hq1 hq2 hn
    refine Ev.step (fun k => by rw [spec_shQuota.l1]) ?_
    rw [root_test (sq := sq) h0 h1 hq0 (by omega)]
    exact Ev.neg (root_far h0 h1 (by omega) h3) (Ev.now _)
  | succ n ih =>
    intro q hq0 hq1 hq2 hn
    refine Ev.step (fun k => by rw [spec_shQuota.l1]) ?_
    rw [root_test (sq := sq) h0 h1 hq0 (by omega), wrap_id (x := q + 1) (by omega) (by omega)]
    by_cases h : (2 * q - all) * (2 * q - all) < sq
    · have hlt : q < 10000 := by
        rcases Int.lt_or_le q 10000 with h' | h'
        · exact h'
        · exact absurd h (root_far h0 h1 h' h3)
      exact Ev.pos h ((ih (q + 1) (by omega) (by omega) (by omega) (by omega)).cast (by simp [rootQ, h]))
    · exact Ev.neg h ((Ev.now _).cast (by simp [rootQ, h]))
theorem spec_shQuota.ev (l : List Int) (h9 : l.length ≤ 9) (hB : ∀ x ∈ l, 0 ≤ x ∧ x ≤ 1000) : Ev (fun k => spec_shQuota.f k l) (rootOf l) := by
  unfold spec_shQuota.f
  have hs := sum_le hB
  have h := down (P := fun i => Ev (fun k => spec_shQuota.l0 k l (sqs (l.take i)) l (l.length : Int) (i : Int)) (rootOf l)) l.length ?_ ?_ 0 (Nat.zero_le _)
  · exact h
  · refine Ev.step (fun k => by rw [spec_shQuota.l0]) ?_
    refine Ev.neg (by omega) (Ev.bind (spec_voSum.ev l 1000 hB (by omega) (by omega)) ?_)
    have e : wrap64 (Int.tdiv (wrap64 (l.sum + 1)) 2) = (l.sum + 1) / 2 := by
      rw [wrap_id (x := l.sum + 1) (by omega) (by omega), Int.tdiv_eq_ediv_of_nonneg (by omega), wrap_id (by omega) (by omega)]
    rw [e, List.take_length]
    have hq := sqs_le hB
    exact spec_shQuota.loop hs.1 (by omega) (by omega) 10000 _ (by omega) (by omega) (by omega) (Nat.le_refl _)
  · intro i hi ih
    refine Ev.step (fun k => by rw [spec_shQuota.l0]) ?_
    refine Ev.pos (by omega) (Ev.pos (by omega) (Ev.pos (by omega) ?_))
    have h1 := sqs_le (l := l.take i) (fun x hx => hB x (List.mem_of_mem_take hx))
    rw [List.length_take, Nat.min_eq_left (by omega)] at h1
    have h2 := hB l[i] (List.getElem_mem hi)
    have h3 : 0 ≤ l[i] * l[i] ∧ l[i] * l[i] ≤ 1000000 := by
      have p := Int.mul_nonneg h2.1 h2.1
      have q := Int.mul_le_mul_of_nonneg_left h2.2 h2.1
      omega
    rw [rd_nat hi, wrap_next hi (by omega), wrap_id (x := l[i] * l[i]) (by omega) (by omega), wrap_id (by omega) (by omega), ← sqs_take hi]
    exact ih

-- NEEDS Root
theorem spec_RootQuota.ev (l : List Int) (hn : l.length ≤ 9223372036854775807) : Ev (fun k => spec_RootQuota.f k l) (rootV l) := by
  unfold spec_RootQuota.f
  refine Ev.one (spec_l1In.eq _ _ _) ?_
  cases h1 : inB 1 9 (l.length : Int) with
  | false => exact Ev.neg (by decide) ((Ev.now _).cast (by simp [rootV, h1]))
  | true =>
    refine Ev.pos rfl (Ev.bind (spec_l1All.ev l 0 1000 hn) ?_)
    have h9 := inB_iff.1 h1
    cases h2 : l.all (inB 0 1000) with
    | false => exact Ev.neg (by decide) ((Ev.now _).cast (by simp [rootV, h2]))
    | true =>
      have hB : ∀ x ∈ l, 0 ≤ x ∧ x ≤ 1000 := fun x hx => inB_iff.1 (all_mem.1 h2 x hx)
      refine Ev.pos rfl (Ev.bind (spec_voSum.ev l 1000 hB (by omega) (by omega)) ?_)
      by_cases h3 : l.sum = 0
      · exact Ev.pos h3 ((Ev.now _).cast (by simp [rootV, h3]))
      · exact Ev.neg h3 (Ev.bind (spec_shQuota.ev l (by omega) hB) ((Ev.now _).cast (by simp [rootV, h1, h2, h3])))

-- NEEDS Root
theorem slices_Max_int_int.ev (l : List Int) (h0 : 0 < l.length) (hn : l.length ≤ 9223372036854775807) : Ev (fun k => slices_Max_int_int.f k l) (maxL l) := by
  unfold slices_Max_int_int.f
  refine Ev.neg (by omega) (Ev.pos (by omega) ?_)
  have h := down (P := fun i => 1 ≤ i → Ev (fun k => slices_Max_int_int.l0 k l (((l.take i).tail).foldl (fun a b => mx a b) (l.getD 0 0)) (i : Int)) (maxL l)) l.length ?_ ?_ 1 h0 (Nat.le_refl _)
  · have e : ((l.take 1).tail).foldl (fun a b => mx a b) (l.getD 0 0) = rd l 0 := by
      match l, h0 with
      | a :: r, _ => rfl
    rw [e] at h
    exact h
  · intro _
    refine Ev.step (fun k => by rw [slices_Max_int_int.l0]) ?_
    exact Ev.neg (by omega) ((Ev.now _).cast (by rw [List.take_length]; rfl))
  · intro i hi ih h1
    refine Ev.step (fun k => by rw [slices_Max_int_int.l0]) ?_
    refine Ev.pos (by omega) (Ev.pos (by omega) ?_)
    rw [rd_nat hi, wrap_next hi hn]
    have e : mx (((l.take i).tail).foldl (fun a b => mx a b) (l.getD 0 0)) l[i] = ((l.take (i + 1)).tail).foldl (fun a b => mx a b) (l.getD 0 0) := by
      rw [List.take_succ_eq_append_getElem hi, List.tail_append_of_ne_nil (by intro h; have h' := congrArg List.length h; rw [List.length_take, Nat.min_eq_left (by omega), List.length_nil] at h'; omega), List.foldl_append]
      rfl
    rw [e]
    exact ih (by omega)

-- NEEDS Root
theorem impl_RootQuota.loop {sq all : Int} (h0 : 0 ≤ all) (h1 : all ≤ 10000) (h3 : sq ≤ 10000000) (n : Nat) : ∀ q : Int, 0 ≤ q → q ≤ 20000 → 10000 ≤ q + n → n ≤ 10000 → Ev (fun k => impl_RootQuota.l1 k all sq q) (rootQ sq all n q, true) := by
  induction n with
  | zero =>
    intro q hq0 hq1 hq2 hn
    refine Ev.step (fun k => by rw [impl_RootQuota.l1]) ?_
    rw [root_test (sq := sq) h0 h1 hq0 (by omega)]
    exact Ev.neg (root_far h0 h1 (by omega) h3) (Ev.now _)
  | succ n ih =>
    intro q hq0 hq1 hq2 hn
    refine Ev.step (fun k => by rw [impl_RootQuota.l1]) ?_
    rw [root_test (sq := sq) h0 h1 hq0 (by omega), wrap_id (x := q + 1) (by omega) (by omega)]
    by_cases h : (2 * q - all) * (2 * q - all) < sq
    · have hlt : q < 10000 := by
        rcases Int.lt_or_le q 10000 with h' | h'
        · exact h'
        · exact absurd h (root_far h0 h1 h' h3)
      exact Ev.pos h ((ih (q + 1) (by omega) (by omega) (by omega) (by omega)).cast (by simp [rootQ, h]))
    · exact Ev.neg h ((Ev.now _).cast (by simp [rootQ, h]))
theorem impl_RootQuota.sums (l : List Int) (h9 : l.length ≤ 9) (hB : ∀ x ∈ l, 0 ≤ x ∧ x ≤ 1000) : Ev (fun k => impl_RootQuota.l0 k l.sum 0 l (l.length : Int) 0) (rootOf l, true) := by
  have hs := sum_le hB
  have h := down (P := fun i => Ev (fun k => impl_RootQuota.l0 k l.sum (sqs (l.take i)) l (l.length : Int) (i : Int)) (rootOf l, true)) l.length ?_ ?_ 0 (Nat.zero_le _)
  · exact h
  · refine Ev.step (fun k => by rw [impl_RootQuota.l0]) ?_
    refine Ev.neg (by omega) ?_
    have e : wrap64 (Int.tdiv (wrap64 (l.sum + 1)) 2) = (l.sum + 1) / 2 := by
      rw [wrap_id (x := l.sum + 1) (by omega) (by omega), Int.tdiv_eq_ediv_of_nonneg (by omega), wrap_id (by omega) (by omega)]
    rw [e, List.take_length]
    have hq := sqs_le hB
    exact impl_RootQuota.loop hs.1 (by omega) (by omega) 10000 _ (by omega) (by omega) (by omega) (Nat.le_refl _)
  · intro i hi ih
    refine Ev.step (fun k => by rw [impl_RootQuota.l0]) ?_
    refine Ev.pos (by omega) (Ev.pos (by omega) (Ev.pos (by omega) ?_))
    have h1 := sqs_le (l := l.take i) (fun x hx => hB x (List.mem_of_mem_take hx))
    rw [List.length_take, Nat.min_eq_left (by omega)] at h1
    have h2 := hB l[i] (List.getElem_mem hi)
    have h3 : 0 ≤ l[i] * l[i] ∧ l[i] * l[i] ≤ 1000000 := by
      have p := Int.mul_nonneg h2.1 h2.1
      have q := Int.mul_le_mul_of_nonneg_left h2.2 h2.1
      omega
    rw [rd_nat hi, wrap_next hi (by omega), wrap_id (x := l[i] * l[i]) (by omega) (by omega), wrap_id (by omega) (by omega), ← sqs_take hi]
    exact ih
theorem impl_RootQuota.ev (l : List Int) (hn : l.length ≤ 9223372036854775807) : Ev (fun k => impl_RootQuota.f k l) (rootV l) := by
  unfold impl_RootQuota.f
  have hj : ∀ b : Bool, (b = false → l.length ≤ 9 ∧ ∀ x ∈ l, 0 ≤ x ∧ x ≤ 1000) → Ev (fun k => impl_RootQuota.j0 k l b) (if b = true then (0, false) else (rootOf l, true)) := by
    intro b hb
    refine Ev.step (fun k => by rw [impl_RootQuota.j0]) ?_
    cases b with
    | true => exact Ev.pos rfl (Ev.now _)
    | false =>
      obtain ⟨h9, hB⟩ := hb rfl
      exact Ev.neg (by decide) (Ev.bind (impl_sumOf.ev l 1000 hB (by omega) (by omega)) (impl_RootQuota.sums l h9 hB))
  by_cases h0 : (l.length : Int) < 1
  · have hi : inB 1 9 (l.length : Int) = false := inB_not.2 (fun h => by omega)
    exact Ev.pos h0 ((hj true (by simp)).cast (by simp [rootV, hi]))
  · refine Ev.neg h0 ?_
    by_cases h1 : (l.length : Int) > 9
    · have hi : inB 1 9 (l.length : Int) = false := inB_not.2 (fun h => by omega)
      exact Ev.pos h1 ((hj true (by simp)).cast (by simp [rootV, hi]))
    · have hi : inB 1 9 (l.length : Int) = true := inB_iff.2 (by omega)
      refine Ev.neg h1 (Ev.one (show impl_areIn.f l 0 1000 = some _ from rfl) ?_)
      cases h2 : l.all (inB 0 1000) with
      | false => exact Ev.neg (by decide) ((hj true (by simp)).cast (by simp [rootV, h2]))
      | true =>
        have hB : ∀ x ∈ l, 0 ≤ x ∧ x ≤ 1000 := fun x hx => inB_iff.1 (all_mem.1 h2 x hx)
        refine Ev.pos rfl (Ev.bind (slices_Max_int_int.ev l (by omega) hn) ?_)
        rw [max_zero (by omega) hB]
        refine (hj _ (fun _ => ⟨by omega, hB⟩)).cast ?_
        by_cases h3 : l.sum = 0
        · simp [rootV, h3]
        · simp [rootV, hi, h2, h3]

end Go.Proofs.Ytfnjikjgofoomaa.P
