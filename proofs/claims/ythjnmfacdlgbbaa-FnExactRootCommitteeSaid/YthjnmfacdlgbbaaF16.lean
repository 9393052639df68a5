/- Plain facts of mine on printed functions: what they answer. No Go, no memory. -/
import Derived.Test.YthjnmfacdlgbbaaPx16
import Derived.Test.YthjnmfacdlgbbaaEv
import Derived.Test.YthjnmfacdlgbbaaF1
import Derived.Test.YthjnmfacdlgbbaaF8
import Derived.Test.YthjnmfacdlgbbaaSqrt
import Derived.Test.YthjnmfacdlgbbaaRoot
import Derived.Test.YthjnmfacdlgbbaaRootC
import Derived.Test.YthjnmfacdlgbbaaSqrt
import Derived.Test.YthjnmfacdlgbbaaRoot
import Derived.Test.YthjnmfacdlgbbaaRoot
import Derived.Test.YthjnmfacdlgbbaaRootC
namespace Go.Proofs.Ythjnmfacdlgbbaa.P
open Go.RowKit Go.Proofs.YthjnmfacdlgbbaaW.PrintWords Go.Proofs.YthjnmfacdlgbbaaW.PrintLast Go.Proofs.YthjnmfacdlgbbaaW.PrintMore
set_option linter.unusedVariables false
set_option linter.unusedSimpArgs false

-- NEEDS Sqrt
theorem spec_shRoot.loop {n : Int} (h1 : n ≤ 1000000) (d : Nat) : ∀ r : Int, 0 ≤ r → r * r ≤ n → 1000 ≤ r + d → Ev (fun k => spec_shRoot.l0 k n r) (rootW n) := by
  induction d with
  | zero =>
    intro r h0 h2 h3
    have h4 := root_small h0 h1 h2
    have h5 := sq_bounds (r := r + 1) (by omega) (by omega)
    refine Ev.step (fun k => by rw [spec_shRoot.l0]) ?_
    rw [wrap_id (x := r + 1) (by omega) (by omega), wrap_id (by omega) (by omega)]
    by_cases hc : (r + 1) * (r + 1) ≤ n
    · have := root_small (by omega) h1 hc
      omega
    · exact Ev.neg hc ((Ev.now _).cast (rootW_only h0 h4 h2 (by omega)).symm)
  | succ d ih =>
    intro r h0 h2 h3
    have h4 := root_small h0 h1 h2
    have h5 := sq_bounds (r := r + 1) (by omega) (by omega)
    refine Ev.step (fun k => by rw [spec_shRoot.l0]) ?_
    rw [wrap_id (x := r + 1) (by omega) (by omega), wrap_id (by omega) (by omega)]
    by_cases hc : (r + 1) * (r + 1) ≤ n
    · exact Ev.pos hc (ih (r + 1) (by omega) hc (by omega))
    · exact Ev.neg hc ((Ev.now _).cast (rootW_only h0 h4 h2 (by omega)).symm)
theorem spec_shRoot.ev {n : Int} (h0 : 1 ≤ n) (h1 : n ≤ 1000000) : Ev (fun k => spec_shRoot.f k n) (rootW n) := by
  unfold spec_shRoot.f
  exact spec_shRoot.loop h1 1000 0 (by omega) (by omega) (by omega)

-- NEEDS Root
theorem spec_shQuota.loop {sq all : Int} (h0 : 0 ≤ all) (h1 : all ≤ 10000) (h3 : sq ≤ 10000000) (n : Nat) : ∀ q : Int, 0 ≤ q → q ≤ 20000 → 10000 ≤ q + n → n ≤ 10000 → Ev (fun k => spec_shQuota.l1 k sq all q) (rootQ sq all n q) := by
  induction n with
  | zero =>
    intro q hq0 hq1 hq2 hn
    refine Ev.step (fun k => by rw [spec_shQuota.l1]) ?_
    rw [root_test (sq := sq) h0 h1 hq0 (by omega)]
    exact Ev.neg (root_far h0 h1 (by omega) h3) (Ev.now _)
  | succ n ih =>
    intro q hq0 hq1 hq2 hn
    refine Ev.step (fun k => by rw [spec_shQuota.l1]) ?_
    rw [root_test (sq := sq) h0 h1 hq0 (by omega), wrap_id (x := q + 1) (by omega) (by omega)]
    by_cases h : (2 * q - all) * (2 * q - all) < sq
    · have hlt : q < 10000 := by
        rcases Int.lt_or_le q 10000 with h' | h'
        · exact h'
        · exact absurd h (root_far h0 h1 h' h3)
      exact Ev.pos h ((ih (q + 1) (by omega) (by omega) (by omega) (by omega)).cast (by simp [rootQ, h]))
    · exact Ev.neg h ((Ev.now _).cast (by simp [rootQ, h]))
theorem spec_shQuota.ev (l : List Int) (h9 : l.length ≤ 9) (hB : ∀ x ∈ l, 0 ≤ x ∧ x ≤ 1000) : Ev (fun k => spec_shQuota.f k l) (rootOf l) := by
  unfold spec_shQuota.f
  have hs := sum_le hB
  have h := down (P := fun i => Ev (fun k => spec_shQuota.l0 k l (sqs (l.take i)) l (l.length : Int) (i : Int)) (rootOf l)) l.length ?_ ?_ 0 (Nat.zero_le _)
  · exact h
  · refine Ev.step (fun k => by rw [spec_shQuota.l0]) ?_
    refine Ev.neg (by omega) (Ev.bind (spec_voSum.ev l 1000 hB (by omega) (by omega)) ?_)
    have e : wrap64 (Int.tdiv (wrap64 (l.sum + 1)) 2) = (l.sum + 1) / 2 := by
      rw [wrap_id (x := l.sum + 1) (by omega) (by omega), Int.tdiv_eq_ediv_of_nonneg (by omega), wrap_id (by omega) (by omega)]
    rw [e, List.take_length]
    have hq := sqs_le hB
    exact spec_shQuota.loop hs.1 (by omega) (by omega) 10000 _ (by omega) (by omega) (by omega) (Nat.le_refl _)
  · intro i hi ih
    refine Ev.step (fun k => by rw [spec_shQuota.l0]) ?_
    refine Ev.pos (by omega) (Ev.pos (by omega) (Ev.pos (by omega) ?_))
    have h1 := sqs_le (l := l.take i) (fun x hx => hB x (List.mem_of_mem_take hx))
    rw [List.length_take, Nat.min_eq_left (by omega)] at h1
    have h2 := hB l[i] (List.getElem_mem hi)
    have h3 : 0 ≤ l[i] * l[i] ∧ l[i] * l[i] ≤ 1000000 := by
      have p := Int.mul_nonneg h2.1 h2.1
      have q := Int.mul_le_mul_of_nonneg_left h2.2 h2.1
      omega
    rw [rd_nat hi, wrap_next hi (by omega), wrap_id (x := l[i] * l[i]) (by omega) (by omega), wrap_id (by omega) (by omega), ← sqs_take hi]
    exact ih

-- NEEDS RootC
theorem spec_RootCommittee.loop (l : List Int) (h9 : l.length ≤ 9) (hB : ∀ x ∈ l, 1 ≤ x ∧ x ≤ 1000000) : Ev (fun k => spec_RootCommittee.l0 k l (l.length : Int) 0 0 []) (rootOf (rootL l), rootL l, true) := by
  have h := down (P := fun i => Ev (fun k => spec_RootCommittee.l0 k l (l.length : Int) (i : Int) 0 (rootL (l.take i))) (rootOf (rootL l), rootL l, true)) l.length ?_ ?_ 0 (Nat.zero_le _)
  · exact h
  · refine Ev.step (fun k => by rw [spec_RootCommittee.l0]) ?_
    rw [List.take_length]
    exact Ev.neg (by omega) (Ev.bind (spec_shQuota.ev _ (by simpa [rootL] using h9) (rootL_mem hB)) (Ev.now _))
  · intro i hi ih
    refine Ev.step (fun k => by rw [spec_RootCommittee.l0]) ?_
    have hv := hB l[i] (List.getElem_mem hi)
    have e : rootL (l.take i) ++ [rootW l[i]] = rootL (l.take (i + 1)) := by
      unfold rootL
      rw [List.take_succ_eq_append_getElem hi, List.map_append]
      rfl
    have el : (rootL (l.take i)).length ≤ 9 := by
      unfold rootL
      rw [List.length_map, List.length_take]
      omega
    rw [rd_nat hi, wrap_next hi (by omega)]
    refine Ev.pos (by omega) (Ev.pos (by omega) (Ev.pos (by omega) (Ev.bind (spec_shRoot.ev hv.1 hv.2) (Ev.pos (by omega) ?_))))
    rw [e]
    exact ih
theorem spec_RootCommittee.ev (l : List Int) (hn : l.length ≤ 9223372036854775807) : Ev (fun k => spec_RootCommittee.f k l) (rootC l) := by
  unfold spec_RootCommittee.f
  refine Ev.one (spec_l1In.eq _ _ _) ?_
  cases h1 : inB 1 9 (l.length : Int) with
  | false =>
    refine Ev.neg (by decide) (Ev.step (fun k => by rw [spec_RootCommittee.j0]) ?_)
    exact Ev.pos rfl ((Ev.now _).cast (by simp [rootC, h1]))
  | true =>
    refine Ev.pos rfl (Ev.bind (spec_l1All.ev l 1 1000000 hn) ?_)
    have h9 := inB_iff.1 h1
    refine Ev.step (fun k => by rw [spec_RootCommittee.j0]) ?_
    cases h2 : l.all (inB 1 1000000) with
    | false => exact Ev.pos rfl ((Ev.now _).cast (by simp [rootC, h2]))
    | true =>
      have hB : ∀ x ∈ l, 1 ≤ x ∧ x ≤ 1000000 := fun x hx => inB_iff.1 (all_mem.1 h2 x hx)
      exact Ev.neg (by decide) ((spec_RootCommittee.loop l (by omega) hB).cast (by simp [rootC, h1, h2]))

-- NEEDS Sqrt
theorem impl_wholeRoot.eq {n : Int} (h0 : 1 ≤ n) (h1 : n ≤ 1000000) : impl_wholeRoot.f n = some (rootW n) := by
  unfold impl_wholeRoot.f
  rw [if_pos ⟨h0, h1⟩]

-- NEEDS Root
theorem slices_Max_int_int.ev (l : List Int) (h0 : 0 < l.length) (hn : l.length ≤ 9223372036854775807) : Ev (fun k => slices_Max_int_int.f k l) (maxL l) := by
  unfold slices_Max_int_int.f
  refine Ev.neg (by omega) (Ev.pos (by omega) ?_)
  have h := down (P := fun i => 1 ≤ i → Ev (fun k => slices_Max_int_int.l0 k l (((l.take i).tail).foldl (fun a b => mx a b) (l.getD 0 0)) (i : Int)) (maxL l)) l.length ?_ ?_ 1 h0 (Nat.le_refl _)
  · have e : ((l.take 1).tail).foldl (fun a b => mx a b) (l.getD 0 0) = rd l 0 := by
      match l, h0 with
      | a :: r, _ => rfl
    rw [e] at h
    exact h
  · intro _
    refine Ev.step (fun k => by rw [slices_Max_int_int.l0]) ?_
    exact Ev.neg (by omega) ((Ev.now _).cast (by rw [List.take_length]; rfl))
  · intro i hi ih h1
    refine Ev.step (fun k => by rw [slices_Max_int_int.l0]) ?_
    refine Ev.pos (by omega) (Ev.pos (by omega) ?_)
    rw [rd_nat hi, wrap_next hi hn]
    have e : mx (((l.take i).tail).foldl (fun a b => mx a b) (l.getD 0 0)) l[i] = ((l.take (i + 1)).tail).foldl (fun a b => mx a b) (l.getD 0 0) := by
      rw [List.take_succ_eq_append_getElem hi, List.tail_append_of_ne_nil (by intro h; have h' := congrArg List.length h; rw [List.length_take, Nat.min_eq_left (by omega), List.length_nil] at h'; omega), List.foldl_append]
      rfl
    rw [e]
    exact ih (by omega)

-- NEEDS Root
theorem impl_RootQuota.loop {sq all : Int} (h0 : 0 ≤ all) (h1 : all ≤ 10000) (h3 : sq ≤ 10000000) (n : Nat) : ∀ q : Int, 0 ≤ q → q ≤ 20000 → 10000 ≤ q + n → n ≤ 10000 → Ev (fun k => impl_RootQuota.l1 k all sq q) (rootQ sq all n q, true) := by
  induction n with
  | zero =>
    intro q hq0 hq1 hq2 hn
    refine Ev.step (fun k => by rw [impl_RootQuota.l1]) ?_
    rw [root_test (sq := sq) h0 h1 hq0 (by omega)]
    exact Ev.neg (root_far h0 h1 (by omega) h3) (Ev.now _)
  | succ n ih =>
    intro q hq0 hq1 hq2 hn
    refine Ev.step (fun k => by rw [impl_RootQuota.l1]) ?_
    rw [root_test (sq := sq) h0 h1 hq0 (by omega), wrap_id (x := q + 1) (by omega) (by omega)]
    by_cases h : (2 * q - all) * (2 * q - all) < sq
    · have hlt : q < 10000 := by
        rcases Int.lt_or_le q 10000 with h' | h'
        · exact h'
        · exact absurd h (root_far h0 h1 h' h3)
      exact Ev.pos h ((ih (q + 1) (by omega) (by omega) (by omega) (by omega)).cast (by simp [rootQ, h]))
    · exact Ev.neg h ((Ev.now _).cast (by simp [rootQ, h]))
theorem impl_RootQuota.sums (l : List Int) (h9 : l.length ≤ 9) (hB : ∀ x ∈ l, 0 ≤ x ∧ x ≤ 1000) : Ev (fun k => impl_RootQuota.l0 k l.sum 0 l (l.length : Int) 0) (rootOf l, true) := by
  have hs := sum_le hB
  have h := down (P := fun i => Ev (fun k => impl_RootQuota.l0 k l.sum (sqs (l.take i)) l (l.length : Int) (i : Int)) (rootOf l, true)) l.length ?_ ?_ 0 (Nat.zero_le _)
  · exact h
  · refine Ev.step (fun k => by rw [impl_RootQuota.l0]) ?_
    refine Ev.neg (by omega) ?_
    have e : wrap64 (Int.tdiv (wrap64 (l.sum + 1)) 2) = (l.sum + 1) / 2 := by
      rw [wrap_id (x := l.sum + 1) (by omega) (by omega), Int.tdiv_eq_ediv_of_nonneg (by omega), wrap_id (by omega) (by omega)]
    rw [e, List.take_length]
    have hq := sqs_le hB
    exact impl_RootQuota.loop hs.1 (by omega) (by omega) 10000 _ (by omega) (by omega) (by omega) (Nat.le_refl _)
  · intro i hi ih
    refine Ev.step (fun k => by rw [impl_RootQuota.l0]) ?_
    refine Ev.pos (by omega) (Ev.pos (by omega) (Ev.pos (by omega) ?_))
    have h1 := sqs_le (l := l.take i) (fun x hx => hB x (List.mem_of_mem_take hx))
    rw [List.length_take, Nat.min_eq_left (by omega)] at h1
    have h2 := hB l[i] (List.getElem_mem hi)
    have h3 : 0 ≤ l[i] * l[i] ∧ l[i] * l[i] ≤ 1000000 := by
      have p := Int.mul_nonneg h2.1 h2.1
      have q := Int.mul_le_mul_of_nonneg_left h2.2 h2.1
      omega
    rw [rd_nat hi, wrap_next hi (by omega), wrap_id (x := l[i] * l[i]) (by omega) (by omega), wrap_id (by omega) (by omega), ← sqs_take hi]
    exact ih
theorem impl_RootQuota.ev (l : List Int) (hn : l.length ≤ 9223372036854775807) : Ev (fun k => impl_RootQuota.f k l) (rootV l) := by
  unfold impl_RootQuota.f
  have hj : ∀ b : Bool, (b = false → l.length ≤ 9 ∧ ∀ x ∈ l, 0 ≤ x ∧ x ≤ 1000) → Ev (fun k => impl_RootQuota.j0 k l b) (if b = true then (0, false) else (rootOf l, true)) := by
    intro b hb
    refine Ev.step (fun k => by rw [impl_RootQuota.j0]) ?_
    cases b with
    | true => exact Ev.pos rfl (Ev.now _)
    | false =>
      obtain ⟨h9, hB⟩ := hb rfl
      exact Ev.neg (by decide) (Ev.bind (impl_sumOf.ev l 1000 hB (by omega) (by omega)) (impl_RootQuota.sums l h9 hB))
  by_cases h0 : (l.length : Int) < 1
  · have hi : inB 1 9 (l.length : Int) = false := inB_not.2 (fun h => by omega)
    exact Ev.pos h0 ((hj true (by simp)).cast (by simp [rootV, hi]))
  · refine Ev.neg h0 ?_
    by_cases h1 : (l.length : Int) > 9
    · have hi : inB 1 9 (l.length : Int) = false := inB_not.2 (fun h => by omega)
      exact Ev.pos h1 ((hj true (by simp)).cast (by simp [rootV, hi]))
    · have hi : inB 1 9 (l.length : Int) = true := inB_iff.2 (by omega)
      refine Ev.neg h1 (Ev.one (show impl_areIn.f l 0 1000 = some _ from rfl) ?_)
      cases h2 : l.all (inB 0 1000) with
      | false => exact Ev.neg (by decide) ((hj true (by simp)).cast (by simp [rootV, h2]))
      | true =>
        have hB : ∀ x ∈ l, 0 ≤ x ∧ x ≤ 1000 := fun x hx => inB_iff.1 (all_mem.1 h2 x hx)
        refine Ev.pos rfl (Ev.bind (slices_Max_int_int.ev l (by omega) hn) ?_)
        rw [max_zero (by omega) hB]
        refine (hj _ (fun _ => ⟨by omega, hB⟩)).cast ?_
        by_cases h3 : l.sum = 0
        · simp [rootV, h3]
        · simp [rootV, hi, h2, h3]

-- NEEDS RootC
theorem impl_RootCommittee.loop (l : List Int) (h1 : 1 ≤ l.length) (h9 : l.length ≤ 9) (hB : ∀ x ∈ l, 1 ≤ x ∧ x ≤ 1000000) : Ev (fun k => impl_RootCommittee.l0 k l (l.length : Int) 0 0 []) (rootOf (rootL l), rootL l, true) := by
  have hg := rootL_good h1 h9 hB
  have hlen : (rootL l).length = l.length := by simp [rootL]
  have hm := rootL_mem hB
  have hsum := rootL_sum l hB
  have h := down (P := fun i => Ev (fun k => impl_RootCommittee.l0 k l (l.length : Int) (i : Int) 0 (rootL (l.take i))) (rootOf (rootL l), rootL l, true)) l.length ?_ ?_ 0 (Nat.zero_le _)
  · exact h
  · refine Ev.step (fun k => by rw [impl_RootCommittee.l0]) ?_
    rw [List.take_length]
    have e : rootV (rootL l) = (rootOf (rootL l), true) := by
      unfold rootV
      rw [if_pos ⟨inB_iff.2 (by omega), all_mem.2 (fun x hx => inB_iff.2 (hm x hx)), by omega⟩]
    refine Ev.neg (by omega) (Ev.bind (impl_RootQuota.ev _ (by omega)) ?_)
    rw [e]
    refine Ev.bind (impl_ifCommittee.ev _ _ (by omega)) ?_
    rw [if_pos hg]
    exact Ev.now _
  · intro i hi ih
    refine Ev.step (fun k => by rw [impl_RootCommittee.l0]) ?_
    have hv := hB l[i] (List.getElem_mem hi)
    have e : rootL (l.take i) ++ [rootW l[i]] = rootL (l.take (i + 1)) := by
      unfold rootL
      rw [List.take_succ_eq_append_getElem hi, List.map_append]
      rfl
    have el : (rootL (l.take i)).length ≤ 9 := by
      unfold rootL
      rw [List.length_map, List.length_take]
      omega
    rw [rd_nat hi, wrap_next hi (by omega)]
    refine Ev.pos (by omega) (Ev.pos (by omega) (Ev.pos (by omega) (Ev.one (impl_wholeRoot.eq hv.1 hv.2) (Ev.pos (by omega) ?_))))
    rw [e]
    exact ih
theorem impl_RootCommittee.ev (l : List Int) (hn : l.length ≤ 9223372036854775807) : Ev (fun k => impl_RootCommittee.f k l) (rootC l) := by
  unfold impl_RootCommittee.f
  have hj : ∀ b : Bool, (b = false → 1 ≤ l.length ∧ l.length ≤ 9 ∧ ∀ x ∈ l, 1 ≤ x ∧ x ≤ 1000000) → Ev (fun k => impl_RootCommittee.j0 k l b) (if b = true then (0, [], false) else (rootOf (rootL l), rootL l, true)) := by
    intro b hb
    refine Ev.step (fun k => by rw [impl_RootCommittee.j0]) ?_
    cases b with
    | true => exact Ev.pos rfl (Ev.now _)
    | false =>
      obtain ⟨h1, h9, hB⟩ := hb rfl
      exact Ev.neg (by decide) (impl_RootCommittee.loop l h1 h9 hB)
  by_cases h0 : (l.length : Int) < 1
  · have hi : inB 1 9 (l.length : Int) = false := inB_not.2 (fun h => by omega)
    exact Ev.pos h0 ((hj true (by simp)).cast (by simp [rootC, hi]))
  · refine Ev.neg h0 ?_
    by_cases h1 : (l.length : Int) > 9
    · have hi : inB 1 9 (l.length : Int) = false := inB_not.2 (fun h => by omega)
      exact Ev.pos h1 ((hj true (by simp)).cast (by simp [rootC, hi]))
    · have hi : inB 1 9 (l.length : Int) = true := inB_iff.2 (by omega)
      refine Ev.neg h1 (Ev.one (show impl_areIn.f l 1 1000000 = some _ from rfl) ?_)
      cases h2 : l.all (inB 1 1000000) with
      | false => exact (hj true (by simp)).cast (by simp [rootC, h2])
      | true =>
        have hB : ∀ x ∈ l, 1 ≤ x ∧ x ≤ 1000000 := fun x hx => inB_iff.1 (all_mem.1 h2 x hx)
        exact (hj false (fun _ => ⟨by omega, by omega, hB⟩)).cast (by simp [rootC, hi, h2])

end Go.Proofs.Ythjnmfacdlgbbaa.P
