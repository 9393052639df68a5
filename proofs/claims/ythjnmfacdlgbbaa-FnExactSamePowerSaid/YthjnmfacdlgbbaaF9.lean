/- Plain facts of mine on printed functions: what they answer. No Go, no memory. -/
import Derived.Test.YthjnmfacdlgbbaaPx9
import Derived.Test.YthjnmfacdlgbbaaEv
import Derived.Test.YthjnmfacdlgbbaaF4
import Derived.Test.YthjnmfacdlgbbaaPow
import Derived.Test.YthjnmfacdlgbbaaPow
import Derived.Test.YthjnmfacdlgbbaaPow
import Derived.Test.YthjnmfacdlgbbaaPow
import Derived.Test.YthjnmfacdlgbbaaPow
import Derived.Test.YthjnmfacdlgbbaaPow
namespace Go.Proofs.Ythjnmfacdlgbbaa.P
open Go.RowKit Go.Proofs.YthjnmfacdlgbbaaW.PrintWords Go.Proofs.YthjnmfacdlgbbaaW.PrintLast Go.Proofs.YthjnmfacdlgbbaaW.PrintMore
set_option linter.unusedVariables false
set_option linter.unusedSimpArgs false

-- NEEDS Pow
theorem spec_voList.all : ∀ m, m < 512 → spec_voList.f 12 ((m : Nat) : Int) = some ((bitsL m).map fun (i : Nat) => (i : Int)) := by decide +kernel
theorem spec_voList.ev {m n : Nat} (h9 : n ≤ 9) (h : m < 2 ^ n) : Ev (fun k => spec_voList.f k (m : Int)) ((bitsL m).map fun (i : Nat) => (i : Int)) := Ev.of (fun k => spec_voList.mono _ k) (spec_voList.all m (Nat.lt_of_lt_of_le h (pow9 h9).2))

-- NEEDS Pow
theorem spec_pwTimes.ev {d : Int} (h0 : -100 ≤ d) (h9 : d ≤ 9) : Ev (fun k => spec_pwTimes.f k d) (facI d) := by
  have key : ∀ n : Fin 110, spec_pwTimes.f 12 ((n.1 : Int) - 100) = some (facI ((n.1 : Int) - 100)) := by decide +kernel
  have h := key ⟨(d + 100).toNat, by omega⟩
  have e : (((d + 100).toNat : Nat) : Int) - 100 = d := by omega
  rw [e] at h
  exact Ev.of (fun k => spec_pwTimes.mono _ k) h

-- NEEDS Pow
theorem spec_pwPivots.ev (ws : List Bool) (n : Nat) (hN : ws.length = 2 ^ n) (h9 : n ≤ 9) : Ev (fun k => spec_pwPivots.f k ws (n : Int)) ((List.range n).map fun m => sumN (isSw ws m) (pivF n) (2 ^ n)) := by
  unfold spec_pwPivots.f
  have hp := pow9 h9
  have h := down (P := fun m => Ev (fun k => spec_pwPivots.l0 k ws (n : Int) ((List.range m).map fun m => sumN (isSw ws m) (pivF n) (2 ^ n)) (m : Int)) ((List.range n).map fun m => sumN (isSw ws m) (pivF n) (2 ^ n))) n ?_ ?_ 0 (Nat.zero_le _)
  · exact h
  · refine Ev.step (fun k => by rw [spec_pwPivots.l0]) ?_
    exact Ev.neg (by omega) (Ev.now _)
  · intro m hm ih
    refine Ev.step (fun k => by rw [spec_pwPivots.l0]) ?_
    refine Ev.pos (by omega) (Ev.bind (spec_pwSwings.ev ws n m hN h9 hm) ?_)
    have hL : ∀ x ∈ (List.range (2 ^ n)).filter (isSw ws m), x < 2 ^ n := fun x hx => by simpa using (List.mem_filter.1 hx).1
    have hs := sumN_list (isSw ws m) (pivF n) (2 ^ n)
    have hl := filter_len (isSw ws m) (2 ^ n)
    unfold swL
    generalize (List.range (2 ^ n)).filter (isSw ws m) = L at hL hs hl
    have hb : ∀ j, 0 ≤ ((L.take j).map (pivF n)).sum ∧ ((L.take j).map (pivF n)).sum ≤ 512 * (362880 * 362880) := by
      intro j
      have h1 := sum_le (l := (L.take j).map (pivF n)) (B := 362880 * 362880) (by
        intro x hx
        obtain ⟨y, _, rfl⟩ := List.mem_map.1 hx
        exact pivF_le h9 y)
      rw [List.length_map, List.length_take] at h1
      have h2 : ((min j L.length : Nat) : Int) * (362880 * 362880) ≤ 512 * (362880 * 362880) := Int.mul_le_mul_of_nonneg_right (by omega) (by decide)
      omega
    have h := down (P := fun i => Ev (fun k => spec_pwPivots.l1 k ws (n : Int) ((List.range m).map fun m => sumN (isSw ws m) (pivF n) (2 ^ n)) (m : Int) ((L.take i).map (pivF n)).sum (L.map fun (x : Nat) => (x : Int)) ((L.map fun (x : Nat) => (x : Int)).length : Int) (i : Int)) ((List.range n).map fun m => sumN (isSw ws m) (pivF n) (2 ^ n))) L.length ?_ ?_ 0 (Nat.zero_le _)
    · exact h
    · refine Ev.step (fun k => by rw [spec_pwPivots.l1]) ?_
      refine Ev.neg (by simp) (Ev.pos (by simp; omega) ?_)
      rw [List.take_length, ← hs, wrap_next hm (by omega), ← map_next (fun m => sumN (isSw ws m) (pivF n) (2 ^ n))]
      exact ih
    · intro i hi ihi
      refine Ev.step (fun k => by rw [spec_pwPivots.l1]) ?_
      have hx := hL L[i] (List.getElem_mem hi)
      have hpc := popc_le L[i]
      refine Ev.pos (by rw [List.length_map]; omega) (Ev.pos (by omega) (Ev.pos (by rw [List.length_map]; omega) ?_))
      rw [rd_nat (by rw [List.length_map]; exact hi), List.getElem_map, wrap_next hi (by omega)]
      refine Ev.bind (spec_voList.ev h9 hx) ?_
      have e : (((bitsL L[i]).map fun (x : Nat) => (x : Int)).length : Int) = (popc L[i] : Int) := by simp [popc]
      have e2 : wrap64 (wrap64 ((n : Int) - 1) - (popc L[i] : Int)) = (n : Int) - 1 - popc L[i] := by rw [wrap_id (x := (n : Int) - 1) (by omega) (by omega), wrap_id (by omega) (by omega)]
      rw [e, e2]
      refine Ev.bind (spec_pwTimes.ev (by omega) (by omega)) (Ev.bind (spec_pwTimes.ev (by omega) (by omega)) ?_)
      have hv := pivF_le h9 L[i]
      have h3 := hb i
      have e3 : facI (popc L[i] : Int) * facI ((n : Int) - 1 - popc L[i]) = pivF n L[i] := rfl
      have e4 : ((L.take (i + 1)).map (pivF n)).sum = ((L.take i).map (pivF n)).sum + pivF n L[i] := by
        rw [List.take_succ_eq_append_getElem hi, List.map_append, List.sum_append]
        simp
      rw [e3, wrap_id (x := pivF n L[i]) (by omega) (by omega), wrap_id (by omega) (by omega), ← e4]
      exact ihi

-- NEEDS Pow
theorem impl_factorial.ev {d : Int} (h0 : -100 ≤ d) (h9 : d ≤ 9) : Ev (fun k => impl_factorial.f k d) (facI d) := by
  have key : ∀ n : Fin 110, impl_factorial.f 12 ((n.1 : Int) - 100) = some (facI ((n.1 : Int) - 100)) := by decide +kernel
  have h := key ⟨(d + 100).toNat, by omega⟩
  have e : (((d + 100).toNat : Nat) : Int) - 100 = d := by omega
  rw [e] at h
  exact Ev.of (fun k => impl_factorial.mono _ k) h

-- NEEDS Pow
theorem impl_count.all : ∀ m, m < 512 → impl_count.f ((m : Nat) : Int) = some ((popc m : Nat) : Int) := by decide +kernel
theorem impl_count.eq {m n : Nat} (h9 : n ≤ 9) (h : m < 2 ^ n) : impl_count.f (m : Int) = some (popc m : Int) := impl_count.all m (Nat.lt_of_lt_of_le h (pow9 h9).2)

-- NEEDS Pow
theorem impl_votes_pivots.ev (ws : List Bool) (n : Nat) (hN : ws.length = 2 ^ n) (h9 : n ≤ 9) : Ev (fun k => impl_votes_pivots.f k (n : Int) ws) ((List.range n).map fun m => sumN (isSw ws m) (pivF n) (2 ^ n)) := by
  unfold impl_votes_pivots.f
  have hp := pow9 h9
  refine Ev.pos (by omega) (Ev.pos (by omega) (Ev.one rfl ?_))
  rw [Int.toNat_natCast, List.length_replicate]
  have h := down (P := fun m => Ev (fun k => impl_votes_pivots.l0 k (fillN (fun m => sumN (isSw ws m) (pivF n) (2 ^ n)) n m 0) (n : Int) (m : Int) (n : Int) ws) ((List.range n).map fun m => sumN (isSw ws m) (pivF n) (2 ^ n))) n ?_ ?_ 0 (Nat.zero_le _)
  · rw [fillN_zero] at h
    exact h
  · refine Ev.step (fun k => by rw [impl_votes_pivots.l0]) ?_
    exact Ev.neg (by omega) ((Ev.now _).cast (fillN_end _ _))
  · intro m hm ih
    refine Ev.step (fun k => by rw [impl_votes_pivots.l0]) ?_
    refine Ev.pos (by omega) ?_
    have h := down (P := fun i => Ev (fun k => impl_votes_pivots.l1 k (fillN (fun m => sumN (isSw ws m) (pivF n) (2 ^ n)) n m (sumN (isSw ws m) (pivF n) i)) (m : Int) (n : Int) (m : Int) (ws.length : Int) (i : Int) (n : Int) ws) ((List.range n).map fun m => sumN (isSw ws m) (pivF n) (2 ^ n))) (2 ^ n) ?_ ?_ 0 (Nat.zero_le _)
    · exact h
    · refine Ev.step (fun k => by rw [impl_votes_pivots.l1]) ?_
      refine Ev.neg (by omega) ?_
      rw [fillN_next (fun m => sumN (isSw ws m) (pivF n) (2 ^ n)) n m, wrap_next hm (by omega)]
      exact ih
    · intro i hi ihi
      refine Ev.step (fun k => by rw [impl_votes_pivots.l1]) ?_
      refine Ev.pos (by omega) (Ev.one (impl_votes_isSwing.eq ws n m i _ hN h9 hm hi) ?_)
      rw [wrap_next hi (by omega)]
      cases hb : isSw ws m i with
      | true =>
        have hpc := popc_le i
        have h1 := sumN_le (p := isSw ws m) (g := pivF n) (B := 362880 * 362880) (by decide) (pivF_le h9) i
        have hv := pivF_le h9 i
        have h2 : (i : Int) * (362880 * 362880) ≤ 512 * (362880 * 362880) := Int.mul_le_mul_of_nonneg_right (by omega) (by decide)
        refine Ev.pos rfl (Ev.pos (by omega) (Ev.pos (by rw [fillN_length]; omega) (Ev.one (impl_count.eq h9 hi) (Ev.bind (impl_factorial.ev (by omega) (by omega)) (Ev.one (impl_count.eq h9 hi) ?_)))))
        have e2 : wrap64 (wrap64 ((n : Int) - 1) - (popc i : Int)) = (n : Int) - 1 - popc i := by rw [wrap_id (x := (n : Int) - 1) (by omega) (by omega), wrap_id (by omega) (by omega)]
        rw [e2]
        refine Ev.bind (impl_factorial.ev (by omega) (by omega)) ?_
        have e3 : facI (popc i : Int) * facI ((n : Int) - 1 - popc i) = pivF n i := rfl
        rw [e3, wrap_id (x := pivF n i) (by omega) (by omega), fillN_at hm, Int.toNat_natCast, fillN_set hm, wrap_id (by omega) (by omega), ← sumN_pos hb]
        exact ihi
      | false =>
        refine Ev.neg (by decide) ?_
        rw [← sumN_neg hb]
        exact ihi

end Go.Proofs.Ythjnmfacdlgbbaa.P
