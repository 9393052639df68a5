/- Plain facts of mine on printed functions: what they answer. No Go, no memory. -/
import Derived.Test.YthjnmfacdlgbbaaPx4
import Derived.Test.YthjnmfacdlgbbaaEv
import Derived.Test.YthjnmfacdlgbbaaPow
import Derived.Test.YthjnmfacdlgbbaaSets
import Derived.Test.YthjnmfacdlgbbaaPow
namespace Go.Proofs.Ythjnmfacdlgbbaa.P
open Go.RowKit Go.Proofs.YthjnmfacdlgbbaaW.PrintWords Go.Proofs.YthjnmfacdlgbbaaW.PrintLast Go.Proofs.YthjnmfacdlgbbaaW.PrintMore
set_option linter.unusedVariables false
set_option linter.unusedSimpArgs false

-- NEEDS Pow
theorem spec_pwSwings.ev (ws : List Bool) (n m : Nat) (hN : ws.length = 2 ^ n) (h9 : n ≤ 9) (hm : m < n) : Ev (fun k => spec_pwSwings.f k ws (m : Int)) (swL ws m (2 ^ n)) := by
  unfold spec_pwSwings.f
  have hp := pow9 h9
  have hm2 := Nat.two_pow_pos m
  have h := down (P := fun i => Ev (fun k => spec_pwSwings.l0 k ws (m : Int) (swL ws m i) ws (ws.length : Int) (i : Int)) (swL ws m (2 ^ n))) (2 ^ n) ?_ ?_ 0 (Nat.zero_le _)
  · exact h
  · refine Ev.step (fun k => by rw [spec_pwSwings.l0]) ?_
    exact Ev.neg (by omega) (Ev.now _)
  · intro i hi ih
    refine Ev.step (fun k => by rw [spec_pwSwings.l0]) ?_
    refine Ev.pos (by omega) (Ev.pos (by omega) (Ev.pos (by omega) (Ev.pos (by omega) ?_)))
    rw [rdOf_nat (by omega), wrap_next hi (by omega)]
    cases hb : i.testBit m with
    | true =>
      refine Ev.neg (by rw [mod_nat0 i m (by omega), hb]; decide) ?_
      rw [← swL_neg (show isSw ws m i = false by simp [isSw, hb])]
      exact ih
    | false =>
      refine Ev.pos ((mod_nat0 i m (by omega)).2 hb) ?_
      cases hw : ws[i]'(by omega) with
      | true =>
        refine Ev.pos rfl ?_
        rw [← swL_neg (show isSw ws m i = false by rw [isSw, getD_at (by omega), hw, hb]; rfl)]
        exact ih
      | false =>
        refine Ev.neg (by decide) ?_
        have h2 := add_bit_lt hi hm hb
        have e : wrap64 ((i : Int) + shl .i64 1 (m : Int)) = ((i + 2 ^ m : Nat) : Int) := by
          rw [shl_one (by omega), wrap_id (by omega) (by omega)]
          omega
        rw [e, rdOf_nat (by omega)]
        refine Ev.pos (by omega) (Ev.pos (by omega) ?_)
        cases hv : ws[i + 2 ^ m]'(by omega) with
        | true =>
          refine Ev.pos rfl (Ev.pos (by have := swL_le ws m i; omega) ?_)
          rw [← swL_pos (show isSw ws m i = true by rw [isSw, getD_at (by omega), getD_at (by omega), hw, hb, hv]; rfl)]
          exact ih
        | false =>
          refine Ev.neg (by decide) ?_
          rw [← swL_neg (show isSw ws m i = false by rw [isSw, getD_at (by omega), getD_at (by omega), hw, hb, hv]; rfl)]
          exact ih

theorem spec_voAll.eq {n : Nat} (hn : n ≤ 62) : spec_voAll.f (n : Int) = some ((2 ^ n - 1 : Nat) : Int) := by
  unfold spec_voAll.f
  have h0 : 1 ≤ 2 ^ n := Nat.one_le_two_pow
  have h1 := Nat.pow_le_pow_right (n := 2) (by omega) hn
  rw [if_pos (by omega), shl_one hn, wrap_id (by omega) (by omega)]
  congr 1
  omega

theorem spec_voWeight.ev (q : Int) (l : List Int) (m : Nat) (h9 : l.length ≤ 9) (hB : ∀ x ∈ l, 0 ≤ x ∧ x ≤ 1000) : Ev (fun k => spec_voWeight.f k q l (m : Int)) (wt l m) := by
  unfold spec_voWeight.f
  have h := down (P := fun i => Ev (fun k => spec_voWeight.l0 k (m : Int) (wt (l.take i) m) l (l.length : Int) (i : Int)) (wt l m)) l.length ?_ ?_ 0 (Nat.zero_le _)
  · exact h
  · refine Ev.step (fun k => by rw [spec_voWeight.l0]) ?_
    exact Ev.neg (by omega) ((Ev.now _).cast (by rw [List.take_length]))
  · intro i hi ih
    refine Ev.step (fun k => by rw [spec_voWeight.l0]) ?_
    refine Ev.pos (by omega) (Ev.pos (by omega) (Ev.pos (by omega) ?_))
    have h1 := wt_take_le hB m i (by omega)
    have h2 := hB l[i] (List.getElem_mem hi)
    have h3 := wt_take l m i hi
    rw [rd_nat hi, wrap_next hi (by omega)]
    by_cases ht : m.testBit i = true
    · rw [if_pos ht] at h3
      rw [wrap_id (by omega) (by omega), ← h3]
      exact Ev.pos ((mod_nat m i (by omega)).2 ht) ih
    · rw [if_neg ht, Int.add_zero] at h3
      rw [← h3]
      exact Ev.neg (fun h => ht ((mod_nat m i (by omega)).1 h)) ih

-- NEEDS Sets
theorem spec_voWins.ev (q : Int) (l : List Int) (h9 : l.length ≤ 9) (hB : ∀ x ∈ l, 0 ≤ x ∧ x ≤ 1000) : Ev (fun k => spec_voWins.f k q l) (winsC q l) := by
  unfold spec_voWins.f
  have hN := pow9 h9
  have h := down (P := fun i => Ev (fun k => spec_voWins.l0 k ((List.range i).map fun m => decide (q ≤ wt l m)) (i : Int) q l) (winsC q l)) (2 ^ l.length) ?_ ?_ 0 (Nat.zero_le _)
  · exact h
  · refine Ev.step (fun k => by rw [spec_voWins.l0]) ?_
    exact Ev.one (spec_voAll.eq (by omega)) (Ev.neg (by omega) (Ev.now _))
  · intro i hi ih
    refine Ev.step (fun k => by rw [spec_voWins.l0]) ?_
    refine Ev.one (spec_voAll.eq (by omega)) (Ev.pos (by omega) (Ev.bind (spec_voWeight.ev q l i h9 hB) (Ev.pos (by simp; omega) ?_)))
    rw [wrap_next hi (by omega)]
    have e : ((List.range i).map fun m => decide (q ≤ wt l m)) ++ [decide (wt l i ≥ q)] = (List.range (i + 1)).map fun m => decide (q ≤ wt l m) := by
      rw [List.range_succ, List.map_append]
      rfl
    rw [e]
    exact ih

theorem impl_Committee_votes.eq {q : Int} {l : List Int} (h : goodC q l = true) : impl_Committee_votes.f q l = some ((l.length : Int), winsC q l) := by
  obtain ⟨h1, h2, h3, h4, h5⟩ := goodC_iff.1 h
  unfold impl_Committee_votes.f
  rw [if_pos ⟨h2, all_mem.2 fun x hx => inB_iff.2 (h3 x hx)⟩]

-- NEEDS Pow
theorem impl_votes_isSwing.eq (ws : List Bool) (n m i : Nat) (x : Int) (hN : ws.length = 2 ^ n) (h9 : n ≤ 9) (hm : m < n) (hi : i < 2 ^ n) : impl_votes_isSwing.f x ws (i : Int) (m : Int) = some (isSw ws m i) := by
  have hp := pow9 h9
  have hm2 := Nat.two_pow_pos m
  have h2m : 2 ^ m < 2 ^ 63 := Nat.pow_lt_pow_right (by omega) (by omega)
  unfold impl_votes_isSwing.f
  rw [impl_has.nat (Nat.lt_of_lt_of_le hi (Nat.le_trans hp.2 (by decide))) (by omega), Option.bind_some]
  cases hb : i.testBit m with
  | true => simp [isSw, hb]
  | false =>
    rw [if_neg (by decide), if_pos (by omega), if_pos (by omega), rdOf_nat (by omega)]
    cases hw : ws[i]'(by omega) with
    | true => rw [if_pos rfl, isSw, getD_at (by omega), hw, hb]; rfl
    | false =>
      have h2 := add_bit_lt hi hm hb
      rw [if_neg (by decide), if_pos (by omega), shl_one (by omega), or_nat (Nat.lt_of_lt_of_le hi (Nat.le_trans hp.2 (by decide))) h2m, or_add m i hb, if_pos (by omega), if_pos (by omega), rdOf_nat (by omega), isSw, getD_at (by omega), getD_at (by omega), hw, hb]
      rfl

end Go.Proofs.Ythjnmfacdlgbbaa.P
