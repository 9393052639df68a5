/- Plain facts of mine on printed functions: what they answer. No Go, no memory. -/
import Derived.Test.YtchcpjmdmohngaaPx1
import Derived.Test.YtchcpjmdmohngaaEv
import Derived.Test.YtchcpjmdmohngaaSums
import Derived.Test.YtchcpjmdmohngaaSums
import Derived.Test.YtchcpjmdmohngaaSums
namespace Go.Proofs.Ytchcpjmdmohngaa.P
open Go.RowKit Go.Proofs.YtchcpjmdmohngaaW.PrintWords Go.Proofs.YtchcpjmdmohngaaW.PrintLast Go.Proofs.YtchcpjmdmohngaaW.PrintMore
set_option linter.unusedVariables false
set_option linter.unusedSimpArgs false

theorem laws_szIntS.eq (l : List Int) (a : Int) (h0 : 0 ≤ a) (h1 : a ≤ 9223372036854775807) (hn : l.length ≤ 9223372036854775807) : laws_szIntS.f l a = some (if a - l.length < 0 then -1 else a - l.length) := by
  unfold laws_szIntS.f
  rw [wrap_id (by omega) (by omega)]
  split <;> rfl

theorem laws_szCommittee.eq (q : Int) (l : List Int) (a : Int) (h0 : 0 ≤ a) (h1 : a ≤ 9223372036854775807) (hn : l.length ≤ 9223372036854775807) : laws_szCommittee.f q l a = some (if a - l.length < 0 then -1 else a - l.length) := by
  unfold laws_szCommittee.f
  rw [laws_szIntS.eq l a h0 h1 hn, Option.bind_some]
  by_cases h : a - l.length < 0
  · simp [h]
  · simp [h]

theorem spec_l1In.eq (a b c : Int) : spec_l1In.f a b c = some (inB b c a) := by
  unfold spec_l1In.f inB
  by_cases h : a ≥ b
  · simp [h]
  · simp [h]

theorem spec_l1All.ev (l : List Int) (a b : Int) (hn : l.length ≤ 9223372036854775807) : Ev (fun k => spec_l1All.f k l a b) (l.all (inB a b)) := by
  unfold spec_l1All.f
  have h := down (P := fun i => Ev (fun k => spec_l1All.l0 k a b l (l.length : Int) (i : Int)) ((l.drop i).all (inB a b))) l.length ?_ ?_ 0 (Nat.zero_le _)
  · simpa using h
  · refine Ev.step (fun k => by rw [spec_l1All.l0]) ?_
    exact Ev.neg (by omega) ((Ev.now _).cast (by simp))
  · intro i hi ih
    refine Ev.step (fun k => by rw [spec_l1All.l0]) ?_
    refine Ev.pos (by omega) (Ev.pos (by omega) (Ev.pos (by omega) ?_))
    refine Ev.one (spec_l1In.eq _ _ _) ?_
    rw [rd_nat hi, wrap_next hi hn]
    cases hq : inB a b l[i] with
    | true => exact Ev.pos rfl (ih.cast (by rw [drop_all _ _ _ hi, hq, Bool.true_and]))
    | false => exact Ev.neg (by decide) ((Ev.now _).cast (by rw [drop_all _ _ _ hi, hq, Bool.false_and]))

theorem spec_voSum.ev (l : List Int) (B : Int) (hB : ∀ x ∈ l, 0 ≤ x ∧ x ≤ B) (hn : l.length ≤ 1000000) (hb : B ≤ 1000000000000) : Ev (fun k => spec_voSum.f k l) l.sum := by
  unfold spec_voSum.f
  have h := down (P := fun i => Ev (fun k => spec_voSum.l0 k (l.take i).sum l (l.length : Int) (i : Int)) l.sum) l.length ?_ ?_ 0 (Nat.zero_le _)
  · simpa using h
  · refine Ev.step (fun k => by rw [spec_voSum.l0]) ?_
    exact Ev.neg (by omega) ((Ev.now _).cast (by simp))
  · intro i hi ih
    refine Ev.step (fun k => by rw [spec_voSum.l0]) ?_
    refine Ev.pos (by omega) (Ev.pos (by omega) (Ev.pos (by omega) ?_))
    have h1 := take_sum_le hB i (by omega)
    have h2 := hB l[i] (List.getElem_mem hi)
    have h3 : (i : Int) * B ≤ 1000000 * 1000000000000 := by
      have h4 : (i : Int) * B ≤ i * 1000000000000 := Int.mul_le_mul_of_nonneg_left hb (by omega)
      omega
    rw [rd_nat hi, wrap_next hi (by omega), wrap_id (by omega) (by omega), ← sum_take hi]
    exact ih

theorem spec_voGood.ev (q : Int) (l : List Int) (hn : l.length ≤ 9223372036854775807) : Ev (fun k => spec_voGood.f k q l) (goodC q l) := by
  unfold spec_voGood.f
  refine Ev.one (spec_l1In.eq _ _ _) ?_
  have hj : ∀ b : Bool, (b = false → l.length ≤ 9 ∧ l.all (inB 0 1000) = true) → Ev (fun k => spec_voGood.j0 k b q l) (!b && inB 1 l.sum q) := by
    intro b hb
    refine Ev.step (fun k => by rw [spec_voGood.j0]) ?_
    cases b with
    | true => exact Ev.pos rfl (Ev.now _)
    | false =>
      obtain ⟨h1, h2⟩ := hb rfl
      refine Ev.neg (by decide) (Ev.bind (spec_voSum.ev l 1000 (fun x hx => inB_iff.1 (all_mem.1 h2 x hx)) (by omega) (by omega)) (Ev.one (spec_l1In.eq _ _ _) ((Ev.now _).cast (by simp))))
  cases h1 : inB 1 9 (l.length : Int) with
  | false => exact Ev.neg (by decide) ((hj true (by simp)).cast (by simp [goodC, h1]))
  | true =>
    refine Ev.pos rfl (Ev.bind (spec_l1All.ev l 0 1000 hn) ((hj _ ?_).cast ?_))
    · intro h2
      have := inB_iff.1 h1
      exact ⟨by omega, by simpa using h2⟩
    · simp [goodC, h1]

theorem spec_voAll.eq {n : Nat} (hn : n ≤ 62) : spec_voAll.f (n : Int) = some ((2 ^ n - 1 : Nat) : Int) := by
  unfold spec_voAll.f
  have h0 : 1 ≤ 2 ^ n := Nat.one_le_two_pow
  have h1 := Nat.pow_le_pow_right (n := 2) (by omega) hn
  rw [if_pos (by omega), shl_one hn, wrap_id (by omega) (by omega)]
  congr 1
  omega

theorem spec_voWeight.ev (q : Int) (l : List Int) (m : Nat) (h9 : l.length ≤ 9) (hB : ∀ x ∈ l, 0 ≤ x ∧ x ≤ 1000) : Ev (fun k => spec_voWeight.f k q l (m : Int)) (wt l m) := by
  unfold spec_voWeight.f
  have h := down (P := fun i => Ev (fun k => spec_voWeight.l0 k (m : Int) (wt (l.take i) m) l (l.length : Int) (i : Int)) (wt l m)) l.length ?_ ?_ 0 (Nat.zero_le _)
  · exact h
  · refine Ev.step (fun k => by rw [spec_voWeight.l0]) ?_
    exact Ev.neg (by omega) ((Ev.now _).cast (by rw [List.take_length]))
  · intro i hi ih
    refine Ev.step (fun k => by rw [spec_voWeight.l0]) ?_
    refine Ev.pos (by omega) (Ev.pos (by omega) (Ev.pos (by omega) ?_))
    have h1 := wt_take_le hB m i (by omega)
    have h2 := hB l[i] (List.getElem_mem hi)
    have h3 := wt_take l m i hi
    rw [rd_nat hi, wrap_next hi (by omega)]
    by_cases ht : m.testBit i = true
    · rw [if_pos ht] at h3
      rw [wrap_id (by omega) (by omega), ← h3]
      exact Ev.pos ((mod_nat m i (by omega)).2 ht) ih
    · rw [if_neg ht, Int.add_zero] at h3
      rw [← h3]
      exact Ev.neg (fun h => ht ((mod_nat m i (by omega)).1 h)) ih

theorem spec_l1Has.ev (l : List Int) (x : Int) (hn : l.length ≤ 9223372036854775807) : Ev (fun k => spec_l1Has.f k l x) (l.contains x) := by
  unfold spec_l1Has.f
  have h := down (P := fun i => Ev (fun k => spec_l1Has.l0 k x l (l.length : Int) (i : Int)) ((l.drop i).contains x)) l.length ?_ ?_ 0 (Nat.zero_le _)
  · exact h
  · refine Ev.step (fun k => by rw [spec_l1Has.l0]) ?_
    exact Ev.neg (by omega) ((Ev.now _).cast (by simp))
  · intro i hi ih
    refine Ev.step (fun k => by rw [spec_l1Has.l0]) ?_
    refine Ev.pos (by omega) (Ev.pos (by omega) (Ev.pos (by omega) ?_))
    rw [rd_nat hi, wrap_next hi hn, List.drop_eq_getElem_cons hi, List.contains_cons]
    by_cases h : l[i] = x
    · exact Ev.pos h ((Ev.now _).cast (by simp [h]))
    · exact Ev.neg h (ih.cast (by rw [beq_false_of_ne (fun e => h e.symm), Bool.false_or]))

-- NEEDS Sums
theorem spec_l1Put.ev (l : List Int) (n : Int) (hn : l.length ≤ 1000000) : Ev (fun k => spec_l1Put.f k l n) (putL l n) := by
  unfold spec_l1Put.f
  have h := down (P := fun i => Ev (fun k => spec_l1Put.l0 k l n (i : Int)) (l.take i ++ putL (l.drop i) n)) l.length ?_ ?_ 0 (Nat.zero_le _)
  · exact h
  · refine Ev.step (fun k => by rw [spec_l1Put.l0]) ?_
    refine Ev.neg (by omega) ?_
    simp only [Option.bind_some, List.nil_append, Int.toNat_natCast]
    refine Ev.pos (by omega) (Ev.pos (by omega) (Ev.pos (by simp; omega) (Ev.pos (by simp; omega) (Ev.pos (by simp; omega) ((Ev.now _).cast ?_)))))
    simp [putL]
  · intro i hi ih
    refine Ev.step (fun k => by rw [spec_l1Put.l0]) ?_
    rw [rd_nat hi, wrap_next hi (by omega)]
    have e1 : l.drop i = l[i] :: l.drop (i + 1) := List.drop_eq_getElem_cons hi
    have e2 : l.take (i + 1) = l.take i ++ [l[i]] := List.take_succ_eq_append_getElem hi
    refine Ev.pos (by omega) (Ev.pos (by omega) ?_)
    by_cases h1 : l[i] < n
    · refine Ev.pos h1 (ih.cast ?_)
      rw [e1, e2, putL, if_pos h1, List.append_assoc]
      rfl
    · refine Ev.neg h1 ?_
      by_cases h2 : l[i] = n
      · refine Ev.pos h2 ((Ev.now _).cast ?_)
        rw [e1, putL, if_neg h1, if_pos h2, ← e1, List.take_append_drop]
      · refine Ev.neg h2 ?_
        simp only [Option.bind_some, List.nil_append, Int.toNat_natCast]
        refine Ev.pos (by omega) (Ev.pos (by simp; omega) (Ev.pos (by simp; omega) (Ev.pos (by simp; omega) ((Ev.now _).cast ?_))))
        rw [e1, putL, if_neg h1, if_neg h2, List.append_assoc]
        rfl

-- NEEDS Sums
theorem spec_shSums.ev (q : Int) (l : List Int) (h9 : l.length ≤ 9) (hB : ∀ x ∈ l, 0 ≤ x ∧ x ≤ 1000) : Ev (fun k => spec_shSums.f k q l) (sumsS l) := by
  unfold spec_shSums.f
  have hp := pow9 h9
  have h := down (P := fun i => Ev (fun k => spec_shSums.l0 k (sumsTo l i) ((i : Int) + 1) q l) (sumsS l)) (2 ^ l.length - 1) ?_ ?_ 0 (Nat.zero_le _)
  · exact h
  · refine Ev.step (fun k => by rw [spec_shSums.l0]) ?_
    exact Ev.one (spec_voAll.eq (by omega)) (Ev.neg (by omega) (Ev.now _))
  · intro i hi ih
    refine Ev.step (fun k => by rw [spec_shSums.l0]) ?_
    have hl := sumsTo_length l i
    have e : wrap64 ((i : Int) + 1 + 1) = ((i + 1 : Nat) : Int) + 1 := by
      rw [wrap_id (by omega) (by omega)]
      omega
    have hc : ((i : Int) + 1) = ((i + 1 : Nat) : Int) := by omega
    rw [e]
    rw [sumsTo] at ih
    refine Ev.one (spec_voAll.eq (by omega)) (Ev.pos (by omega) ?_)
    rw [hc]
    refine Ev.bind (spec_voWeight.ev q l (i + 1) h9 hB) ?_
    by_cases h1 : 0 < wt l (i + 1)
    · refine Ev.pos h1 (Ev.bind (spec_l1Has.ev _ _ (by omega)) ?_)
      by_cases h2 : wt l (i + 1) ∈ sumsTo l i
      · rw [if_neg (fun h3 => h3.2 h2)] at ih
        refine Ev.pos (by simpa using h2) ?_
        exact ih
      · rw [if_pos ⟨h1, h2⟩] at ih
        refine Ev.neg (by simpa using h2) (Ev.bind (spec_l1Put.ev _ _ (by omega)) ?_)
        exact ih
    · rw [if_neg (fun h3 => h1 h3.1)] at ih
      refine Ev.neg h1 ?_
      exact ih

theorem laws_toIntS.ev (l : List Int) (hn : l.length ≤ 35184372088832) : Ev (fun k => laws_toIntS.f k l) l := by
  unfold laws_toIntS.f
  refine Ev.pos (by omega) (Ev.pos (by omega) ?_)
  rw [Int.toNat_natCast]
  have h := down (P := fun i => Ev (fun k => laws_toIntS.l0 k l (l.take i ++ List.replicate (l.length - i) 0) (i : Int)) l) l.length ?_ ?_ 0 (Nat.zero_le _)
  · simpa using h
  · refine Ev.step (fun k => by rw [laws_toIntS.l0]) ?_
    exact Ev.neg (by omega) ((Ev.now _).cast (by simp))
  · intro i hi ih
    refine Ev.step (fun k => by rw [laws_toIntS.l0]) ?_
    refine Ev.pos (by omega) (Ev.pos (by omega) (Ev.pos (by simp; omega) ?_))
    rw [rd_nat hi, wrap_next hi (by omega), Int.toNat_natCast]
    have e : (l.take i ++ List.replicate (l.length - i) 0).set i l[i] = l.take (i + 1) ++ List.replicate (l.length - (i + 1)) 0 := by
      rw [List.set_append_right _ _ (by simp; omega), List.length_take, Nat.min_eq_left (by omega), Nat.sub_self]
      obtain ⟨d, hd⟩ : ∃ d, l.length - i = d + 1 := ⟨l.length - i - 1, by omega⟩
      rw [hd, List.replicate_succ, List.set_cons_zero, show l.length - (i + 1) = d by omega, List.take_succ_eq_append_getElem hi, List.append_assoc]
      rfl
    rw [e]
    exact ih

theorem laws_toCommittee.ev (q : Int) (l : List Int) (hn : l.length ≤ 35184372088832) : Ev (fun k => laws_toCommittee.f k q l) (q, l) := by
  unfold laws_toCommittee.f
  exact Ev.bind (laws_toIntS.ev l hn) (Ev.now _)

theorem impl_within.eq (a b c : Int) : impl_within.f a b c = some (inB b c a) := by
  unfold impl_within.f inB
  by_cases h : a ≥ b
  · simp [h]
  · simp [h]

theorem impl_sumOf.ev (l : List Int) (B : Int) (hB : ∀ x ∈ l, 0 ≤ x ∧ x ≤ B) (hn : l.length ≤ 1000000) (hb : B ≤ 1000000000000) : Ev (fun k => impl_sumOf.f k l) l.sum := by
  unfold impl_sumOf.f
  have h := down (P := fun i => Ev (fun k => impl_sumOf.l0 k (l.take i).sum l (l.length : Int) (i : Int)) l.sum) l.length ?_ ?_ 0 (Nat.zero_le _)
  · simpa using h
  · refine Ev.step (fun k => by rw [impl_sumOf.l0]) ?_
    exact Ev.neg (by omega) ((Ev.now _).cast (by simp))
  · intro i hi ih
    refine Ev.step (fun k => by rw [impl_sumOf.l0]) ?_
    refine Ev.pos (by omega) (Ev.pos (by omega) (Ev.pos (by omega) ?_))
    have h1 := take_sum_le hB i (by omega)
    have h2 := hB l[i] (List.getElem_mem hi)
    have h3 : (i : Int) * B ≤ 1000000 * 1000000000000 := by
      have h4 : (i : Int) * B ≤ i * 1000000000000 := Int.mul_le_mul_of_nonneg_left hb (by omega)
      omega
    rw [rd_nat hi, wrap_next hi (by omega), wrap_id (by omega) (by omega), ← sum_take hi]
    exact ih

theorem impl_IsCommittee.ev (q : Int) (l : List Int) (hn : l.length ≤ 9223372036854775807) : Ev (fun k => impl_IsCommittee.f k q l) (goodC q l) := by
  unfold impl_IsCommittee.f
  by_cases h0 : (l.length : Int) ≥ 1
  · refine Ev.pos h0 ?_
    by_cases h1 : (l.length : Int) ≤ 9
    · refine Ev.pos h1 (Ev.one (show impl_areIn.f l 0 1000 = some _ from rfl) ?_)
      have hi : inB 1 9 (l.length : Int) = true := inB_iff.2 ⟨h0, h1⟩
      cases h2 : l.all (inB 0 1000) with
      | false => exact Ev.neg (by decide) ((Ev.now _).cast (by simp [goodC, h2]))
      | true =>
        refine Ev.pos rfl (Ev.bind (impl_sumOf.ev l 1000 (fun x hx => inB_iff.1 (all_mem.1 h2 x hx)) (by omega) (by omega)) (Ev.one (impl_within.eq _ _ _) ((Ev.now _).cast ?_)))
        simp [goodC, h2, hi]
    · refine Ev.neg h1 ((Ev.now _).cast ?_)
      have hi : inB 1 9 (l.length : Int) = false := inB_not.2 (fun h => h1 h.2)
      simp [goodC, hi]
  · refine Ev.neg h0 ((Ev.now _).cast ?_)
    have hi : inB 1 9 (l.length : Int) = false := inB_not.2 (fun h => h0 h.1)
    simp [goodC, hi]

-- NEEDS Sums
theorem impl_Committee_sums.ev (q : Int) (l : List Int) (h9 : l.length ≤ 9) (hB : ∀ x ∈ l, 0 ≤ x ∧ x ≤ 1000) : Ev (fun k => impl_Committee_sums.f k q l) (0 :: sumsS l) := by
  have hp := pow9 h9
  obtain ⟨K, hK⟩ := Ev.each (fun k (m : Nat) => impl_Committee_weight.f k q l (m : Int)) (fun m => wt l m) (List.range (2 ^ l.length)) (fun m hm => impl_Committee_weight.ev q l m h9 hB (by have := List.mem_range.1 hm; omega))
  refine ⟨K, fun k hk => ?_⟩
  have h8 := hK k hk
  show impl_Committee_sums.f k q l = some (0 :: sumsS l)
  unfold impl_Committee_sums.f
  rw [if_pos ⟨h9, List.all_eq_true.2 fun m hm => by rw [h8 m hm]; rfl⟩]
  have e : impl_Committee_sums.ms k q l (2 ^ l.length) = (List.range (2 ^ l.length)).map fun m => wt l m := List.map_congr_left (fun m hm => by rw [h8 m hm]; rfl)
  rw [e, ← sumsS_impl hB]
  rfl

theorem laws_eqIntS.ev (l : List Int) (hn : l.length ≤ 9223372036854775807) : Ev (fun k => laws_eqIntS.f k l l) true := by
  unfold laws_eqIntS.f
  refine Ev.pos rfl ?_
  have h := down (P := fun i => Ev (fun k => laws_eqIntS.l0 k l l (i : Int)) true) l.length ?_ ?_ 0 (Nat.zero_le _)
  · exact h
  · refine Ev.step (fun k => by rw [laws_eqIntS.l0]) ?_
    exact Ev.neg (by omega) (Ev.now _)
  · intro i hi ih
    refine Ev.step (fun k => by rw [laws_eqIntS.l0]) ?_
    refine Ev.pos (by omega) (Ev.pos (by omega) (Ev.pos (by omega) (Ev.pos rfl ?_)))
    rw [wrap_next hi hn]
    exact ih

theorem laws_eqCommittee.ev (q : Int) (l : List Int) (hn : l.length ≤ 9223372036854775807) : Ev (fun k => laws_eqCommittee.f k q l q l) true := by
  unfold laws_eqCommittee.f
  exact Ev.pos rfl (Ev.bind (laws_eqIntS.ev l hn) (Ev.pos rfl (Ev.now _)))

end Go.Proofs.Ytchcpjmdmohngaa.P
