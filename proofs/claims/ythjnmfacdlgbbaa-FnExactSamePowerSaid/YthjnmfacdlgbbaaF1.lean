/- Plain facts of mine on printed functions: what they answer. No Go, no memory. -/
import Derived.Test.YthjnmfacdlgbbaaPx1
import Derived.Test.YthjnmfacdlgbbaaEv
namespace Go.Proofs.Ythjnmfacdlgbbaa.P
open Go.RowKit Go.Proofs.YthjnmfacdlgbbaaW.PrintWords Go.Proofs.YthjnmfacdlgbbaaW.PrintLast Go.Proofs.YthjnmfacdlgbbaaW.PrintMore
set_option linter.unusedVariables false
set_option linter.unusedSimpArgs false

theorem spec_l1In.eq (a b c : Int) : spec_l1In.f a b c = some (inB b c a) := by
  unfold spec_l1In.f inB
  by_cases h : a ≥ b
  · simp [h]
  · simp [h]

theorem spec_voSum.ev (l : List Int) (B : Int) (hB : ∀ x ∈ l, 0 ≤ x ∧ x ≤ B) (hn : l.length ≤ 1000000) (hb : B ≤ 1000000000000) : Ev (fun k => spec_voSum.f k l) l.sum := by
  unfold spec_voSum.f
  have h := down (P := fun i => Ev (fun k => spec_voSum.l0 k (l.take i).sum l (l.length : Int) (i : Int)) l.sum) l.length ?_ ?_ 0 (Nat.zero_le _)
  · simpa using h
  · refine Ev.step (fun k => by rw [spec_voSum.l0]) ?_
    exact Ev.neg (by omega) ((Ev.now _).cast (by simp))
  · intro i hi ih
    refine Ev.step (fun k => by rw [spec_voSum.l0]) ?_
    refine Ev.pos (by omega) (Ev.pos (by omega) (Ev.pos (by omega) ?_))
    have h1 := take_sum_le hB i (by omega)
    have h2 := hB l[i] (List.getElem_mem hi)
    have h3 : (i : Int) * B ≤ 1000000 * 1000000000000 := by
      have h4 : (i : Int) * B ≤ i * 1000000000000 := Int.mul_le_mul_of_nonneg_left hb (by omega)
      omega
    rw [rd_nat hi, wrap_next hi (by omega), wrap_id (by omega) (by omega), ← sum_take hi]
    exact ih

theorem spec_l1All.ev (l : List Int) (a b : Int) (hn : l.length ≤ 9223372036854775807) : Ev (fun k => spec_l1All.f k l a b) (l.all (inB a b)) := by
  unfold spec_l1All.f
  have h := down (P := fun i => Ev (fun k => spec_l1All.l0 k a b l (l.length : Int) (i : Int)) ((l.drop i).all (inB a b))) l.length ?_ ?_ 0 (Nat.zero_le _)
  · simpa using h
  · refine Ev.step (fun k => by rw [spec_l1All.l0]) ?_
    exact Ev.neg (by omega) ((Ev.now _).cast (by simp))
  · intro i hi ih
    refine Ev.step (fun k => by rw [spec_l1All.l0]) ?_
    refine Ev.pos (by omega) (Ev.pos (by omega) (Ev.pos (by omega) ?_))
    refine Ev.one (spec_l1In.eq _ _ _) ?_
    rw [rd_nat hi, wrap_next hi hn]
    cases hq : inB a b l[i] with
    | true => exact Ev.pos rfl (ih.cast (by rw [drop_all _ _ _ hi, hq, Bool.true_and]))
    | false => exact Ev.neg (by decide) ((Ev.now _).cast (by rw [drop_all _ _ _ hi, hq, Bool.false_and]))

theorem laws_toIntS.ev (l : List Int) (hn : l.length ≤ 35184372088832) : Ev (fun k => laws_toIntS.f k l) l := by
  unfold laws_toIntS.f
  refine Ev.pos (by omega) (Ev.pos (by omega) ?_)
  rw [Int.toNat_natCast]
  have h := down (P := fun i => Ev (fun k => laws_toIntS.l0 k l (l.take i ++ List.replicate (l.length - i) 0) (i : Int)) l) l.length ?_ ?_ 0 (Nat.zero_le _)
  · simpa using h
  · refine Ev.step (fun k => by rw [laws_toIntS.l0]) ?_
    exact Ev.neg (by omega) ((Ev.now _).cast (by simp))
  · intro i hi ih
    refine Ev.step (fun k => by rw [laws_toIntS.l0]) ?_
    refine Ev.pos (by omega) (Ev.pos (by omega) (Ev.pos (by simp; omega) ?_))
    rw [rd_nat hi, wrap_next hi (by omega), Int.toNat_natCast]
    have e : (l.take i ++ List.replicate (l.length - i) 0).set i l[i] = l.take (i + 1) ++ List.replicate (l.length - (i + 1)) 0 := by
      rw [List.set_append_right _ _ (by simp; omega), List.length_take, Nat.min_eq_left (by omega), Nat.sub_self]
      obtain ⟨d, hd⟩ : ∃ d, l.length - i = d + 1 := ⟨l.length - i - 1, by omega⟩
      rw [hd, List.replicate_succ, List.set_cons_zero, show l.length - (i + 1) = d by omega, List.take_succ_eq_append_getElem hi, List.append_assoc]
      rfl
    rw [e]
    exact ih

theorem impl_within.eq (a b c : Int) : impl_within.f a b c = some (inB b c a) := by
  unfold impl_within.f inB
  by_cases h : a ≥ b
  · simp [h]
  · simp [h]

theorem impl_sumOf.ev (l : List Int) (B : Int) (hB : ∀ x ∈ l, 0 ≤ x ∧ x ≤ B) (hn : l.length ≤ 1000000) (hb : B ≤ 1000000000000) : Ev (fun k => impl_sumOf.f k l) l.sum := by
  unfold impl_sumOf.f
  have h := down (P := fun i => Ev (fun k => impl_sumOf.l0 k (l.take i).sum l (l.length : Int) (i : Int)) l.sum) l.length ?_ ?_ 0 (Nat.zero_le _)
  · simpa using h
  · refine Ev.step (fun k => by rw [impl_sumOf.l0]) ?_
    exact Ev.neg (by omega) ((Ev.now _).cast (by simp))
  · intro i hi ih
    refine Ev.step (fun k => by rw [impl_sumOf.l0]) ?_
    refine Ev.pos (by omega) (Ev.pos (by omega) (Ev.pos (by omega) ?_))
    have h1 := take_sum_le hB i (by omega)
    have h2 := hB l[i] (List.getElem_mem hi)
    have h3 : (i : Int) * B ≤ 1000000 * 1000000000000 := by
      have h4 : (i : Int) * B ≤ i * 1000000000000 := Int.mul_le_mul_of_nonneg_left hb (by omega)
      omega
    rw [rd_nat hi, wrap_next hi (by omega), wrap_id (by omega) (by omega), ← sum_take hi]
    exact ih

theorem impl_IsCommittee.ev (q : Int) (l : List Int) (hn : l.length ≤ 9223372036854775807) : Ev (fun k => impl_IsCommittee.f k q l) (goodC q l) := by
  unfold impl_IsCommittee.f
  by_cases h0 : (l.length : Int) ≥ 1
  · refine Ev.pos h0 ?_
    by_cases h1 : (l.length : Int) ≤ 9
    · refine Ev.pos h1 (Ev.one (show impl_areIn.f l 0 1000 = some _ from rfl) ?_)
      have hi : inB 1 9 (l.length : Int) = true := inB_iff.2 ⟨h0, h1⟩
      cases h2 : l.all (inB 0 1000) with
      | false => exact Ev.neg (by decide) ((Ev.now _).cast (by simp [goodC, h2]))
      | true =>
        refine Ev.pos rfl (Ev.bind (impl_sumOf.ev l 1000 (fun x hx => inB_iff.1 (all_mem.1 h2 x hx)) (by omega) (by omega)) (Ev.one (impl_within.eq _ _ _) ((Ev.now _).cast ?_)))
        simp [goodC, h2, hi]
    · refine Ev.neg h1 ((Ev.now _).cast ?_)
      have hi : inB 1 9 (l.length : Int) = false := inB_not.2 (fun h => h1 h.2)
      simp [goodC, hi]
  · refine Ev.neg h0 ((Ev.now _).cast ?_)
    have hi : inB 1 9 (l.length : Int) = false := inB_not.2 (fun h => h0 h.1)
    simp [goodC, hi]

theorem laws_eqIntS.ev (l : List Int) (hn : l.length ≤ 9223372036854775807) : Ev (fun k => laws_eqIntS.f k l l) true := by
  unfold laws_eqIntS.f
  refine Ev.pos rfl ?_
  have h := down (P := fun i => Ev (fun k => laws_eqIntS.l0 k l l (i : Int)) true) l.length ?_ ?_ 0 (Nat.zero_le _)
  · exact h
  · refine Ev.step (fun k => by rw [laws_eqIntS.l0]) ?_
    exact Ev.neg (by omega) (Ev.now _)
  · intro i hi ih
    refine Ev.step (fun k => by rw [laws_eqIntS.l0]) ?_
    refine Ev.pos (by omega) (Ev.pos (by omega) (Ev.pos (by omega) (Ev.pos rfl ?_)))
    rw [wrap_next hi hn]
    exact ih

theorem laws_eqCommittee.ev (q : Int) (l : List Int) (hn : l.length ≤ 9223372036854775807) : Ev (fun k => laws_eqCommittee.f k q l q l) true := by
  unfold laws_eqCommittee.f
  exact Ev.pos rfl (Ev.bind (laws_eqIntS.ev l hn) (Ev.pos rfl (Ev.now _)))

end Go.Proofs.Ythjnmfacdlgbbaa.P
