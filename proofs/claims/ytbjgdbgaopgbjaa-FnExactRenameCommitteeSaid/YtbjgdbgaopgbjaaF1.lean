/- Plain facts of mine on printed functions: what they answer. No Go, no memory. -/
import Derived.Test.YtbjgdbgaopgbjaaPx1
import Derived.Test.YtbjgdbgaopgbjaaEv
import Derived.Test.YtbjgdbgaopgbjaaSets
import Derived.Test.YtbjgdbgaopgbjaaSets
import Derived.Test.YtbjgdbgaopgbjaaPow
import Derived.Test.YtbjgdbgaopgbjaaPow
import Derived.Test.YtbjgdbgaopgbjaaPow
import Derived.Test.YtbjgdbgaopgbjaaSets
import Derived.Test.YtbjgdbgaopgbjaaPow
namespace Go.Proofs.Ytbjgdbgaopgbjaa.P
open Go.RowKit Go.Proofs.YtbjgdbgaopgbjaaW.PrintWords Go.Proofs.YtbjgdbgaopgbjaaW.PrintLast Go.Proofs.YtbjgdbgaopgbjaaW.PrintMore
set_option linter.unusedVariables false
set_option linter.unusedSimpArgs false

theorem laws_szIntS.eq (l : List Int) (a : Int) (h0 : 0 ≤ a) (h1 : a ≤ 9223372036854775807) (hn : l.length ≤ 9223372036854775807) : laws_szIntS.f l a = some (if a - l.length < 0 then -1 else a - l.length) := by
  unfold laws_szIntS.f
  rw [wrap_id (by omega) (by omega)]
  split <;> rfl

theorem laws_szCommittee.eq (q : Int) (l : List Int) (a : Int) (h0 : 0 ≤ a) (h1 : a ≤ 9223372036854775807) (hn : l.length ≤ 9223372036854775807) : laws_szCommittee.f q l a = some (if a - l.length < 0 then -1 else a - l.length) := by
  unfold laws_szCommittee.f
  rw [laws_szIntS.eq l a h0 h1 hn, Option.bind_some]
  by_cases h : a - l.length < 0
  · simp [h]
  · simp [h]

theorem laws_toIntS.ev (l : List Int) (hn : l.length ≤ 35184372088832) : Ev (fun k => laws_toIntS.f k l) l := by
  unfold laws_toIntS.f
  refine Ev.pos (by omega) (Ev.pos (by omega) ?_)
  rw [Int.toNat_natCast]
  have h := down (P := fun i => Ev (fun k => laws_toIntS.l0 k l (l.take i ++ List.replicate (l.length - i) 0) (i : Int)) l) l.length ?_ ?_ 0 (Nat.zero_le _)
  · simpa using h
  · refine Ev.step (fun k => by rw [laws_toIntS.l0]) ?_
    exact Ev.neg (by omega) ((Ev.now _).cast (by simp))
  · intro i hi ih
    refine Ev.step (fun k => by rw [laws_toIntS.l0]) ?_
    refine Ev.pos (by omega) (Ev.pos (by omega) (Ev.pos (by simp; omega) ?_))
    rw [rd_nat hi, wrap_next hi (by omega), Int.toNat_natCast]
    have e : (l.take i ++ List.replicate (l.length - i) 0).set i l[i] = l.take (i + 1) ++ List.replicate (l.length - (i + 1)) 0 := by
      rw [List.set_append_right _ _ (by simp; omega), List.length_take, Nat.min_eq_left (by omega), Nat.sub_self]
      obtain ⟨d, hd⟩ : ∃ d, l.length - i = d + 1 := ⟨l.length - i - 1, by omega⟩
      rw [hd, List.replicate_succ, List.set_cons_zero, show l.length - (i + 1) = d by omega, List.take_succ_eq_append_getElem hi, List.append_assoc]
      rfl
    rw [e]
    exact ih

theorem laws_toCommittee.ev (q : Int) (l : List Int) (hn : l.length ≤ 35184372088832) : Ev (fun k => laws_toCommittee.f k q l) (q, l) := by
  unfold laws_toCommittee.f
  exact Ev.bind (laws_toIntS.ev l hn) (Ev.now _)

theorem laws_eqIntS.ev (l : List Int) (hn : l.length ≤ 9223372036854775807) : Ev (fun k => laws_eqIntS.f k l l) true := by
  unfold laws_eqIntS.f
  refine Ev.pos rfl ?_
  have h := down (P := fun i => Ev (fun k => laws_eqIntS.l0 k l l (i : Int)) true) l.length ?_ ?_ 0 (Nat.zero_le _)
  · exact h
  · refine Ev.step (fun k => by rw [laws_eqIntS.l0]) ?_
    exact Ev.neg (by omega) (Ev.now _)
  · intro i hi ih
    refine Ev.step (fun k => by rw [laws_eqIntS.l0]) ?_
    refine Ev.pos (by omega) (Ev.pos (by omega) (Ev.pos (by omega) (Ev.pos rfl ?_)))
    rw [wrap_next hi hn]
    exact ih

theorem laws_eqCommittee.ev (q : Int) (l : List Int) (hn : l.length ≤ 9223372036854775807) : Ev (fun k => laws_eqCommittee.f k q l q l) true := by
  unfold laws_eqCommittee.f
  exact Ev.pos rfl (Ev.bind (laws_eqIntS.ev l hn) (Ev.pos rfl (Ev.now _)))

-- NEEDS Sets
theorem laws_markIntS.ev (l : List Int) (k0 : Int) (h0 : 0 ≤ k0) (h1 : k0 ≤ 1000000000000) (hn : l.length ≤ 1000000000000) : Ev (fun k => laws_markIntS.f k l k0) (k0 + l.length, seqI k0 l.length) := by
  unfold laws_markIntS.f
  have h := down (P := fun i => Ev (fun k => laws_markIntS.l0 k (seqI k0 i ++ l.drop i) (k0 + i) (i : Int)) (k0 + l.length, seqI k0 l.length)) l.length ?_ ?_ 0 (Nat.zero_le _)
  · simpa [seqI] using h
  · refine Ev.step (fun k => by rw [laws_markIntS.l0]) ?_
    exact Ev.neg (by simp [seqI]) ((Ev.now _).cast (by simp))
  · intro i hi ih
    refine Ev.step (fun k => by rw [laws_markIntS.l0]) ?_
    refine Ev.pos (by simp [seqI]; omega) (Ev.pos (by omega) ?_)
    rw [wrap_next hi (by omega), wrap_id (by omega) (by omega), Int.toNat_natCast]
    have e : (seqI k0 i ++ l.drop i).set i (k0 + i) = seqI k0 (i + 1) ++ l.drop (i + 1) := by
      rw [List.set_append_right _ _ (by simp [seqI]), seqI_length, Nat.sub_self, List.drop_eq_getElem_cons hi, List.set_cons_zero]
      unfold seqI
      rw [List.range_succ, List.map_append, List.append_assoc]
      rfl
    have e2 : k0 + (i : Int) + 1 = k0 + ((i + 1 : Nat) : Int) := by omega
    rw [e, e2]
    exact ih

-- NEEDS Sets
theorem laws_markCommittee.ev (q : Int) (l : List Int) (k0 : Int) (h0 : 0 ≤ k0) (h1 : k0 ≤ 1000000000000) (hn : l.length ≤ 1000000000000) : Ev (fun k => laws_markCommittee.f k q l k0) (k0 + l.length, seqI k0 l.length) := by
  unfold laws_markCommittee.f
  exact Ev.bind (laws_markIntS.ev l k0 h0 h1 hn) (Ev.now _)

theorem spec_l1In.eq (a b c : Int) : spec_l1In.f a b c = some (inB b c a) := by
  unfold spec_l1In.f inB
  by_cases h : a ≥ b
  · simp [h]
  · simp [h]

theorem spec_voSum.ev (l : List Int) (B : Int) (hB : ∀ x ∈ l, 0 ≤ x ∧ x ≤ B) (hn : l.length ≤ 1000000) (hb : B ≤ 1000000000000) : Ev (fun k => spec_voSum.f k l) l.sum := by
  unfold spec_voSum.f
  have h := down (P := fun i => Ev (fun k => spec_voSum.l0 k (l.take i).sum l (l.length : Int) (i : Int)) l.sum) l.length ?_ ?_ 0 (Nat.zero_le _)
  · simpa using h
  · refine Ev.step (fun k => by rw [spec_voSum.l0]) ?_
    exact Ev.neg (by omega) ((Ev.now _).cast (by simp))
  · intro i hi ih
    refine Ev.step (fun k => by rw [spec_voSum.l0]) ?_
    refine Ev.pos (by omega) (Ev.pos (by omega) (Ev.pos (by omega) ?_))
    have h1 := take_sum_le hB i (by omega)
    have h2 := hB l[i] (List.getElem_mem hi)
    have h3 : (i : Int) * B ≤ 1000000 * 1000000000000 := by
      have h4 : (i : Int) * B ≤ i * 1000000000000 := Int.mul_le_mul_of_nonneg_left hb (by omega)
      omega
    rw [rd_nat hi, wrap_next hi (by omega), wrap_id (by omega) (by omega), ← sum_take hi]
    exact ih

theorem spec_l1All.ev (l : List Int) (a b : Int) (hn : l.length ≤ 9223372036854775807) : Ev (fun k => spec_l1All.f k l a b) (l.all (inB a b)) := by
  unfold spec_l1All.f
  have h := down (P := fun i => Ev (fun k => spec_l1All.l0 k a b l (l.length : Int) (i : Int)) ((l.drop i).all (inB a b))) l.length ?_ ?_ 0 (Nat.zero_le _)
  · simpa using h
  · refine Ev.step (fun k => by rw [spec_l1All.l0]) ?_
    exact Ev.neg (by omega) ((Ev.now _).cast (by simp))
  · intro i hi ih
    refine Ev.step (fun k => by rw [spec_l1All.l0]) ?_
    refine Ev.pos (by omega) (Ev.pos (by omega) (Ev.pos (by omega) ?_))
    refine Ev.one (spec_l1In.eq _ _ _) ?_
    rw [rd_nat hi, wrap_next hi hn]
    cases hq : inB a b l[i] with
    | true => exact Ev.pos rfl (ih.cast (by rw [drop_all _ _ _ hi, hq, Bool.true_and]))
    | false => exact Ev.neg (by decide) ((Ev.now _).cast (by rw [drop_all _ _ _ hi, hq, Bool.false_and]))

theorem spec_voGood.ev (q : Int) (l : List Int) (hn : l.length ≤ 9223372036854775807) : Ev (fun k => spec_voGood.f k q l) (goodC q l) := by
  unfold spec_voGood.f
  refine Ev.one (spec_l1In.eq _ _ _) ?_
  have hj : ∀ b : Bool, (b = false → l.length ≤ 9 ∧ l.all (inB 0 1000) = true) → Ev (fun k => spec_voGood.j0 k b q l) (!b && inB 1 l.sum q) := by
    intro b hb
    refine Ev.step (fun k => by rw [spec_voGood.j0]) ?_
    cases b with
    | true => exact Ev.pos rfl (Ev.now _)
    | false =>
      obtain ⟨h1, h2⟩ := hb rfl
      refine Ev.neg (by decide) (Ev.bind (spec_voSum.ev l 1000 (fun x hx => inB_iff.1 (all_mem.1 h2 x hx)) (by omega) (by omega)) (Ev.one (spec_l1In.eq _ _ _) ((Ev.now _).cast (by simp))))
  cases h1 : inB 1 9 (l.length : Int) with
  | false => exact Ev.neg (by decide) ((hj true (by simp)).cast (by simp [goodC, h1]))
  | true =>
    refine Ev.pos rfl (Ev.bind (spec_l1All.ev l 0 1000 hn) ((hj _ ?_).cast ?_))
    · intro h2
      have := inB_iff.1 h1
      exact ⟨by omega, by simpa using h2⟩
    · simp [goodC, h1]

theorem spec_l1Has.ev (l : List Int) (x : Int) (hn : l.length ≤ 9223372036854775807) : Ev (fun k => spec_l1Has.f k l x) (l.contains x) := by
  unfold spec_l1Has.f
  have h := down (P := fun i => Ev (fun k => spec_l1Has.l0 k x l (l.length : Int) (i : Int)) ((l.drop i).contains x)) l.length ?_ ?_ 0 (Nat.zero_le _)
  · exact h
  · refine Ev.step (fun k => by rw [spec_l1Has.l0]) ?_
    exact Ev.neg (by omega) ((Ev.now _).cast (by simp))
  · intro i hi ih
    refine Ev.step (fun k => by rw [spec_l1Has.l0]) ?_
    refine Ev.pos (by omega) (Ev.pos (by omega) (Ev.pos (by omega) ?_))
    rw [rd_nat hi, wrap_next hi hn, List.drop_eq_getElem_cons hi, List.contains_cons]
    by_cases h : l[i] = x
    · exact Ev.pos h ((Ev.now _).cast (by simp [h]))
    · exact Ev.neg h (ih.cast (by rw [beq_false_of_ne (fun e => h e.symm), Bool.false_or]))

-- NEEDS Pow
theorem spec_voOrder.ev (n : Nat) (s : List Int) (h1 : 1 ≤ n) (h9 : n ≤ 9) (hn : s.length ≤ 9223372036854775807) : Ev (fun k => spec_voOrder.f k (n : Int) s) (orderL n s) := by
  have hl : Ev (fun k => spec_voOrder.l0 k s s (s.length : Int) 0) (nodupI s s.length) := by
    have h := down (P := fun i => Ev (fun k => spec_voOrder.l0 k s s (s.length : Int) (i : Int)) (((List.range s.length).drop i).all fun j => !(s.take j).contains (s.getD j 0))) s.length ?_ ?_ 0 (Nat.zero_le _)
    · exact h
    · refine Ev.step (fun k => by rw [spec_voOrder.l0]) ?_
      exact Ev.neg (by omega) ((Ev.now _).cast (by rw [List.drop_of_length_le (by simp)]; rfl))
    · intro i hi ih
      refine Ev.step (fun k => by rw [spec_voOrder.l0]) ?_
      have e := all_from (fun j => !(s.take j).contains (s.getD j 0)) s.length i hi
      rw [getI_at hi] at e
      refine Ev.pos (by omega) (Ev.pos (by omega) (Ev.pos (by omega) (Ev.pos (by omega) ?_)))
      rw [rd_nat hi, wrap_next hi hn, Int.toNat_natCast]
      refine Ev.bind (spec_l1Has.ev (s.take i) s[i] (by rw [List.length_take]; omega)) ?_
      cases hb : (s.take i).contains s[i] with
      | true => exact Ev.pos rfl ((Ev.now _).cast (by rw [e, hb]; rfl))
      | false => exact Ev.neg (by decide) (ih.cast (by rw [e, hb]; rfl))
  have hj : ∀ b : Bool, Ev (fun k => spec_voOrder.j0 k s b) (!b && nodupI s s.length) := by
    intro b
    refine Ev.step (fun k => by rw [spec_voOrder.j0]) ?_
    cases b with
    | true => exact Ev.pos rfl (Ev.now _)
    | false => exact Ev.neg (by decide) hl
  unfold spec_voOrder.f
  by_cases h : s.length = n
  · refine Ev.pos (by omega) ?_
    rw [wrap_id (by omega) (by omega)]
    exact Ev.bind (spec_l1All.ev s 0 ((n : Int) - 1) hn) ((hj _).cast (by simp [orderL, h]))
  · exact Ev.neg (by omega) ((hj _).cast (by simp [orderL, h]))

-- NEEDS Pow
theorem spec_RenameCommittee.loop (q : Int) (l s : List Int) (hx : ∀ x ∈ s, 0 ≤ x ∧ x < l.length) (h9 : s.length ≤ 9) : Ev (fun k => spec_RenameCommittee.l0 k s (s.length : Int) 0 q l q []) (q, s.map (fun x => l.getD x.toNat 0), true) := by
  have h := down (P := fun i => Ev (fun k => spec_RenameCommittee.l0 k s (s.length : Int) (i : Int) q l q ((s.take i).map fun x => l.getD x.toNat 0)) (q, s.map (fun x => l.getD x.toNat 0), true)) s.length ?_ ?_ 0 (Nat.zero_le _)
  · exact h
  · refine Ev.step (fun k => by rw [spec_RenameCommittee.l0]) ?_
    exact Ev.neg (by omega) ((Ev.now _).cast (by rw [List.take_length]))
  · intro i hi ih
    refine Ev.step (fun k => by rw [spec_RenameCommittee.l0]) ?_
    have hm := hx s[i] (List.getElem_mem hi)
    have hr : rd l s[i] = l.getD (s[i]).toNat 0 := rfl
    have e : ((s.take i).map fun x => l.getD x.toNat 0) ++ [l.getD (s[i]).toNat 0] = (s.take (i + 1)).map fun x => l.getD x.toNat 0 := by
      rw [List.take_succ_eq_append_getElem hi, List.map_append]
      rfl
    rw [rd_nat hi, hr, wrap_next hi (by omega), e]
    exact Ev.pos (by omega) (Ev.pos (by omega) (Ev.pos (by omega) (Ev.pos (by omega) (Ev.pos (by omega) (Ev.pos (by simp; omega) ih)))))
theorem spec_RenameCommittee.ev (q : Int) (l s : List Int) (hn : l.length ≤ 9223372036854775807) (hn2 : s.length ≤ 9223372036854775807) : Ev (fun k => spec_RenameCommittee.f k q l s) (if (goodC q l && orderL l.length s) = true then (q, s.map (fun x => l.getD x.toNat 0), true) else (0, [], false)) := by
  unfold spec_RenameCommittee.f
  refine Ev.bind (spec_voGood.ev q l hn) ?_
  have hj : ∀ b : Bool, (b = false → goodC q l = true ∧ orderL l.length s = true) → Ev (fun k => spec_RenameCommittee.j0 k s b q l) (if (!b) = true then (q, s.map (fun x => l.getD x.toNat 0), true) else (0, [], false)) := by
    intro b hb
    refine Ev.step (fun k => by rw [spec_RenameCommittee.j0]) ?_
    cases b with
    | true => exact Ev.pos rfl (Ev.now _)
    | false =>
      obtain ⟨g, o⟩ := hb rfl
      obtain ⟨h1, h2, h3, h4, h5⟩ := goodC_iff.1 g
      obtain ⟨o1, o2⟩ := orderL_iff o
      exact Ev.neg (by decide) (spec_RenameCommittee.loop q l s (fun x hx => by have := o2 x hx; omega) (by omega))
  cases h : goodC q l with
  | false => exact Ev.neg (by decide) ((hj true (by simp)).cast (by simp))
  | true =>
    obtain ⟨h1, h2, h3, h4, h5⟩ := goodC_iff.1 h
    refine Ev.pos rfl (Ev.bind (spec_voOrder.ev _ s h1 h2 hn2) ((hj _ ?_).cast (by simp)))
    intro hb
    exact ⟨h, by simpa using hb⟩

theorem impl_sumOf.ev (l : List Int) (B : Int) (hB : ∀ x ∈ l, 0 ≤ x ∧ x ≤ B) (hn : l.length ≤ 1000000) (hb : B ≤ 1000000000000) : Ev (fun k => impl_sumOf.f k l) l.sum := by
  unfold impl_sumOf.f
  have h := down (P := fun i => Ev (fun k => impl_sumOf.l0 k (l.take i).sum l (l.length : Int) (i : Int)) l.sum) l.length ?_ ?_ 0 (Nat.zero_le _)
  · simpa using h
  · refine Ev.step (fun k => by rw [impl_sumOf.l0]) ?_
    exact Ev.neg (by omega) ((Ev.now _).cast (by simp))
  · intro i hi ih
    refine Ev.step (fun k => by rw [impl_sumOf.l0]) ?_
    refine Ev.pos (by omega) (Ev.pos (by omega) (Ev.pos (by omega) ?_))
    have h1 := take_sum_le hB i (by omega)
    have h2 := hB l[i] (List.getElem_mem hi)
    have h3 : (i : Int) * B ≤ 1000000 * 1000000000000 := by
      have h4 : (i : Int) * B ≤ i * 1000000000000 := Int.mul_le_mul_of_nonneg_left hb (by omega)
      omega
    rw [rd_nat hi, wrap_next hi (by omega), wrap_id (by omega) (by omega), ← sum_take hi]
    exact ih

theorem impl_within.eq (a b c : Int) : impl_within.f a b c = some (inB b c a) := by
  unfold impl_within.f inB
  by_cases h : a ≥ b
  · simp [h]
  · simp [h]

theorem impl_IsCommittee.ev (q : Int) (l : List Int) (hn : l.length ≤ 9223372036854775807) : Ev (fun k => impl_IsCommittee.f k q l) (goodC q l) := by
  unfold impl_IsCommittee.f
  by_cases h0 : (l.length : Int) ≥ 1
  · refine Ev.pos h0 ?_
    by_cases h1 : (l.length : Int) ≤ 9
    · refine Ev.pos h1 (Ev.one (show impl_areIn.f l 0 1000 = some _ from rfl) ?_)
      have hi : inB 1 9 (l.length : Int) = true := inB_iff.2 ⟨h0, h1⟩
      cases h2 : l.all (inB 0 1000) with
      | false => exact Ev.neg (by decide) ((Ev.now _).cast (by simp [goodC, h2]))
      | true =>
        refine Ev.pos rfl (Ev.bind (impl_sumOf.ev l 1000 (fun x hx => inB_iff.1 (all_mem.1 h2 x hx)) (by omega) (by omega)) (Ev.one (impl_within.eq _ _ _) ((Ev.now _).cast ?_)))
        simp [goodC, h2, hi]
    · refine Ev.neg h1 ((Ev.now _).cast ?_)
      have hi : inB 1 9 (l.length : Int) = false := inB_not.2 (fun h => h1 h.2)
      simp [goodC, hi]
  · refine Ev.neg h0 ((Ev.now _).cast ?_)
    have hi : inB 1 9 (l.length : Int) = false := inB_not.2 (fun h => h0 h.1)
    simp [goodC, hi]

-- NEEDS Pow
theorem impl_count.all : ∀ m, m < 512 → impl_count.f ((m : Nat) : Int) = some ((popc m : Nat) : Int) := by decide +kernel
theorem impl_count.eq {m n : Nat} (h9 : n ≤ 9) (h : m < 2 ^ n) : impl_count.f (m : Int) = some (popc m : Int) := impl_count.all m (Nat.lt_of_lt_of_le h (pow9 h9).2)

-- NEEDS Sets
theorem impl_maskOf.ev (l : List Int) (h : ∀ x ∈ l, 0 ≤ x ∧ x ≤ 60) (hn : l.length ≤ 9223372036854775807) : Ev (fun k => impl_maskOf.f k l) ((maskL l : Nat) : Int) := by
  unfold impl_maskOf.f
  have h := down (P := fun i => Ev (fun k => impl_maskOf.l0 k ((maskL (l.take i) : Nat) : Int) l (l.length : Int) (i : Int)) ((maskL l : Nat) : Int)) l.length ?_ ?_ 0 (Nat.zero_le _)
  · exact h
  · refine Ev.step (fun k => by rw [impl_maskOf.l0]) ?_
    exact Ev.neg (by omega) ((Ev.now _).cast (by simp))
  · intro i hi ih
    refine Ev.step (fun k => by rw [impl_maskOf.l0]) ?_
    have h1 := h l[i] (List.getElem_mem hi)
    have h2 : maskL (l.take i) < 2 ^ 61 := maskL_lt (fun x hx => by have := h x (List.mem_of_mem_take hx); omega)
    have h3 := shl_one (i := (l[i]).toNat) (by omega)
    rw [Int.toNat_of_nonneg h1.1] at h3
    have h4 : 2 ^ (l[i]).toNat < 2 ^ 63 := Nat.pow_lt_pow_right (by omega) (by omega)
    have h5 := or_nat (a := maskL (l.take i)) (b := 2 ^ (l[i]).toNat) (Nat.lt_of_lt_of_le h2 (by decide)) h4
    rw [rd_nat hi, wrap_next hi hn, h3, h5, ← maskL_take hi]
    exact Ev.pos (by omega) (Ev.pos (by omega) (Ev.pos (by omega) (Ev.pos (by omega) ih)))

-- NEEDS Pow
theorem impl_isOrder.ev (n : Nat) (s : List Int) (h1 : 1 ≤ n) (h9 : n ≤ 9) (hn : s.length ≤ 9223372036854775807) : Ev (fun k => impl_isOrder.f k s (n : Int)) (orderL n s) := by
  unfold impl_isOrder.f
  by_cases h : s.length = n
  · refine Ev.pos (by omega) ?_
    rw [wrap_id (by omega) (by omega)]
    refine Ev.one (show impl_areIn.f s 0 ((n : Int) - 1) = some _ from rfl) ?_
    cases ha : s.all (inB 0 ((n : Int) - 1)) with
    | false => exact Ev.neg (by decide) ((Ev.now _).cast (by simp [orderL, ha]))
    | true =>
      have hx : ∀ x ∈ s, 0 ≤ x ∧ x ≤ 8 := fun x hx => by have := inB_iff.1 (all_mem.1 ha x hx); omega
      have hm : maskL s < 2 ^ 9 := maskL_lt (fun x h => by have := hx x h; omega)
      have hp := popc_mask s hx s.length (Nat.le_refl _)
      rw [List.take_length] at hp
      refine Ev.pos rfl (Ev.bind (impl_maskOf.ev s (fun x h => by have := hx x h; omega) hn) (Ev.one (impl_count.eq (Nat.le_refl 9) hm) ((Ev.now _).cast ?_)))
      rw [orderL, ha, decide_eq_true h, Bool.eq_iff_iff, beq_iff_eq]
      simp only [Bool.and_true, Bool.true_and, Bool.and_eq_true]
      rw [hp.2]
      omega
  · exact Ev.neg (by omega) ((Ev.now _).cast (by simp [orderL, h]))

end Go.Proofs.Ytbjgdbgaopgbjaa.P
