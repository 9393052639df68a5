/- Plain facts of mine on printed functions: what they answer. No Go, no memory. -/
import Derived.Test.YtooepccceajakaaPx8
import Derived.Test.YtooepccceajakaaEv
import Derived.Test.YtooepccceajakaaF1
import Derived.Test.YtooepccceajakaaSets
import Derived.Test.YtooepccceajakaaSets
import Derived.Test.YtooepccceajakaaSets
import Derived.Test.YtooepccceajakaaSets
import Derived.Test.YtooepccceajakaaSets
import Derived.Test.YtooepccceajakaaSets
import Derived.Test.YtooepccceajakaaSets
import Derived.Test.YtooepccceajakaaSets
namespace Go.Proofs.Ytooepccceajakaa.P
open Go.RowKit Go.Proofs.YtooepccceajakaaW.PrintWords Go.Proofs.YtooepccceajakaaW.PrintLast Go.Proofs.YtooepccceajakaaW.PrintMore
set_option linter.unusedVariables false
set_option linter.unusedSimpArgs false

-- NEEDS Sets
theorem spec_l1Rising.ev (l : List Int) (a b : Int) (hn : l.length ≤ 9223372036854775807) : Ev (fun k => spec_l1Rising.f k l a b) (l.all (inB a b) && risingL l) := by
  unfold spec_l1Rising.f
  have h := down (P := fun i => Ev (fun k => spec_l1Rising.l0 k l a b l (l.length : Int) (i : Int)) (((List.range l.length).drop i).all (fun i => inB a b (l.getD i 0) && decide (i = 0 ∨ l.getD (i - 1) 0 < l.getD i 0)))) l.length ?_ ?_ 0 (Nat.zero_le _)
  · refine Ev.cast h ?_
    rw [List.drop_zero, all_and, all_range]
    rfl
  · refine Ev.step (fun k => by rw [spec_l1Rising.l0]) ?_
    exact Ev.neg (by omega) ((Ev.now _).cast (by rw [List.drop_of_length_le (by simp)]; rfl))
  · intro i hi ih
    refine Ev.step (fun k => by rw [spec_l1Rising.l0]) ?_
    have e := all_from (fun i => inB a b (l.getD i 0) && decide (i = 0 ∨ l.getD (i - 1) 0 < l.getD i 0)) l.length i hi
    refine Ev.pos (by omega) (Ev.pos (by omega) (Ev.pos (by omega) (Ev.one (spec_l1In.eq _ _ _) ?_)))
    rw [rd_nat hi, wrap_next hi hn]
    rw [getI_at hi] at e
    cases h1 : inB a b l[i] with
    | false => exact Ev.neg (by decide) ((Ev.now _).cast (by rw [e, h1]; rfl))
    | true =>
      refine Ev.pos rfl ?_
      rw [h1, Bool.true_and] at e
      cases i with
      | zero => exact Ev.neg (by omega) (ih.cast (by rw [e]; simp))
      | succ j =>
        have e1 : wrap64 (((j + 1 : Nat) : Int) - 1) = (j : Int) := by
          rw [wrap_id (by omega) (by omega)]
          omega
        rw [e1, rd_nat (show j < l.length by omega)]
        refine Ev.pos (by omega) (Ev.pos (by omega) (Ev.pos (by omega) ?_))
        rw [show j + 1 - 1 = j from rfl, getI_at (show j < l.length by omega)] at e
        by_cases h2 : l[j] < l[j + 1]
        · exact Ev.neg (by omega) (ih.cast (by rw [e]; simp [h2]))
        · exact Ev.pos (by omega) ((Ev.now _).cast (by rw [e]; simp [h2]))

-- NEEDS Sets
theorem spec_voSet.ev (n : Int) (l : List Int) (h0 : 0 ≤ n) (h1 : n ≤ 1000000) (hn : l.length ≤ 9223372036854775807) : Ev (fun k => spec_voSet.f k n l) (setOK n l) := by
  unfold spec_voSet.f
  rw [wrap_id (by omega) (by omega)]
  exact Ev.bind (spec_l1Rising.ev l 0 (n - 1) hn) (Ev.now _)

-- NEEDS Sets
theorem spec_voAsked.ev (q : Int) (l s : List Int) (hn : l.length ≤ 9223372036854775807) (hs : s.length ≤ 9223372036854775807) : Ev (fun k => spec_voAsked.f k q l s) (goodC q l && setOK (l.length : Int) s) := by
  unfold spec_voAsked.f
  refine Ev.bind (spec_voGood.ev q l hn) ?_
  cases h : goodC q l with
  | false => exact Ev.neg (by decide) (Ev.now _)
  | true =>
    obtain ⟨h1, h2, _⟩ := goodC_iff.1 h
    exact Ev.pos rfl (Ev.bind (spec_voSet.ev _ s (by omega) (by omega) hs) (Ev.now _))

-- NEEDS Sets
theorem spec_voBits.ev (l : List Int) (h : ∀ x ∈ l, 0 ≤ x ∧ x ≤ 60) (hn : l.length ≤ 9223372036854775807) : Ev (fun k => spec_voBits.f k l) ((maskL l : Nat) : Int) := by
  unfold spec_voBits.f
  have h := down (P := fun i => Ev (fun k => spec_voBits.l0 k ((maskL (l.take i) : Nat) : Int) l (l.length : Int) (i : Int)) ((maskL l : Nat) : Int)) l.length ?_ ?_ 0 (Nat.zero_le _)
  · exact h
  · refine Ev.step (fun k => by rw [spec_voBits.l0]) ?_
    exact Ev.neg (by omega) ((Ev.now _).cast (by simp))
  · intro i hi ih
    refine Ev.step (fun k => by rw [spec_voBits.l0]) ?_
    have h1 := h l[i] (List.getElem_mem hi)
    have h2 : maskL (l.take i) < 2 ^ 61 := maskL_lt (fun x hx => by have := h x (List.mem_of_mem_take hx); omega)
    have h3 := shl_one (i := (l[i]).toNat) (by omega)
    rw [Int.toNat_of_nonneg h1.1] at h3
    have h4 : 2 ^ (l[i]).toNat < 2 ^ 63 := Nat.pow_lt_pow_right (by omega) (by omega)
    have h5 := or_nat (a := maskL (l.take i)) (b := 2 ^ (l[i]).toNat) (Nat.lt_of_lt_of_le h2 (by decide)) h4
    rw [rd_nat hi, wrap_next hi hn, h3, h5, ← maskL_take hi]
    exact Ev.pos (by omega) (Ev.pos (by omega) (Ev.pos (by omega) (Ev.pos (by omega) ih)))

-- NEEDS Sets
theorem impl_isIncreasing.ev (l : List Int) (hn : l.length ≤ 9223372036854775807) : Ev (fun k => impl_isIncreasing.f k l) (risingL l) := by
  unfold impl_isIncreasing.f
  have h := down (P := fun i => Ev (fun k => impl_isIncreasing.l0 k l (l.length : Int) (i : Int)) (((List.range l.length).drop i).all (fun i => decide (i = 0 ∨ l.getD (i - 1) 0 < l.getD i 0)))) l.length ?_ ?_ 0 (Nat.zero_le _)
  · exact h
  · refine Ev.step (fun k => by rw [impl_isIncreasing.l0]) ?_
    exact Ev.neg (by omega) ((Ev.now _).cast (by rw [List.drop_of_length_le (by simp)]; rfl))
  · intro i hi ih
    refine Ev.step (fun k => by rw [impl_isIncreasing.l0]) ?_
    have e := all_from (fun i => decide (i = 0 ∨ l.getD (i - 1) 0 < l.getD i 0)) l.length i hi
    refine Ev.pos (by omega) ?_
    rw [wrap_next hi hn]
    rw [getI_at hi] at e
    cases i with
    | zero => exact Ev.neg (by omega) (ih.cast (by rw [e]; simp))
    | succ j =>
      have e1 : wrap64 (((j + 1 : Nat) : Int) - 1) = (j : Int) := by
        rw [wrap_id (by omega) (by omega)]
        omega
      rw [e1, rd_nat hi, rd_nat (show j < l.length by omega)]
      refine Ev.pos (by omega) (Ev.pos (by omega) (Ev.pos (by omega) (Ev.pos (by omega) (Ev.pos (by omega) ?_))))
      rw [show j + 1 - 1 = j from rfl, getI_at (show j < l.length by omega)] at e
      by_cases h2 : l[j] < l[j + 1]
      · exact Ev.neg (by omega) (ih.cast (by rw [e]; simp [h2]))
      · exact Ev.pos (by omega) ((Ev.now _).cast (by rw [e]; simp [h2]))

-- NEEDS Sets
theorem impl_isSet.ev (n : Int) (l : List Int) (h0 : 0 ≤ n) (h1 : n ≤ 1000000) (hn : l.length ≤ 9223372036854775807) : Ev (fun k => impl_isSet.f k l n) (setOK n l) := by
  unfold impl_isSet.f
  rw [wrap_id (by omega) (by omega)]
  refine Ev.one (show impl_areIn.f l 0 (n - 1) = some _ from rfl) ?_
  cases h : l.all (inB 0 (n - 1)) with
  | false => exact Ev.neg (by decide) ((Ev.now _).cast (by simp [setOK, h]))
  | true => exact Ev.pos rfl (Ev.bind (impl_isIncreasing.ev l hn) ((Ev.now _).cast (by simp [setOK, h])))

-- NEEDS Sets
theorem impl_isSetOf.ev (q : Int) (l s : List Int) (hn : l.length ≤ 9223372036854775807) (hs : s.length ≤ 9223372036854775807) : Ev (fun k => impl_isSetOf.f k q l s) (goodC q l && setOK (l.length : Int) s) := by
  unfold impl_isSetOf.f
  refine Ev.bind (impl_IsCommittee.ev q l hn) ?_
  cases h : goodC q l with
  | false => exact Ev.neg (by decide) (Ev.now _)
  | true =>
    obtain ⟨h1, h2, _⟩ := goodC_iff.1 h
    exact Ev.pos rfl (Ev.bind (impl_isSet.ev _ s (by omega) (by omega) hs) (Ev.now _))

-- NEEDS Sets
theorem impl_maskOf.ev (l : List Int) (h : ∀ x ∈ l, 0 ≤ x ∧ x ≤ 60) (hn : l.length ≤ 9223372036854775807) : Ev (fun k => impl_maskOf.f k l) ((maskL l : Nat) : Int) := by
  unfold impl_maskOf.f
  have h := down (P := fun i => Ev (fun k => impl_maskOf.l0 k ((maskL (l.take i) : Nat) : Int) l (l.length : Int) (i : Int)) ((maskL l : Nat) : Int)) l.length ?_ ?_ 0 (Nat.zero_le _)
  · exact h
  · refine Ev.step (fun k => by rw [impl_maskOf.l0]) ?_
    exact Ev.neg (by omega) ((Ev.now _).cast (by simp))
  · intro i hi ih
    refine Ev.step (fun k => by rw [impl_maskOf.l0]) ?_
    have h1 := h l[i] (List.getElem_mem hi)
    have h2 : maskL (l.take i) < 2 ^ 61 := maskL_lt (fun x hx => by have := h x (List.mem_of_mem_take hx); omega)
    have h3 := shl_one (i := (l[i]).toNat) (by omega)
    rw [Int.toNat_of_nonneg h1.1] at h3
    have h4 : 2 ^ (l[i]).toNat < 2 ^ 63 := Nat.pow_lt_pow_right (by omega) (by omega)
    have h5 := or_nat (a := maskL (l.take i)) (b := 2 ^ (l[i]).toNat) (Nat.lt_of_lt_of_le h2 (by decide)) h4
    rw [rd_nat hi, wrap_next hi hn, h3, h5, ← maskL_take hi]
    exact Ev.pos (by omega) (Ev.pos (by omega) (Ev.pos (by omega) (Ev.pos (by omega) ih)))

end Go.Proofs.Ytooepccceajakaa.P
