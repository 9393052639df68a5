/- Plain facts of mine on printed functions: what they answer. No Go, no memory. -/
import Derived.Test.YtbjgdbgaopgbjaaPx11
import Derived.Test.YtbjgdbgaopgbjaaEv
import Derived.Test.YtbjgdbgaopgbjaaF1
import Derived.Test.YtbjgdbgaopgbjaaF4
import Derived.Test.YtbjgdbgaopgbjaaPow
import Derived.Test.YtbjgdbgaopgbjaaSets
import Derived.Test.YtbjgdbgaopgbjaaPow
namespace Go.Proofs.Ytbjgdbgaopgbjaa.P
open Go.RowKit Go.Proofs.YtbjgdbgaopgbjaaW.PrintWords Go.Proofs.YtbjgdbgaopgbjaaW.PrintLast Go.Proofs.YtbjgdbgaopgbjaaW.PrintMore
set_option linter.unusedVariables false
set_option linter.unusedSimpArgs false

theorem spec_l1Has.ev (l : List Int) (x : Int) (hn : l.length ≤ 9223372036854775807) : Ev (fun k => spec_l1Has.f k l x) (l.contains x) := by
  unfold spec_l1Has.f
  have h := down (P := fun i => Ev (fun k => spec_l1Has.l0 k x l (l.length : Int) (i : Int)) ((l.drop i).contains x)) l.length ?_ ?_ 0 (Nat.zero_le _)
  · exact h
  · refine Ev.step (fun k => by rw [spec_l1Has.l0]) ?_
    exact Ev.neg (by omega) ((Ev.now _).cast (by simp))
  · intro i hi ih
    refine Ev.step (fun k => by rw [spec_l1Has.l0]) ?_
    refine Ev.pos (by omega) (Ev.pos (by omega) (Ev.pos (by omega) ?_))
    rw [rd_nat hi, wrap_next hi hn, List.drop_eq_getElem_cons hi, List.contains_cons]
    by_cases h : l[i] = x
    · exact Ev.pos h ((Ev.now _).cast (by simp [h]))
    · exact Ev.neg h (ih.cast (by rw [beq_false_of_ne (fun e => h e.symm), Bool.false_or]))

-- NEEDS Pow
theorem spec_voOrder.ev (n : Nat) (s : List Int) (h1 : 1 ≤ n) (h9 : n ≤ 9) (hn : s.length ≤ 9223372036854775807) : Ev (fun k => spec_voOrder.f k (n : Int) s) (orderL n s) := by
  have hl : Ev (fun k => spec_voOrder.l0 k s s (s.length : Int) 0) (nodupI s s.length) := by
    have h := down (P := fun i => Ev (fun k => spec_voOrder.l0 k s s (s.length : Int) (i : Int)) (((List.range s.length).drop i).all fun j => !(s.take j).contains (s.getD j 0))) s.length ?_ ?_ 0 (Nat.zero_le _)
    · exact h
    · refine Ev.step (fun k => by rw [spec_voOrder.l0]) ?_
      exact Ev.neg (by omega) ((Ev.now _).cast (by rw [List.drop_of_length_le (by simp)]; rfl))
    · intro i hi ih
      refine Ev.step (fun k => by rw [spec_voOrder.l0]) ?_
      have e := all_from (fun j => !(s.take j).contains (s.getD j 0)) s.length i hi
      rw [getI_at hi] at e
      refine Ev.pos (by omega) (Ev.pos (by omega) (Ev.pos (by omega) (Ev.pos (by omega) ?_)))
      rw [rd_nat hi, wrap_next hi hn, Int.toNat_natCast]
      refine Ev.bind (spec_l1Has.ev (s.take i) s[i] (by rw [List.length_take]; omega)) ?_
      cases hb : (s.take i).contains s[i] with
      | true => exact Ev.pos rfl ((Ev.now _).cast (by rw [e, hb]; rfl))
      | false => exact Ev.neg (by decide) (ih.cast (by rw [e, hb]; rfl))
  have hj : ∀ b : Bool, Ev (fun k => spec_voOrder.j0 k s b) (!b && nodupI s s.length) := by
    intro b
    refine Ev.step (fun k => by rw [spec_voOrder.j0]) ?_
    cases b with
    | true => exact Ev.pos rfl (Ev.now _)
    | false => exact Ev.neg (by decide) hl
  unfold spec_voOrder.f
  by_cases h : s.length = n
  · refine Ev.pos (by omega) ?_
    rw [wrap_id (by omega) (by omega)]
    exact Ev.bind (spec_l1All.ev s 0 ((n : Int) - 1) hn) ((hj _).cast (by simp [orderL, h]))
  · exact Ev.neg (by omega) ((hj _).cast (by simp [orderL, h]))

-- NEEDS Sets
theorem impl_maskOf.ev (l : List Int) (h : ∀ x ∈ l, 0 ≤ x ∧ x ≤ 60) (hn : l.length ≤ 9223372036854775807) : Ev (fun k => impl_maskOf.f k l) ((maskL l : Nat) : Int) := by
  unfold impl_maskOf.f
  have h := down (P := fun i => Ev (fun k => impl_maskOf.l0 k ((maskL (l.take i) : Nat) : Int) l (l.length : Int) (i : Int)) ((maskL l : Nat) : Int)) l.length ?_ ?_ 0 (Nat.zero_le _)
  · exact h
  · refine Ev.step (fun k => by rw [impl_maskOf.l0]) ?_
    exact Ev.neg (by omega) ((Ev.now _).cast (by simp))
  · intro i hi ih
    refine Ev.step (fun k => by rw [impl_maskOf.l0]) ?_
    have h1 := h l[i] (List.getElem_mem hi)
    have h2 : maskL (l.take i) < 2 ^ 61 := maskL_lt (fun x hx => by have := h x (List.mem_of_mem_take hx); omega)
    have h3 := shl_one (i := (l[i]).toNat) (by omega)
    rw [Int.toNat_of_nonneg h1.1] at h3
    have h4 : 2 ^ (l[i]).toNat < 2 ^ 63 := Nat.pow_lt_pow_right (by omega) (by omega)
    have h5 := or_nat (a := maskL (l.take i)) (b := 2 ^ (l[i]).toNat) (Nat.lt_of_lt_of_le h2 (by decide)) h4
    rw [rd_nat hi, wrap_next hi hn, h3, h5, ← maskL_take hi]
    exact Ev.pos (by omega) (Ev.pos (by omega) (Ev.pos (by omega) (Ev.pos (by omega) ih)))

-- NEEDS Pow
theorem impl_isOrder.ev (n : Nat) (s : List Int) (h1 : 1 ≤ n) (h9 : n ≤ 9) (hn : s.length ≤ 9223372036854775807) : Ev (fun k => impl_isOrder.f k s (n : Int)) (orderL n s) := by
  unfold impl_isOrder.f
  by_cases h : s.length = n
  · refine Ev.pos (by omega) ?_
    rw [wrap_id (by omega) (by omega)]
    refine Ev.one (show impl_areIn.f s 0 ((n : Int) - 1) = some _ from rfl) ?_
    cases ha : s.all (inB 0 ((n : Int) - 1)) with
    | false => exact Ev.neg (by decide) ((Ev.now _).cast (by simp [orderL, ha]))
    | true =>
      have hx : ∀ x ∈ s, 0 ≤ x ∧ x ≤ 8 := fun x hx => by have := inB_iff.1 (all_mem.1 ha x hx); omega
      have hm : maskL s < 2 ^ 9 := maskL_lt (fun x h => by have := hx x h; omega)
      have hp := popc_mask s hx s.length (Nat.le_refl _)
      rw [List.take_length] at hp
      refine Ev.pos rfl (Ev.bind (impl_maskOf.ev s (fun x h => by have := hx x h; omega) hn) (Ev.one (impl_count.eq (Nat.le_refl 9) hm) ((Ev.now _).cast ?_)))
      rw [orderL, ha, decide_eq_true h, Bool.eq_iff_iff, beq_iff_eq]
      simp only [Bool.and_true, Bool.true_and, Bool.and_eq_true]
      rw [hp.2]
      omega
  · exact Ev.neg (by omega) ((Ev.now _).cast (by simp [orderL, h]))

end Go.Proofs.Ytbjgdbgaopgbjaa.P
