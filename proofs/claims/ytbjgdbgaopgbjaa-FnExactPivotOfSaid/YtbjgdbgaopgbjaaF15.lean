/- Plain facts of mine on printed functions: what they answer. No Go, no memory. -/
import Derived.Test.YtbjgdbgaopgbjaaPx15
import Derived.Test.YtbjgdbgaopgbjaaEv
import Derived.Test.YtbjgdbgaopgbjaaF1
import Derived.Test.YtbjgdbgaopgbjaaF11
import Derived.Test.YtbjgdbgaopgbjaaPow
import Derived.Test.YtbjgdbgaopgbjaaPow
namespace Go.Proofs.Ytbjgdbgaopgbjaa.P
open Go.RowKit Go.Proofs.YtbjgdbgaopgbjaaW.PrintWords Go.Proofs.YtbjgdbgaopgbjaaW.PrintLast Go.Proofs.YtbjgdbgaopgbjaaW.PrintMore
set_option linter.unusedVariables false
set_option linter.unusedSimpArgs false

-- NEEDS Pow
theorem spec_PivotOf.loop (q : Int) (l s : List Int) (hB : ∀ x ∈ l, 0 ≤ x ∧ x ≤ 1000) (hx : ∀ x ∈ s, 0 ≤ x ∧ x < l.length) (h9 : s.length ≤ 9) : Ev (fun k => spec_PivotOf.l0 k 0 s (s.length : Int) 0 q l) (pivL q l s 0) := by
  have h := down (P := fun i => ∀ sum : Int, 0 ≤ sum → sum ≤ i * 1000 → Ev (fun k => spec_PivotOf.l0 k sum s (s.length : Int) (i : Int) q l) (pivL q l (s.drop i) sum)) s.length ?_ ?_ 0 (Nat.zero_le _)
  · exact h 0 (by omega) (by omega)
  · intro sum h0 h1
    refine Ev.step (fun k => by rw [spec_PivotOf.l0]) ?_
    exact Ev.neg (by omega) ((Ev.now _).cast (by simp [pivL]))
  · intro i hi ih sum h0 h1
    refine Ev.step (fun k => by rw [spec_PivotOf.l0]) ?_
    have hm := hx s[i] (List.getElem_mem hi)
    have hr : rd l s[i] = l.getD (s[i]).toNat 0 := rfl
    have hd : l.getD (s[i]).toNat 0 = l[(s[i]).toNat]'(by omega) := getI_at (by omega)
    have hv := hB _ (List.getElem_mem (show (s[i]).toNat < l.length by omega))
    rw [← hd] at hv
    rw [rd_nat hi, hr, wrap_next hi (by omega), List.drop_eq_getElem_cons hi, pivL]
    refine Ev.pos (by omega) (Ev.pos (by omega) (Ev.pos (by omega) (Ev.pos (by omega) (Ev.pos (by omega) ?_))))
    rw [wrap_id (by omega) (by omega)]
    by_cases h : q ≤ sum + l.getD (s[i]).toNat 0
    · exact Ev.pos h ((Ev.now _).cast (by rw [if_pos h]))
    · exact Ev.neg h ((ih _ (by omega) (by omega)).cast (by rw [if_neg h]))
theorem spec_PivotOf.ev (q : Int) (l s : List Int) (hn : l.length ≤ 9223372036854775807) (hn2 : s.length ≤ 9223372036854775807) : Ev (fun k => spec_PivotOf.f k q l s) (if (goodC q l && orderL l.length s) = true then pivL q l s 0 else (0, false)) := by
  unfold spec_PivotOf.f
  refine Ev.bind (spec_voGood.ev q l hn) ?_
  have hj : ∀ b : Bool, (b = false → goodC q l = true ∧ orderL l.length s = true) → Ev (fun k => spec_PivotOf.j0 k s b q l) (if (!b) = true then pivL q l s 0 else (0, false)) := by
    intro b hb
    refine Ev.step (fun k => by rw [spec_PivotOf.j0]) ?_
    cases b with
    | true => exact Ev.pos rfl (Ev.now _)
    | false =>
      obtain ⟨g, o⟩ := hb rfl
      obtain ⟨h1, h2, h3, h4, h5⟩ := goodC_iff.1 g
      obtain ⟨o1, o2⟩ := orderL_iff o
      exact Ev.neg (by decide) (spec_PivotOf.loop q l s h3 (fun x hx => by have := o2 x hx; omega) (by omega))
  cases h : goodC q l with
  | false => exact Ev.neg (by decide) ((hj true (by simp)).cast (by simp))
  | true =>
    obtain ⟨h1, h2, h3, h4, h5⟩ := goodC_iff.1 h
    refine Ev.pos rfl (Ev.bind (spec_voOrder.ev _ s h1 h2 hn2) ((hj _ ?_).cast (by simp)))
    intro hb
    exact ⟨h, by simpa using hb⟩

-- NEEDS Pow
theorem impl_PivotOf.loop (q : Int) (l s : List Int) (hB : ∀ x ∈ l, 0 ≤ x ∧ x ≤ 1000) (hx : ∀ x ∈ s, 0 ≤ x ∧ x < l.length) (h9 : s.length ≤ 9) : Ev (fun k => impl_PivotOf.l0 k 0 s (s.length : Int) 0 q l) (pivL q l s 0) := by
  have h := down (P := fun i => ∀ sum : Int, 0 ≤ sum → sum ≤ i * 1000 → Ev (fun k => impl_PivotOf.l0 k sum s (s.length : Int) (i : Int) q l) (pivL q l (s.drop i) sum)) s.length ?_ ?_ 0 (Nat.zero_le _)
  · exact h 0 (by omega) (by omega)
  · intro sum h0 h1
    refine Ev.step (fun k => by rw [impl_PivotOf.l0]) ?_
    exact Ev.neg (by omega) ((Ev.now _).cast (by simp [pivL]))
  · intro i hi ih sum h0 h1
    refine Ev.step (fun k => by rw [impl_PivotOf.l0]) ?_
    have hm := hx s[i] (List.getElem_mem hi)
    have hr : rd l s[i] = l.getD (s[i]).toNat 0 := rfl
    have hd : l.getD (s[i]).toNat 0 = l[(s[i]).toNat]'(by omega) := getI_at (by omega)
    have hv := hB _ (List.getElem_mem (show (s[i]).toNat < l.length by omega))
    rw [← hd] at hv
    rw [rd_nat hi, hr, wrap_next hi (by omega), List.drop_eq_getElem_cons hi, pivL]
    refine Ev.pos (by omega) (Ev.pos (by omega) (Ev.pos (by omega) (Ev.pos (by omega) (Ev.pos (by omega) ?_))))
    rw [wrap_id (by omega) (by omega)]
    by_cases h : q ≤ sum + l.getD (s[i]).toNat 0
    · exact Ev.pos h ((Ev.now _).cast (by rw [if_pos h]))
    · exact Ev.neg h ((ih _ (by omega) (by omega)).cast (by rw [if_neg h]))
theorem impl_PivotOf.ev (q : Int) (l s : List Int) (hn : l.length ≤ 9223372036854775807) (hn2 : s.length ≤ 9223372036854775807) : Ev (fun k => impl_PivotOf.f k q l s) (if (goodC q l && orderL l.length s) = true then pivL q l s 0 else (0, false)) := by
  unfold impl_PivotOf.f
  refine Ev.bind (impl_IsCommittee.ev q l hn) ?_
  have hj : ∀ b : Bool, (b = false → goodC q l = true ∧ orderL l.length s = true) → Ev (fun k => impl_PivotOf.j0 k s b q l) (if (!b) = true then pivL q l s 0 else (0, false)) := by
    intro b hb
    refine Ev.step (fun k => by rw [impl_PivotOf.j0]) ?_
    cases b with
    | true => exact Ev.pos rfl (Ev.now _)
    | false =>
      obtain ⟨g, o⟩ := hb rfl
      obtain ⟨h1, h2, h3, h4, h5⟩ := goodC_iff.1 g
      obtain ⟨o1, o2⟩ := orderL_iff o
      exact Ev.neg (by decide) (impl_PivotOf.loop q l s h3 (fun x hx => by have := o2 x hx; omega) (by omega))
  cases h : goodC q l with
  | false => exact Ev.neg (by decide) ((hj true (by simp)).cast (by simp))
  | true =>
    obtain ⟨h1, h2, h3, h4, h5⟩ := goodC_iff.1 h
    refine Ev.pos rfl (Ev.bind (impl_isOrder.ev _ s h1 h2 hn2) ((hj _ ?_).cast (by simp)))
    intro hb
    exact ⟨h, by simpa using hb⟩

end Go.Proofs.Ytbjgdbgaopgbjaa.P
