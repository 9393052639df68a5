/- Plain facts of mine on printed functions: what they answer. No Go, no memory. -/
import Derived.Test.YtooepccceajakaaPx23
import Derived.Test.YtooepccceajakaaEv
import Derived.Test.YtooepccceajakaaF1
import Derived.Test.YtooepccceajakaaF3
import Derived.Test.YtooepccceajakaaF8
import Derived.Test.YtooepccceajakaaSets
import Derived.Test.YtooepccceajakaaSets
namespace Go.Proofs.Ytooepccceajakaa.P
open Go.RowKit Go.Proofs.YtooepccceajakaaW.PrintWords Go.Proofs.YtooepccceajakaaW.PrintLast Go.Proofs.YtooepccceajakaaW.PrintMore
set_option linter.unusedVariables false
set_option linter.unusedSimpArgs false

-- NEEDS Sets
theorem spec_IsBlocking.ev (q : Int) (l s : List Int) (hn : l.length ≤ 9223372036854775807) (hs : s.length ≤ 9223372036854775807) : Ev (fun k => spec_IsBlocking.f k q l s) (if (goodC q l && setOK (l.length : Int) s) = true then (decide (l.sum - wt l (maskL s) < q), true) else (false, false)) := by
  unfold spec_IsBlocking.f
  refine Ev.bind (spec_voAsked.ev q l s hn hs) ?_
  cases h : goodC q l && setOK (l.length : Int) s with
  | false => exact Ev.neg (by decide) (Ev.now _)
  | true =>
    simp only [Bool.and_eq_true] at h
    obtain ⟨h1, h2, h3, h4, h5⟩ := goodC_iff.1 h.1
    have hset := h.2
    simp only [setOK, Bool.and_eq_true, all_mem, inB_iff] at hset
    have hx : ∀ x ∈ s, 0 ≤ x ∧ x ≤ 60 := fun x hx => by have := hset.1 x hx; omega
    have hw := wt_le h3 (maskL s)
    have hsum := sum_le h3
    refine Ev.pos rfl (Ev.bind (spec_voSum.ev l 1000 h3 (by omega) (by omega)) (Ev.bind (spec_voBits.ev s hx hs) (Ev.bind (spec_voWeight.ev q l _ h2 h3) ?_)))
    rw [wrap_id (by omega) (by omega)]
    exact Ev.now _

-- NEEDS Sets
theorem impl_IsBlocking.ev (q : Int) (l s : List Int) (hn : l.length ≤ 9223372036854775807) (hs : s.length ≤ 9223372036854775807) : Ev (fun k => impl_IsBlocking.f k q l s) (if (goodC q l && setOK (l.length : Int) s) = true then (decide (l.sum - wt l (maskL s) < q), true) else (false, false)) := by
  unfold impl_IsBlocking.f
  refine Ev.bind (impl_isSetOf.ev q l s hn hs) ?_
  cases h : goodC q l && setOK (l.length : Int) s with
  | false => exact Ev.neg (by decide) (Ev.now _)
  | true =>
    simp only [Bool.and_eq_true] at h
    obtain ⟨h1, h2, h3, h4, h5⟩ := goodC_iff.1 h.1
    have hset := h.2
    simp only [setOK, Bool.and_eq_true, all_mem, inB_iff] at hset
    have hx : ∀ x ∈ s, 0 ≤ x ∧ x ≤ 60 := fun x hx => by have := hset.1 x hx; omega
    have hw := wt_le h3 (maskL s)
    have hsum := sum_le h3
    have hm : maskL s < 2 ^ 63 := Nat.lt_of_lt_of_le (maskL_lt (n := 61) (fun x hy => by have := hx x hy; omega)) (by decide)
    refine Ev.pos rfl (Ev.bind (impl_sumOf.ev l 1000 h3 (by omega) (by omega)) (Ev.bind (impl_maskOf.ev s hx hs) (Ev.bind (impl_Committee_weight.ev q l _ h2 h3 hm) ?_)))
    rw [wrap_id (by omega) (by omega)]
    exact Ev.now _

end Go.Proofs.Ytooepccceajakaa.P
