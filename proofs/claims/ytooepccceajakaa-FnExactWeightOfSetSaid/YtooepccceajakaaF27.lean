/- Plain facts of mine on printed functions: what they answer. No Go, no memory. -/
import Derived.Test.YtooepccceajakaaPx27
import Derived.Test.YtooepccceajakaaEv
import Derived.Test.YtooepccceajakaaF3
import Derived.Test.YtooepccceajakaaF8
import Derived.Test.YtooepccceajakaaSets
import Derived.Test.YtooepccceajakaaSets
namespace Go.Proofs.Ytooepccceajakaa.P
open Go.RowKit Go.Proofs.YtooepccceajakaaW.PrintWords Go.Proofs.YtooepccceajakaaW.PrintLast Go.Proofs.YtooepccceajakaaW.PrintMore
set_option linter.unusedVariables false
set_option linter.unusedSimpArgs false

-- NEEDS Sets
theorem spec_WeightOfSet.ev (q : Int) (l s : List Int) (hn : l.length ≤ 9223372036854775807) (hs : s.length ≤ 9223372036854775807) : Ev (fun k => spec_WeightOfSet.f k q l s) (if (goodC q l && setOK (l.length : Int) s) = true then (wt l (maskL s), true) else (0, false)) := by
  unfold spec_WeightOfSet.f
  refine Ev.bind (spec_voAsked.ev q l s hn hs) ?_
  cases h : goodC q l && setOK (l.length : Int) s with
  | false => exact Ev.neg (by decide) (Ev.now _)
  | true =>
    simp only [Bool.and_eq_true] at h
    obtain ⟨h1, h2, h3, h4, h5⟩ := goodC_iff.1 h.1
    have hset := h.2
    simp only [setOK, Bool.and_eq_true, all_mem, inB_iff] at hset
    have hx : ∀ x ∈ s, 0 ≤ x ∧ x ≤ 60 := fun x hx => by have := hset.1 x hx; omega
    have hw := wt_le h3 (maskL s)
    have hsum := sum_le h3
    exact Ev.pos rfl (Ev.bind (spec_voBits.ev s hx hs) (Ev.bind (spec_voWeight.ev q l _ h2 h3) (Ev.now _)))

-- NEEDS Sets
theorem impl_WeightOfSet.ev (q : Int) (l s : List Int) (hn : l.length ≤ 9223372036854775807) (hs : s.length ≤ 9223372036854775807) : Ev (fun k => impl_WeightOfSet.f k q l s) (if (goodC q l && setOK (l.length : Int) s) = true then (wt l (maskL s), true) else (0, false)) := by
  unfold impl_WeightOfSet.f
  refine Ev.bind (impl_isSetOf.ev q l s hn hs) ?_
  cases h : goodC q l && setOK (l.length : Int) s with
  | false => exact Ev.neg (by decide) (Ev.now _)
  | true =>
    simp only [Bool.and_eq_true] at h
    obtain ⟨h1, h2, h3, h4, h5⟩ := goodC_iff.1 h.1
    have hset := h.2
    simp only [setOK, Bool.and_eq_true, all_mem, inB_iff] at hset
    have hx : ∀ x ∈ s, 0 ≤ x ∧ x ≤ 60 := fun x hx => by have := hset.1 x hx; omega
    have hw := wt_le h3 (maskL s)
    have hsum := sum_le h3
    have hm : maskL s < 2 ^ 63 := Nat.lt_of_lt_of_le (maskL_lt (n := 61) (fun x hy => by have := hx x hy; omega)) (by decide)
    exact Ev.pos rfl (Ev.bind (impl_maskOf.ev s hx hs) (Ev.bind (impl_Committee_weight.ev q l _ h2 h3 hm) (Ev.now _)))

end Go.Proofs.Ytooepccceajakaa.P
