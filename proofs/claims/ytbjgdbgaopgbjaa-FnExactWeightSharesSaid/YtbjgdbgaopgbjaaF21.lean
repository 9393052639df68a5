/- Plain facts of mine on printed functions: what they answer. No Go, no memory. -/
import Derived.Test.YtbjgdbgaopgbjaaPx21
import Derived.Test.YtbjgdbgaopgbjaaEv
import Derived.Test.YtbjgdbgaopgbjaaF1
import Derived.Test.YtbjgdbgaopgbjaaF7
import Derived.Test.YtbjgdbgaopgbjaaF13
import Derived.Test.YtbjgdbgaopgbjaaPow
import Derived.Test.YtbjgdbgaopgbjaaPow
import Derived.Test.YtbjgdbgaopgbjaaPow
namespace Go.Proofs.Ytbjgdbgaopgbjaa.P
open Go.RowKit Go.Proofs.YtbjgdbgaopgbjaaW.PrintWords Go.Proofs.YtbjgdbgaopgbjaaW.PrintLast Go.Proofs.YtbjgdbgaopgbjaaW.PrintMore
set_option linter.unusedVariables false
set_option linter.unusedSimpArgs false

-- NEEDS Pow
theorem spec_shWeights.ev (q : Int) (l : List Int) (h9 : l.length ≤ 9) (hx : ∀ x ∈ l, 0 ≤ x ∧ x ≤ 1000) (hs : 1 ≤ l.sum) : Ev (fun k => spec_shWeights.f k q l) (l.map fun x => ⟨(shareO x l.sum).1, (shareO x l.sum).2⟩) := by
  unfold spec_shWeights.f
  have hs2 := (sum_le hx).2
  have h := down (P := fun i => Ev (fun k => spec_shWeights.l0 k ((l.take i).map fun x => ⟨(shareO x l.sum).1, (shareO x l.sum).2⟩) l (l.length : Int) (i : Int) q l) (l.map fun x => ⟨(shareO x l.sum).1, (shareO x l.sum).2⟩)) l.length ?_ ?_ 0 (Nat.zero_le _)
  · exact h
  · refine Ev.step (fun k => by rw [spec_shWeights.l0]) ?_
    exact Ev.neg (by omega) ((Ev.now _).cast (by rw [List.take_length]))
  · intro i hi ih
    refine Ev.step (fun k => by rw [spec_shWeights.l0]) ?_
    have hv := hx l[i] (List.getElem_mem hi)
    refine Ev.pos (by omega) (Ev.pos (by omega) (Ev.pos (by omega) ?_))
    rw [rd_nat hi, wrap_next hi (by omega)]
    refine Ev.bind (spec_voSum.ev l 1000 hx (by omega) (by omega)) (Ev.bind (spec_pwShare.ev hv.1 (by omega) hs (by omega)) (Ev.pos (by simp; omega) ?_))
    rw [List.take_succ_eq_append_getElem hi, List.map_append] at ih
    exact ih

-- NEEDS Pow
theorem spec_WeightShares.ev (q : Int) (l : List Int) (hn : l.length ≤ 9223372036854775807) : Ev (fun k => spec_WeightShares.f k q l) (if goodC q l = true then (impl_sharesOf.list l l.sum, true) else ([], false)) := by
  unfold spec_WeightShares.f
  refine Ev.bind (spec_voGood.ev q l hn) ?_
  cases h : goodC q l with
  | false => exact Ev.neg (by decide) (Ev.now _)
  | true =>
    obtain ⟨h1, h2, h3, h4, h5⟩ := goodC_iff.1 h
    exact Ev.pos rfl (Ev.bind (spec_shWeights.ev q l h2 h3 (by omega)) (Ev.now _))

-- NEEDS Pow
theorem impl_WeightShares.ev (q : Int) (l : List Int) (hn : l.length ≤ 9223372036854775807) : Ev (fun k => impl_WeightShares.f k q l) (if goodC q l = true then (impl_sharesOf.list l l.sum, true) else ([], false)) := by
  unfold impl_WeightShares.f
  refine Ev.bind (impl_IsCommittee.ev q l hn) ?_
  cases h : goodC q l with
  | false => exact Ev.neg (by decide) (Ev.now _)
  | true =>
    obtain ⟨h1, h2, h3, h4, h5⟩ := goodC_iff.1 h
    have hs2 := (sum_le h3).2
    exact Ev.pos rfl (Ev.bind (impl_sumOf.ev l 1000 h3 (by omega) (by omega)) (Ev.bind (impl_sharesOf.ev l l.sum (by omega) (fun x hx => by have := h3 x hx; omega) (by omega) (by omega)) (Ev.now _)))

end Go.Proofs.Ytbjgdbgaopgbjaa.P
