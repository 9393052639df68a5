/- Plain facts of mine on printed functions: what they answer. No Go, no memory. -/
import Derived.Test.YtooepccceajakaaPx29
import Derived.Test.YtooepccceajakaaEv
import Derived.Test.YtooepccceajakaaF1
import Derived.Test.YtooepccceajakaaSets
namespace Go.Proofs.Ytooepccceajakaa.P
open Go.RowKit Go.Proofs.YtooepccceajakaaW.PrintWords Go.Proofs.YtooepccceajakaaW.PrintLast Go.Proofs.YtooepccceajakaaW.PrintMore
set_option linter.unusedVariables false
set_option linter.unusedSimpArgs false

-- NEEDS Sets
theorem vetoP_at {q : Int} {l : List Int} {i : Nat} (h9 : l.length ≤ 9) (hi : i < l.length) : vetoP (winsC q l) l.length (i : Int) = decide (l.sum - l[i] < q) := by
  have hb : 2 ^ i < 2 ^ l.length := Nat.pow_lt_pow_right (by omega) hi
  have hb0 := Nat.two_pow_pos i
  have hw := winsC_length q l
  have w1 := wt_single l i hi
  have w2 := wt_compl l (2 ^ i) hb
  rw [w1] at w2
  unfold vetoP
  rw [Int.toNat_natCast, getD_at (by omega), winsC_at (by omega), w2, Bool.eq_iff_iff]
  simp
theorem impl_VetoMembers.ev (q : Int) (l : List Int) (hn : l.length ≤ 9223372036854775807) : Ev (fun k => impl_VetoMembers.f k q l) (if goodC q l = true then (pickI (vetoP (winsC q l) l.length) l.length, true) else ([], false)) := by
  unfold impl_VetoMembers.f
  refine Ev.bind (impl_IsCommittee.ev q l hn) ?_
  cases h : goodC q l with
  | false => exact Ev.neg (by decide) (Ev.now _)
  | true =>
    obtain ⟨h1, h2, h3, h4, h5⟩ := goodC_iff.1 h
    exact Ev.pos rfl (Ev.pos ⟨h2, all_mem.2 fun x hx => inB_iff.2 (h3 x hx)⟩ (Ev.now _))
theorem spec_VetoMembers.ev (q : Int) (l : List Int) (hn : l.length ≤ 9223372036854775807) : Ev (fun k => spec_VetoMembers.f k q l) (if goodC q l = true then (pickI (vetoP (winsC q l) l.length) l.length, true) else ([], false)) := by
  unfold spec_VetoMembers.f
  refine Ev.bind (spec_voGood.ev q l hn) ?_
  cases h : goodC q l with
  | false => exact Ev.neg (by decide) (Ev.now _)
  | true =>
    obtain ⟨h1, h2, h3, h4, h5⟩ := goodC_iff.1 h
    have hs := sum_le h3
    refine Ev.pos rfl ?_
    have h := down (P := fun i => Ev (fun k => spec_VetoMembers.l0 k (pickI (vetoP (winsC q l) l.length) i) l (l.length : Int) (i : Int) q l) (pickI (vetoP (winsC q l) l.length) l.length, true)) l.length ?_ ?_ 0 (Nat.zero_le _)
    · exact h
    · refine Ev.step (fun k => by rw [spec_VetoMembers.l0]) ?_
      exact Ev.neg (by omega) (Ev.now _)
    · intro i hi ih
      refine Ev.step (fun k => by rw [spec_VetoMembers.l0]) ?_
      have hv := h3 l[i] (List.getElem_mem hi)
      have hp := vetoP_at (q := q) h2 hi
      have hl := pickI_length (vetoP (winsC q l) l.length) i
      rw [pickI_succ, hp] at ih
      rw [rd_nat hi, wrap_next hi hn]
      refine Ev.pos (by omega) (Ev.pos (by omega) (Ev.pos (by omega) (Ev.bind (spec_voSum.ev l 1000 h3 (by omega) (by omega)) ?_)))
      rw [wrap_id (by omega) (by omega)]
      by_cases ha : l.sum - l[i] < q
      · rw [if_pos (decide_eq_true ha)] at ih
        exact Ev.pos ha (Ev.pos (by omega) ih)
      · rw [if_neg (by simpa using ha)] at ih
        exact Ev.neg ha ih

end Go.Proofs.Ytooepccceajakaa.P
