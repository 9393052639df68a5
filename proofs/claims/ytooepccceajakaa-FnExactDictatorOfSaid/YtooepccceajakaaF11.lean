/- Plain facts of mine on printed functions: what they answer. No Go, no memory. -/
import Derived.Test.YtooepccceajakaaPx11
import Derived.Test.YtooepccceajakaaEv
import Derived.Test.YtooepccceajakaaF1
import Derived.Test.YtooepccceajakaaF4
import Derived.Test.YtooepccceajakaaF5
import Derived.Test.YtooepccceajakaaSets
import Derived.Test.YtooepccceajakaaSets
namespace Go.Proofs.Ytooepccceajakaa.P
open Go.RowKit Go.Proofs.YtooepccceajakaaW.PrintWords Go.Proofs.YtooepccceajakaaW.PrintLast Go.Proofs.YtooepccceajakaaW.PrintMore
set_option linter.unusedVariables false
set_option linter.unusedSimpArgs false

-- NEEDS Sets
/-- Does the member k win alone, and do all others lose? -/
def spec_DictatorOf.p (q : Int) (l : List Int) (k : Nat) : Bool := decide (q ≤ l.getD k 0) && decide (l.sum - l.getD k 0 < q)
def spec_DictatorOf.pick (q : Int) (l : List Int) (i : Nat) : Int × Bool := match ((List.range l.length).drop i).find? (spec_DictatorOf.p q l) with | some k => ((k : Int), true) | none => (0, false)
theorem spec_DictatorOf.pick_last (q : Int) (l : List Int) : spec_DictatorOf.pick q l l.length = (0, false) := by
  unfold spec_DictatorOf.pick
  rw [List.drop_of_length_le (by simp)]
  rfl
theorem spec_DictatorOf.pick_at {q : Int} {l : List Int} {i : Nat} (h : i < l.length) : spec_DictatorOf.pick q l i = if spec_DictatorOf.p q l i = true then ((i : Int), true) else spec_DictatorOf.pick q l (i + 1) := by
  unfold spec_DictatorOf.pick
  rw [List.drop_eq_getElem_cons (by simpa using h), List.find?_cons, List.getElem_range]
  cases spec_DictatorOf.p q l i <;> rfl
theorem spec_DictatorOf.ev (q : Int) (l : List Int) (hn : l.length ≤ 9223372036854775807) : Ev (fun k => spec_DictatorOf.f k q l) (if goodC q l = true then spec_DictatorOf.pick q l 0 else (0, false)) := by
  unfold spec_DictatorOf.f
  refine Ev.bind (spec_voGood.ev q l hn) ?_
  cases h : goodC q l with
  | false => exact Ev.neg (by decide) (Ev.now _)
  | true =>
    obtain ⟨h1, h2, h3, h4, h5⟩ := goodC_iff.1 h
    have hs := sum_le h3
    refine Ev.pos rfl ?_
    have h := down (P := fun i => Ev (fun k => spec_DictatorOf.l0 k l (l.length : Int) (i : Int) q l) (spec_DictatorOf.pick q l i)) l.length ?_ ?_ 0 (Nat.zero_le _)
    · exact h
    · refine Ev.step (fun k => by rw [spec_DictatorOf.l0]) ?_
      exact Ev.neg (by omega) ((Ev.now _).cast (spec_DictatorOf.pick_last q l).symm)
    · intro i hi ih
      refine Ev.step (fun k => by rw [spec_DictatorOf.l0]) ?_
      have hv := h3 l[i] (List.getElem_mem hi)
      rw [rd_nat hi, wrap_next hi hn, spec_DictatorOf.pick_at hi, spec_DictatorOf.p, getI_at hi]
      refine Ev.pos (by omega) (Ev.pos (by omega) (Ev.pos (by omega) ?_))
      by_cases ha : q ≤ l[i]
      · refine Ev.pos ha (Ev.bind (spec_voSum.ev l 1000 h3 (by omega) (by omega)) ?_)
        rw [wrap_id (by omega) (by omega)]
        by_cases hb : l.sum - l[i] < q
        · exact Ev.pos hb ((Ev.now _).cast (by rw [decide_eq_true ha, decide_eq_true hb]; rfl))
        · exact Ev.neg hb (ih.cast (by rw [decide_eq_true ha, decide_eq_false hb]; rfl))
      · exact Ev.neg ha (ih.cast (by rw [decide_eq_false ha]; rfl))

-- NEEDS Sets
theorem impl_DictatorOf.ev (q : Int) (l : List Int) (hn : l.length ≤ 9223372036854775807) : Ev (fun k => impl_DictatorOf.f k q l) (if goodC q l = true then spec_DictatorOf.pick q l 0 else (0, false)) := by
  unfold impl_DictatorOf.f
  refine Ev.bind (impl_IsCommittee.ev q l hn) ?_
  cases h : goodC q l with
  | false => exact Ev.neg (by decide) (Ev.now _)
  | true =>
    obtain ⟨h1, h2, h3, h4, h5⟩ := goodC_iff.1 h
    have hp := pow9 h2
    have hw := winsC_length q l
    refine Ev.pos rfl (Ev.one (impl_Committee_votes.eq h) ?_)
    have h := down (P := fun i => Ev (fun k => impl_DictatorOf.l0 k (l.length : Int) (i : Int) (l.length : Int) (winsC q l)) (spec_DictatorOf.pick q l i)) l.length ?_ ?_ 0 (Nat.zero_le _)
    · exact h
    · refine Ev.step (fun k => by rw [impl_DictatorOf.l0]) ?_
      exact Ev.neg (by omega) ((Ev.now _).cast (spec_DictatorOf.pick_last q l).symm)
    · intro i hi ih
      refine Ev.step (fun k => by rw [impl_DictatorOf.l0]) ?_
      have hb : 2 ^ i < 2 ^ l.length := Nat.pow_lt_pow_right (by omega) hi
      have hb0 := Nat.two_pow_pos i
      have e1 := andNot_all (n := l.length) (m := 2 ^ i) (by omega) hb
      have w1 := wt_single l i hi
      have w2 := wt_compl l (2 ^ i) hb
      rw [w1] at w2
      rw [wrap_next hi hn, shl_one (by omega), rdOf_nat (by omega), winsC_at (by omega), w1, spec_DictatorOf.pick_at hi, spec_DictatorOf.p, getI_at hi]
      refine Ev.pos (by omega) (Ev.pos (by omega) (Ev.pos (by omega) (Ev.pos (by omega) ?_)))
      by_cases ha : q ≤ l[i]
      · refine Ev.pos (decide_eq_true ha) (Ev.one (impl_votes_all.eq (by omega) _) ?_)
        rw [e1, rdOf_nat (by omega), winsC_at (by omega), w2]
        refine Ev.pos (by omega) (Ev.pos (by omega) ?_)
        by_cases hb : l.sum - l[i] < q
        · exact Ev.neg (by simp; omega) ((Ev.now _).cast (by rw [decide_eq_true ha, decide_eq_true hb]; rfl))
        · exact Ev.pos (by simp; omega) (ih.cast (by rw [decide_eq_true ha, decide_eq_false hb]; rfl))
      · exact Ev.neg (by simp; omega) (ih.cast (by rw [decide_eq_false ha]; rfl))

end Go.Proofs.Ytooepccceajakaa.P
