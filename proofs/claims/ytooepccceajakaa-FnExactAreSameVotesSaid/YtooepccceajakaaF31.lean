/- Plain facts of mine on printed functions: what they answer. No Go, no memory. -/
import Derived.Test.YtooepccceajakaaPx31
import Derived.Test.YtooepccceajakaaEv
import Derived.Test.YtooepccceajakaaF1
import Derived.Test.YtooepccceajakaaF4
import Derived.Test.YtooepccceajakaaF7
import Derived.Test.YtooepccceajakaaSets
import Derived.Test.YtooepccceajakaaSets
import Derived.Test.YtooepccceajakaaSets
namespace Go.Proofs.Ytooepccceajakaa.P
open Go.RowKit Go.Proofs.YtooepccceajakaaW.PrintWords Go.Proofs.YtooepccceajakaaW.PrintLast Go.Proofs.YtooepccceajakaaW.PrintMore
set_option linter.unusedVariables false
set_option linter.unusedSimpArgs false

-- NEEDS Sets
theorem spec_AreSameVotes.drop {a b : List Bool} {i : Nat} (ha : i < a.length) (hb : i < b.length) : (a.drop i = b.drop i) = (a[i] = b[i] ∧ a.drop (i + 1) = b.drop (i + 1)) := by
  rw [List.drop_eq_getElem_cons ha, List.drop_eq_getElem_cons hb, List.cons.injEq]
theorem spec_AreSameVotes.loop (a b : List Bool) (he : a.length = b.length) (hn : a.length ≤ 1000000) : Ev (fun k => spec_AreSameVotes.l0 k a b (a.length : Int) 0) (decide (a = b), true) := by
  have h := down (P := fun i => Ev (fun k => spec_AreSameVotes.l0 k a b (a.length : Int) (i : Int)) (decide (a.drop i = b.drop i), true)) a.length ?_ ?_ 0 (Nat.zero_le _)
  · exact h
  · refine Ev.step (fun k => by rw [spec_AreSameVotes.l0]) ?_
    exact Ev.neg (by omega) ((Ev.now _).cast (by rw [List.drop_length, he, List.drop_length]; rfl))
  · intro i hi ih
    refine Ev.step (fun k => by rw [spec_AreSameVotes.l0]) ?_
    refine Ev.pos (by omega) (Ev.pos (by omega) (Ev.pos (by omega) (Ev.pos (by omega) ?_)))
    rw [rdOf_nat hi, rdOf_nat (by omega), wrap_next hi (by omega)]
    have e := spec_AreSameVotes.drop hi (show i < b.length by omega)
    by_cases h : a[i] = b[i]'(by omega)
    · exact Ev.neg (by rw [h]; simp) (ih.cast (by simp only [e, h, true_and]))
    · exact Ev.pos (by simpa using h) ((Ev.now _).cast (by simp only [e, h, false_and]; rfl))
theorem spec_AreSameVotes.ev (q : Int) (l : List Int) (q2 : Int) (l2 : List Int) (hn : l.length ≤ 9223372036854775807) (hn2 : l2.length ≤ 9223372036854775807) : Ev (fun k => spec_AreSameVotes.f k q l q2 l2) (if (goodC q l && goodC q2 l2) = true then (decide (winsC q l = winsC q2 l2), true) else (false, false)) := by
  unfold spec_AreSameVotes.f
  have hj : ∀ b : Bool, (b = false → goodC q l = true ∧ goodC q2 l2 = true) → Ev (fun k => spec_AreSameVotes.j0 k b q l q2 l2) (if (!b) = true then (decide (winsC q l = winsC q2 l2), true) else (false, false)) := by
    intro b hb
    refine Ev.step (fun k => by rw [spec_AreSameVotes.j0]) ?_
    cases b with
    | true => exact Ev.pos rfl (Ev.now _)
    | false =>
      obtain ⟨g1, g2⟩ := hb rfl
      obtain ⟨h1, h2, h3, h4, h5⟩ := goodC_iff.1 g1
      obtain ⟨i1, i2, i3, i4, i5⟩ := goodC_iff.1 g2
      have hp := pow9 h2
      have hl := winsC_length q l
      refine Ev.neg (by decide) (Ev.bind (spec_voWins.ev q l h2 h3) (Ev.bind (spec_voWins.ev q2 l2 i2 i3) ?_))
      by_cases he : (winsC q l).length = (winsC q2 l2).length
      · exact Ev.pos (by omega) (spec_AreSameVotes.loop _ _ he (by omega))
      · exact Ev.neg (by omega) ((Ev.now _).cast (by rw [decide_eq_false (fun h => he (by rw [h]))]; rfl))
  refine Ev.bind (spec_voGood.ev q l hn) ?_
  cases h : goodC q l with
  | false => exact Ev.neg (by decide) ((hj true (by simp)).cast (by simp))
  | true => exact Ev.pos rfl (Ev.bind (spec_voGood.ev q2 l2 hn2) ((hj _ (fun hb => ⟨h, by simpa using hb⟩)).cast (by simp)))

-- NEEDS Sets
theorem slices_Equal_bool_bool.ev (a b : List Bool) (hn : a.length ≤ 1000000) : Ev (fun k => slices_Equal_bool_bool.f k a b) (decide (a = b)) := by
  unfold slices_Equal_bool_bool.f
  by_cases he : a.length = b.length
  · refine Ev.pos (by omega) ?_
    have h := down (P := fun i => Ev (fun k => slices_Equal_bool_bool.l0 k a b (a.length : Int) (i : Int)) (decide (a.drop i = b.drop i))) a.length ?_ ?_ 0 (Nat.zero_le _)
    · exact h
    · refine Ev.step (fun k => by rw [slices_Equal_bool_bool.l0]) ?_
      exact Ev.neg (by omega) ((Ev.now _).cast (by rw [List.drop_length, he, List.drop_length]; rfl))
    · intro i hi ih
      refine Ev.step (fun k => by rw [slices_Equal_bool_bool.l0]) ?_
      refine Ev.pos (by omega) (Ev.pos (by omega) (Ev.pos (by omega) (Ev.pos (by omega) ?_)))
      rw [rdOf_nat hi, rdOf_nat (by omega), wrap_next hi (by omega)]
      have e : (a.drop i = b.drop i) = (a[i] = b[i]'(by omega) ∧ a.drop (i + 1) = b.drop (i + 1)) := by rw [List.drop_eq_getElem_cons hi, List.drop_eq_getElem_cons (show i < b.length by omega), List.cons.injEq]
      by_cases h : a[i] = b[i]'(by omega)
      · exact Ev.neg (by rw [h]; simp) (ih.cast (by simp only [e, h, true_and]))
      · exact Ev.pos (by simpa using h) ((Ev.now _).cast (by simp only [e, h, false_and]; rfl))
  · exact Ev.neg (by omega) ((Ev.now _).cast (by rw [decide_eq_false (fun h => he (by rw [h]))]))

-- NEEDS Sets
theorem impl_AreSameVotes.ev (q : Int) (l : List Int) (q2 : Int) (l2 : List Int) (hn : l.length ≤ 9223372036854775807) (hn2 : l2.length ≤ 9223372036854775807) : Ev (fun k => impl_AreSameVotes.f k q l q2 l2) (if (goodC q l && goodC q2 l2) = true then (decide (winsC q l = winsC q2 l2), true) else (false, false)) := by
  unfold impl_AreSameVotes.f
  have hj : ∀ b : Bool, (b = false → goodC q l = true ∧ goodC q2 l2 = true) → Ev (fun k => impl_AreSameVotes.j0 k b q l q2 l2) (if (!b) = true then (decide (winsC q l = winsC q2 l2), true) else (false, false)) := by
    intro b hb
    refine Ev.step (fun k => by rw [impl_AreSameVotes.j0]) ?_
    cases b with
    | true => exact Ev.pos rfl (Ev.now _)
    | false =>
      obtain ⟨g1, g2⟩ := hb rfl
      obtain ⟨h1, h2, h3, h4, h5⟩ := goodC_iff.1 g1
      have hp := pow9 h2
      have hl := winsC_length q l
      refine Ev.neg (by decide) (Ev.one (impl_Committee_votes.eq g1) (Ev.one (impl_Committee_votes.eq g2) (Ev.bind (a := decide (winsC q l = winsC q2 l2)) ?_ (Ev.now _))))
      unfold impl_votes_same.f
      exact Ev.bind (slices_Equal_bool_bool.ev (winsC q l) (winsC q2 l2) (by omega)) (Ev.now _)
  refine Ev.bind (impl_IsCommittee.ev q l hn) ?_
  cases h : goodC q l with
  | false => exact Ev.neg (by decide) ((hj true (by simp)).cast (by simp))
  | true => exact Ev.pos rfl (Ev.bind (impl_IsCommittee.ev q2 l2 hn2) ((hj _ (fun hb => ⟨h, by simpa using hb⟩)).cast (by simp)))

end Go.Proofs.Ytooepccceajakaa.P
