/- Plain facts of mine on printed functions: what they answer. No Go, no memory. -/
import Derived.Test.YtooepccceajakaaPx3
import Derived.Test.YtooepccceajakaaEv
namespace Go.Proofs.Ytooepccceajakaa.P
open Go.RowKit Go.Proofs.YtooepccceajakaaW.PrintWords Go.Proofs.YtooepccceajakaaW.PrintLast Go.Proofs.YtooepccceajakaaW.PrintMore
set_option linter.unusedVariables false
set_option linter.unusedSimpArgs false

theorem spec_voWeight.ev (q : Int) (l : List Int) (m : Nat) (h9 : l.length ≤ 9) (hB : ∀ x ∈ l, 0 ≤ x ∧ x ≤ 1000) : Ev (fun k => spec_voWeight.f k q l (m : Int)) (wt l m) := by
  unfold spec_voWeight.f
  have h := down (P := fun i => Ev (fun k => spec_voWeight.l0 k (m : Int) (wt (l.take i) m) l (l.length : Int) (i : Int)) (wt l m)) l.length ?_ ?_ 0 (Nat.zero_le _)
  · exact h
  · refine Ev.step (fun k => by rw [spec_voWeight.l0]) ?_
    exact Ev.neg (by omega) ((Ev.now _).cast (by rw [List.take_length]))
  · intro i hi ih
    refine Ev.step (fun k => by rw [spec_voWeight.l0]) ?_
    refine Ev.pos (by omega) (Ev.pos (by omega) (Ev.pos (by omega) ?_))
    have h1 := wt_take_le hB m i (by omega)
    have h2 := hB l[i] (List.getElem_mem hi)
    have h3 := wt_take l m i hi
    rw [rd_nat hi, wrap_next hi (by omega)]
    by_cases ht : m.testBit i = true
    · rw [if_pos ht] at h3
      rw [wrap_id (by omega) (by omega), ← h3]
      exact Ev.pos ((mod_nat m i (by omega)).2 ht) ih
    · rw [if_neg ht, Int.add_zero] at h3
      rw [← h3]
      exact Ev.neg (fun h => ht ((mod_nat m i (by omega)).1 h)) ih

end Go.Proofs.Ytooepccceajakaa.P
