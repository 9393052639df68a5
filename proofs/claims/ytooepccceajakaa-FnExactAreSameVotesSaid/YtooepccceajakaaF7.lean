/- Plain facts of mine on printed functions: what they answer. No Go, no memory. -/
import Derived.Test.YtooepccceajakaaPx7
import Derived.Test.YtooepccceajakaaEv
import Derived.Test.YtooepccceajakaaF3
import Derived.Test.YtooepccceajakaaSets
namespace Go.Proofs.Ytooepccceajakaa.P
open Go.RowKit Go.Proofs.YtooepccceajakaaW.PrintWords Go.Proofs.YtooepccceajakaaW.PrintLast Go.Proofs.YtooepccceajakaaW.PrintMore
set_option linter.unusedVariables false
set_option linter.unusedSimpArgs false

theorem spec_voAll.eq {n : Nat} (hn : n ≤ 62) : spec_voAll.f (n : Int) = some ((2 ^ n - 1 : Nat) : Int) := by
  unfold spec_voAll.f
  have h0 : 1 ≤ 2 ^ n := Nat.one_le_two_pow
  have h1 := Nat.pow_le_pow_right (n := 2) (by omega) hn
  rw [if_pos (by omega), shl_one hn, wrap_id (by omega) (by omega)]
  congr 1
  omega

-- NEEDS Sets
theorem spec_voWins.ev (q : Int) (l : List Int) (h9 : l.length ≤ 9) (hB : ∀ x ∈ l, 0 ≤ x ∧ x ≤ 1000) : Ev (fun k => spec_voWins.f k q l) (winsC q l) := by
  unfold spec_voWins.f
  have hN := pow9 h9
  have h := down (P := fun i => Ev (fun k => spec_voWins.l0 k ((List.range i).map fun m => decide (q ≤ wt l m)) (i : Int) q l) (winsC q l)) (2 ^ l.length) ?_ ?_ 0 (Nat.zero_le _)
  · exact h
  · refine Ev.step (fun k => by rw [spec_voWins.l0]) ?_
    exact Ev.one (spec_voAll.eq (by omega)) (Ev.neg (by omega) (Ev.now _))
  · intro i hi ih
    refine Ev.step (fun k => by rw [spec_voWins.l0]) ?_
    refine Ev.one (spec_voAll.eq (by omega)) (Ev.pos (by omega) (Ev.bind (spec_voWeight.ev q l i h9 hB) (Ev.pos (by simp; omega) ?_)))
    rw [wrap_next hi (by omega)]
    have e : ((List.range i).map fun m => decide (q ≤ wt l m)) ++ [decide (wt l i ≥ q)] = (List.range (i + 1)).map fun m => decide (q ≤ wt l m) := by
      rw [List.range_succ, List.map_append]
      rfl
    rw [e]
    exact ih

end Go.Proofs.Ytooepccceajakaa.P
