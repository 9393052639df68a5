/- Plain facts of mine on printed functions: what they answer. No Go, no memory. -/
import Derived.Test.YtameadmmgnfefaaPx11
import Derived.Test.YtameadmmgnfefaaEv
import Derived.Test.YtameadmmgnfefaaSets
namespace Go.Proofs.Ytameadmmgnfefaa.P
open Go.RowKit Go.Proofs.YtameadmmgnfefaaW.PrintWords Go.Proofs.YtameadmmgnfefaaW.PrintLast Go.Proofs.YtameadmmgnfefaaW.PrintMore
set_option linter.unusedVariables false
set_option linter.unusedSimpArgs false

-- NEEDS Sets
theorem laws_heldIntS.ev (n : Nat) (k0 : Int) (h0 : 0 ≤ k0) (h1 : k0 ≤ 1000000000000) (hn : n ≤ 1000000000000) : Ev (fun k => laws_heldIntS.f k (seqI k0 n) k0) (k0 + n) := by
  unfold laws_heldIntS.f
  have hl := seqI_length k0 n
  have h := down (P := fun i => Ev (fun k => laws_heldIntS.l0 k (seqI k0 n) (k0 + i) (i : Int)) (k0 + n)) n ?_ ?_ 0 (Nat.zero_le _)
  · simpa using h
  · refine Ev.step (fun k => by rw [laws_heldIntS.l0]) ?_
    exact Ev.neg (by omega) (Ev.now _)
  · intro i hi ih
    refine Ev.step (fun k => by rw [laws_heldIntS.l0]) ?_
    refine Ev.pos (by omega) (Ev.pos (by omega) (Ev.pos (by rw [rd_nat (by omega), seqI_at]) ?_))
    have e2 : k0 + (i : Int) + 1 = k0 + ((i + 1 : Nat) : Int) := by omega
    rw [wrap_next hi (by omega), wrap_id (by omega) (by omega), e2]
    exact ih

end Go.Proofs.Ytameadmmgnfefaa.P
