/- Plain facts of mine on printed functions: what they answer. No Go, no memory. -/
import Derived.Test.YtameadmmgnfefaaPx8
import Derived.Test.YtameadmmgnfefaaEv
import Derived.Test.YtameadmmgnfefaaF5
import Derived.Test.YtameadmmgnfefaaPow
namespace Go.Proofs.Ytameadmmgnfefaa.P
open Go.RowKit Go.Proofs.YtameadmmgnfefaaW.PrintWords Go.Proofs.YtameadmmgnfefaaW.PrintLast Go.Proofs.YtameadmmgnfefaaW.PrintMore
set_option linter.unusedVariables false
set_option linter.unusedSimpArgs false

-- NEEDS Pow
/-- Numbers, all over another one. -/
def impl_sharesOf.list (l : List Int) (d : Int) : List S48 := l.map fun x => ⟨(shareO x d).1, (shareO x d).2⟩
theorem impl_sharesOf.ev (l : List Int) (d : Int) (hl : l.length ≤ 1000000) (hx : ∀ x ∈ l, 0 ≤ x ∧ x ≤ 9223372036854775807) (h2 : 1 ≤ d) (h3 : d ≤ 9223372036854775807) : Ev (fun k => impl_sharesOf.f k l d) (impl_sharesOf.list l d) := by
  unfold impl_sharesOf.f
  have h := down (P := fun i => Ev (fun k => impl_sharesOf.l0 k d (impl_sharesOf.list (l.take i) d) l (l.length : Int) (i : Int)) (impl_sharesOf.list l d)) l.length ?_ ?_ 0 (Nat.zero_le _)
  · exact h
  · refine Ev.step (fun k => by rw [impl_sharesOf.l0]) ?_
    exact Ev.neg (by omega) ((Ev.now _).cast (by rw [List.take_length]))
  · intro i hi ih
    refine Ev.step (fun k => by rw [impl_sharesOf.l0]) ?_
    have hv := hx l[i] (List.getElem_mem hi)
    refine Ev.pos (by omega) (Ev.pos (by omega) (Ev.pos (by omega) ?_))
    rw [rd_nat hi, wrap_next hi (by omega)]
    refine Ev.bind (impl_shareOf.ev hv.1 hv.2 h2 h3) (Ev.pos (by simp [impl_sharesOf.list]; omega) ?_)
    have e : impl_sharesOf.list (l.take i) d ++ [⟨(shareO l[i] d).1, (shareO l[i] d).2⟩] = impl_sharesOf.list (l.take (i + 1)) d := by
      unfold impl_sharesOf.list
      rw [List.take_succ_eq_append_getElem hi, List.map_append]
      rfl
    rw [e]
    exact ih

end Go.Proofs.Ytameadmmgnfefaa.P
