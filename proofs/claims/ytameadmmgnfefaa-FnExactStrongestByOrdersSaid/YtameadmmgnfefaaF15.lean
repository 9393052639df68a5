/- Plain facts of mine on printed functions: what they answer. No Go, no memory. -/
import Derived.Test.YtameadmmgnfefaaPx15
import Derived.Test.YtameadmmgnfefaaEv
import Derived.Test.YtameadmmgnfefaaRoot
namespace Go.Proofs.Ytameadmmgnfefaa.P
open Go.RowKit Go.Proofs.YtameadmmgnfefaaW.PrintWords Go.Proofs.YtameadmmgnfefaaW.PrintLast Go.Proofs.YtameadmmgnfefaaW.PrintMore
set_option linter.unusedVariables false
set_option linter.unusedSimpArgs false

-- NEEDS Root
theorem slices_Max_int_int.ev (l : List Int) (h0 : 0 < l.length) (hn : l.length ≤ 9223372036854775807) : Ev (fun k => slices_Max_int_int.f k l) (maxL l) := by
  unfold slices_Max_int_int.f
  refine Ev.neg (by omega) (Ev.pos (by omega) ?_)
  have h := down (P := fun i => 1 ≤ i → Ev (fun k => slices_Max_int_int.l0 k l (((l.take i).tail).foldl (fun a b => mx a b) (l.getD 0 0)) (i : Int)) (maxL l)) l.length ?_ ?_ 1 h0 (Nat.le_refl _)
  · have e : ((l.take 1).tail).foldl (fun a b => mx a b) (l.getD 0 0) = rd l 0 := by
      match l, h0 with
      | a :: r, _ => rfl
    rw [e] at h
    exact h
  · intro _
    refine Ev.step (fun k => by rw [slices_Max_int_int.l0]) ?_
    exact Ev.neg (by omega) ((Ev.now _).cast (by rw [List.take_length]; rfl))
  · intro i hi ih h1
    refine Ev.step (fun k => by rw [slices_Max_int_int.l0]) ?_
    refine Ev.pos (by omega) (Ev.pos (by omega) ?_)
    rw [rd_nat hi, wrap_next hi hn]
    have e : mx (((l.take i).tail).foldl (fun a b => mx a b) (l.getD 0 0)) l[i] = ((l.take (i + 1)).tail).foldl (fun a b => mx a b) (l.getD 0 0) := by
      rw [List.take_succ_eq_append_getElem hi, List.tail_append_of_ne_nil (by intro h; have h' := congrArg List.length h; rw [List.length_take, Nat.min_eq_left (by omega), List.length_nil] at h'; omega), List.foldl_append]
      rfl
    rw [e]
    exact ih (by omega)

end Go.Proofs.Ytameadmmgnfefaa.P
