/- Plain facts of mine on printed functions: what they answer. No Go, no memory. -/
import Derived.Test.YtadlpnejkkblfaaPx6
import Derived.Test.YtadlpnejkkblfaaEv
import Derived.Test.YtadlpnejkkblfaaGame
namespace Go.Proofs.Ytadlpnejkkblfaa.P
open Go.RowKit Go.Proofs.YtadlpnejkkblfaaW.PrintWords Go.Proofs.YtadlpnejkkblfaaW.PrintLast Go.Proofs.YtadlpnejkkblfaaW.PrintMore
set_option linter.unusedVariables false
set_option linter.unusedSimpArgs false

-- NEEDS Game
theorem spec_gmProper.ev (ws : List Bool) (N : Nat) (hN : ws.length = N) (h0 : 1 ≤ N) (hn : N ≤ 1000000) : Ev (fun k => spec_gmProper.f k ws) (properL ws N) := by
  unfold spec_gmProper.f
  have h := down (P := fun i => Ev (fun k => spec_gmProper.l0 k ws ws (ws.length : Int) (i : Int)) (((List.range N).drop i).all (fun m => !(ws.getD m false && ws.getD (N - 1 - m) false)))) N ?_ ?_ 0 (Nat.zero_le _)
  · exact h
  · refine Ev.step (fun k => by rw [spec_gmProper.l0]) ?_
    exact Ev.neg (by omega) ((Ev.now _).cast (by rw [List.drop_of_length_le (by simp)]; rfl))
  · intro i hi ih
    refine Ev.step (fun k => by rw [spec_gmProper.l0]) ?_
    refine Ev.pos (by omega) (Ev.pos (by omega) (Ev.pos (by omega) ?_))
    have e := all_from (fun m => !(ws.getD m false && ws.getD (N - 1 - m) false)) N i hi
    have e1 : wrap64 (wrap64 ((ws.length : Int) - 1) - (i : Int)) = ((N - 1 - i : Nat) : Int) := by
      rw [wrap_id (x := (ws.length : Int) - 1) (by omega) (by omega), wrap_id (by omega) (by omega)]
      omega
    rw [e1, rdOf_nat (by omega), rdOf_nat (by omega), wrap_next hi (by omega)]
    rw [getD_at (by omega), getD_at (by omega)] at e
    cases hb : ws[i]'(by omega) with
    | true =>
      refine Ev.pos rfl (Ev.pos (by omega) (Ev.pos (by omega) ?_))
      cases hc : ws[N - 1 - i]'(by omega) with
      | true => exact Ev.pos rfl ((Ev.now _).cast (by rw [e, hb, hc]; rfl))
      | false => exact Ev.neg (by decide) (ih.cast (by rw [e, hb, hc]; rfl))
    | false => exact Ev.neg (by decide) (ih.cast (by rw [e, hb]; rfl))

theorem impl_votes_all.eq {n : Nat} (hn : n ≤ 62) (ws : List Bool) : impl_votes_all.f (n : Int) ws = some ((2 ^ n - 1 : Nat) : Int) := by
  unfold impl_votes_all.f
  have h0 : 1 ≤ 2 ^ n := Nat.one_le_two_pow
  have h1 := Nat.pow_le_pow_right (n := 2) (by omega) hn
  rw [if_pos (by omega), shl_one hn, wrap_id (by omega) (by omega)]
  congr 1
  omega

end Go.Proofs.Ytadlpnejkkblfaa.P
