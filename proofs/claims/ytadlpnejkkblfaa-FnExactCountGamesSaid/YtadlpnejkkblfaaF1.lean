/- Plain facts of mine on printed functions: what they answer. No Go, no memory. -/
import Derived.Test.YtadlpnejkkblfaaPx1
import Derived.Test.YtadlpnejkkblfaaEv
import Derived.Test.YtadlpnejkkblfaaGame
import Derived.Test.YtadlpnejkkblfaaShare
import Derived.Test.YtadlpnejkkblfaaGame
namespace Go.Proofs.Ytadlpnejkkblfaa.P
open Go.RowKit Go.Proofs.YtadlpnejkkblfaaW.PrintWords Go.Proofs.YtadlpnejkkblfaaW.PrintLast Go.Proofs.YtadlpnejkkblfaaW.PrintMore
set_option linter.unusedVariables false
set_option linter.unusedSimpArgs false

theorem spec_l1In.eq (a b c : Int) : spec_l1In.f a b c = some (inB b c a) := by
  unfold spec_l1In.f inB
  by_cases h : a ≥ b
  · simp [h]
  · simp [h]

-- NEEDS Game
theorem spec_gmProper.ev (ws : List Bool) (N : Nat) (hN : ws.length = N) (h0 : 1 ≤ N) (hn : N ≤ 1000000) : Ev (fun k => spec_gmProper.f k ws) (properL ws N) := by
  unfold spec_gmProper.f
  have h := down (P := fun i => Ev (fun k => spec_gmProper.l0 k ws ws (ws.length : Int) (i : Int)) (((List.range N).drop i).all (fun m => !(ws.getD m false && ws.getD (N - 1 - m) false)))) N ?_ ?_ 0 (Nat.zero_le _)
  · exact h
  · refine Ev.step (fun k => by rw [spec_gmProper.l0]) ?_
    exact Ev.neg (by omega) ((Ev.now _).cast (by rw [List.drop_of_length_le (by simp)]; rfl))
  · intro i hi ih
    refine Ev.step (fun k => by rw [spec_gmProper.l0]) ?_
    refine Ev.pos (by omega) (Ev.pos (by omega) (Ev.pos (by omega) ?_))
    have e := all_from (fun m => !(ws.getD m false && ws.getD (N - 1 - m) false)) N i hi
    have e1 : wrap64 (wrap64 ((ws.length : Int) - 1) - (i : Int)) = ((N - 1 - i : Nat) : Int) := by
      rw [wrap_id (x := (ws.length : Int) - 1) (by omega) (by omega), wrap_id (by omega) (by omega)]
      omega
    rw [e1, rdOf_nat (by omega), rdOf_nat (by omega), wrap_next hi (by omega)]
    rw [getD_at (by omega), getD_at (by omega)] at e
    cases hb : ws[i]'(by omega) with
    | true =>
      refine Ev.pos rfl (Ev.pos (by omega) (Ev.pos (by omega) ?_))
      cases hc : ws[N - 1 - i]'(by omega) with
      | true => exact Ev.pos rfl ((Ev.now _).cast (by rw [e, hb, hc]; rfl))
      | false => exact Ev.neg (by decide) (ih.cast (by rw [e, hb, hc]; rfl))
    | false => exact Ev.neg (by decide) (ih.cast (by rw [e, hb]; rfl))

theorem impl_within.eq (a b c : Int) : impl_within.f a b c = some (inB b c a) := by
  unfold impl_within.f inB
  by_cases h : a ≥ b
  · simp [h]
  · simp [h]

theorem impl_votes_all.eq {n : Nat} (hn : n ≤ 62) (ws : List Bool) : impl_votes_all.f (n : Int) ws = some ((2 ^ n - 1 : Nat) : Int) := by
  unfold impl_votes_all.f
  have h0 : 1 ≤ 2 ^ n := Nat.one_le_two_pow
  have h1 := Nat.pow_le_pow_right (n := 2) (by omega) hn
  rw [if_pos (by omega), shl_one hn, wrap_id (by omega) (by omega)]
  congr 1
  omega

theorem cmp_isNaN_int.eq (a : Int) : cmp_isNaN_int.f a = some false := by simp [cmp_isNaN_int.f]

-- NEEDS Share
theorem cmp_Compare_int.eq (a b : Int) : cmp_Compare_int.f a b = some (sgn (a - b)) := by
  unfold cmp_Compare_int.f sgn
  simp only [cmp_isNaN_int.eq, Option.bind_some, Bool.false_eq_true, if_false]
  by_cases h1 : a < b
  · rw [if_pos h1, if_neg (by omega), if_pos (by omega)]
  · rw [if_neg h1]
    by_cases h2 : a > b
    · rw [if_pos h2, if_pos (by omega)]
    · rw [if_neg h2, if_neg (by omega), if_neg (by omega)]

-- NEEDS Game
theorem slices_Compare_int_int.ev (a b : List Int) (ha : a.length ≤ 9223372036854775807) (hb : b.length ≤ 9223372036854775807) : Ev (fun k => slices_Compare_int_int.f k a b) (cmpL a b) := by
  unfold slices_Compare_int_int.f
  have h := down (P := fun i => i ≤ b.length → Ev (fun k => slices_Compare_int_int.l0 k a b a (a.length : Int) (i : Int)) (cmpL (a.drop i) (b.drop i))) a.length ?_ ?_ 0 (Nat.zero_le _) (Nat.zero_le _)
  · exact h
  · intro hle
    refine Ev.step (fun k => by rw [slices_Compare_int_int.l0]) ?_
    refine Ev.neg (by omega) ?_
    rw [List.drop_length]
    by_cases h : a.length < b.length
    · rw [List.drop_eq_getElem_cons h]
      exact Ev.pos (by omega) (Ev.now _)
    · rw [show b.drop a.length = [] from List.drop_of_length_le (by omega)]
      exact Ev.neg (by omega) (Ev.now _)
  · intro i hi ih hle
    refine Ev.step (fun k => by rw [slices_Compare_int_int.l0]) ?_
    refine Ev.pos (by omega) (Ev.pos (by omega) (Ev.pos (by omega) ?_))
    rw [List.drop_eq_getElem_cons hi]
    by_cases h : i < b.length
    · rw [List.drop_eq_getElem_cons h]
      refine Ev.neg (by omega) (Ev.pos (by omega) (Ev.one (cmp_Compare_int.eq _ _) ?_))
      rw [rd_nat hi, rd_nat h, wrap_next hi ha]
      unfold cmpL
      by_cases he : a[i] = b[i]
      · rw [if_pos he]
        refine Ev.pos (by rw [he, Int.sub_self]; rfl) (ih (by omega))
      · rw [if_neg he]
        refine Ev.neg ?_ (Ev.now _)
        unfold sgn
        split
        · decide
        · split
          · decide
          · omega
    · rw [show b.drop i = [] from List.drop_of_length_le (by omega)]
      exact Ev.pos (by omega) (Ev.now _)

end Go.Proofs.Ytadlpnejkkblfaa.P
