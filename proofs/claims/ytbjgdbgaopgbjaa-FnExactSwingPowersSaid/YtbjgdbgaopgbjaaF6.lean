/- Plain facts of mine on printed functions: what they answer. No Go, no memory. -/
import Derived.Test.YtbjgdbgaopgbjaaPx6
import Derived.Test.YtbjgdbgaopgbjaaEv
import Derived.Test.YtbjgdbgaopgbjaaF2
import Derived.Test.YtbjgdbgaopgbjaaPow
import Derived.Test.YtbjgdbgaopgbjaaPow
namespace Go.Proofs.Ytbjgdbgaopgbjaa.P
open Go.RowKit Go.Proofs.YtbjgdbgaopgbjaaW.PrintWords Go.Proofs.YtbjgdbgaopgbjaaW.PrintLast Go.Proofs.YtbjgdbgaopgbjaaW.PrintMore
set_option linter.unusedVariables false
set_option linter.unusedSimpArgs false

-- NEEDS Pow
theorem spec_pwSwings.ev (ws : List Bool) (n m : Nat) (hN : ws.length = 2 ^ n) (h9 : n ≤ 9) (hm : m < n) : Ev (fun k => spec_pwSwings.f k ws (m : Int)) (swL ws m (2 ^ n)) := by
  unfold spec_pwSwings.f
  have hp := pow9 h9
  have hm2 := Nat.two_pow_pos m
  have h := down (P := fun i => Ev (fun k => spec_pwSwings.l0 k ws (m : Int) (swL ws m i) ws (ws.length : Int) (i : Int)) (swL ws m (2 ^ n))) (2 ^ n) ?_ ?_ 0 (Nat.zero_le _)
  · exact h
  · refine Ev.step (fun k => by rw [spec_pwSwings.l0]) ?_
    exact Ev.neg (by omega) (Ev.now _)
  · intro i hi ih
    refine Ev.step (fun k => by rw [spec_pwSwings.l0]) ?_
    refine Ev.pos (by omega) (Ev.pos (by omega) (Ev.pos (by omega) (Ev.pos (by omega) ?_)))
    rw [rdOf_nat (by omega), wrap_next hi (by omega)]
    cases hb : i.testBit m with
    | true =>
      refine Ev.neg (by rw [mod_nat0 i m (by omega), hb]; decide) ?_
      rw [← swL_neg (show isSw ws m i = false by simp [isSw, hb])]
      exact ih
    | false =>
      refine Ev.pos ((mod_nat0 i m (by omega)).2 hb) ?_
      cases hw : ws[i]'(by omega) with
      | true =>
        refine Ev.pos rfl ?_
        rw [← swL_neg (show isSw ws m i = false by rw [isSw, getD_at (by omega), hw, hb]; rfl)]
        exact ih
      | false =>
        refine Ev.neg (by decide) ?_
        have h2 := add_bit_lt hi hm hb
        have e : wrap64 ((i : Int) + shl .i64 1 (m : Int)) = ((i + 2 ^ m : Nat) : Int) := by
          rw [shl_one (by omega), wrap_id (by omega) (by omega)]
          omega
        rw [e, rdOf_nat (by omega)]
        refine Ev.pos (by omega) (Ev.pos (by omega) ?_)
        cases hv : ws[i + 2 ^ m]'(by omega) with
        | true =>
          refine Ev.pos rfl (Ev.pos (by have := swL_le ws m i; omega) ?_)
          rw [← swL_pos (show isSw ws m i = true by rw [isSw, getD_at (by omega), getD_at (by omega), hw, hb, hv]; rfl)]
          exact ih
        | false =>
          refine Ev.neg (by decide) ?_
          rw [← swL_neg (show isSw ws m i = false by rw [isSw, getD_at (by omega), getD_at (by omega), hw, hb, hv]; rfl)]
          exact ih

-- NEEDS Pow
theorem impl_votes_isSwing.eq (ws : List Bool) (n m i : Nat) (x : Int) (hN : ws.length = 2 ^ n) (h9 : n ≤ 9) (hm : m < n) (hi : i < 2 ^ n) : impl_votes_isSwing.f x ws (i : Int) (m : Int) = some (isSw ws m i) := by
  have hp := pow9 h9
  have hm2 := Nat.two_pow_pos m
  have h2m : 2 ^ m < 2 ^ 63 := Nat.pow_lt_pow_right (by omega) (by omega)
  unfold impl_votes_isSwing.f
  rw [impl_has.nat (Nat.lt_of_lt_of_le hi (Nat.le_trans hp.2 (by decide))) (by omega), Option.bind_some]
  cases hb : i.testBit m with
  | true => simp [isSw, hb]
  | false =>
    rw [if_neg (by decide), if_pos (by omega), if_pos (by omega), rdOf_nat (by omega)]
    cases hw : ws[i]'(by omega) with
    | true => rw [if_pos rfl, isSw, getD_at (by omega), hw, hb]; rfl
    | false =>
      have h2 := add_bit_lt hi hm hb
      rw [if_neg (by decide), if_pos (by omega), shl_one (by omega), or_nat (Nat.lt_of_lt_of_le hi (Nat.le_trans hp.2 (by decide))) h2m, or_add m i hb, if_pos (by omega), if_pos (by omega), rdOf_nat (by omega), isSw, getD_at (by omega), getD_at (by omega), hw, hb]
      rfl

end Go.Proofs.Ytbjgdbgaopgbjaa.P
