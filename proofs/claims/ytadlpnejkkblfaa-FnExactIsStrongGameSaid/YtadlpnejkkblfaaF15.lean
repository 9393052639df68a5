/- Plain facts of mine on printed functions: what they answer. No Go, no memory. -/
import Derived.Test.YtadlpnejkkblfaaPx15
import Derived.Test.YtadlpnejkkblfaaEv
import Derived.Test.YtadlpnejkkblfaaF2
import Derived.Test.YtadlpnejkkblfaaF5
import Derived.Test.YtadlpnejkkblfaaF6
import Derived.Test.YtadlpnejkkblfaaGame
import Derived.Test.YtadlpnejkkblfaaGame
import Derived.Test.YtadlpnejkkblfaaSets
import Derived.Test.YtadlpnejkkblfaaGame
namespace Go.Proofs.Ytadlpnejkkblfaa.P
open Go.RowKit Go.Proofs.YtadlpnejkkblfaaW.PrintWords Go.Proofs.YtadlpnejkkblfaaW.PrintLast Go.Proofs.YtadlpnejkkblfaaW.PrintMore
set_option linter.unusedVariables false
set_option linter.unusedSimpArgs false

-- NEEDS Game
theorem spec_gmDual.ev (ws : List Bool) (hn : ws.length ≤ 1000000) : Ev (fun k => spec_gmDual.f k ws) (dualL ws) := by
  unfold spec_gmDual.f
  refine Ev.pos (by omega) (Ev.pos (by omega) ?_)
  rw [Int.toNat_natCast, ← fillB_zero (fun i => !(ws.getD (ws.length - 1 - i) false))]
  have hl := fillB_length (fun i => !(ws.getD (ws.length - 1 - i) false)) ws.length
  have h := down (P := fun i => Ev (fun k => spec_gmDual.l0 k ws (fillB (fun i => !(ws.getD (ws.length - 1 - i) false)) ws.length i false) (ws.length : Int) (i : Int)) (dualL ws)) ws.length ?_ ?_ 0 (Nat.zero_le _)
  · exact h
  · refine Ev.step (fun k => by rw [spec_gmDual.l0]) ?_
    exact Ev.neg (by omega) ((Ev.now _).cast (fillB_end _ _ _))
  · intro i hi ih
    refine Ev.step (fun k => by rw [spec_gmDual.l0]) ?_
    have e1 : wrap64 (wrap64 ((ws.length : Int) - 1) - (i : Int)) = ((ws.length - 1 - i : Nat) : Int) := by
      rw [wrap_id (x := (ws.length : Int) - 1) (by omega) (by omega), wrap_id (by omega) (by omega)]
      omega
    rw [e1, Int.toNat_natCast, wrap_next hi (by omega), fillB_set hi]
    refine Ev.pos (by omega) (Ev.pos (by omega) (Ev.pos (by omega) (Ev.pos (by omega) (Ev.pos (by rw [hl]; omega) ?_))))
    have e2 : (!(rdOf false ws ((ws.length - 1 - i : Nat) : Int))) = (fun i => !(ws.getD (ws.length - 1 - i) false)) i := by
      rw [rdOf_nat (by omega)]
      show _ = !(ws.getD (ws.length - 1 - i) false)
      rw [getD_at (by omega)]
    rw [e2, fillB_next]
    exact ih

-- NEEDS Game
theorem spec_IsStrongGame.ev (n : Int) (L : List (List Int)) (hL : L.length ≤ 9223372036854775807) (hr : ∀ s ∈ L, s.length ≤ 9223372036854775807) : Ev (fun k => spec_IsStrongGame.f k n L) (if gameOK n L = true then (strongL (winsGL n.toNat L) (2 ^ n.toNat), true) else (false, false)) := by
  unfold spec_IsStrongGame.f
  refine Ev.bind (spec_gmGood.ev n L hL hr) ?_
  cases h : gameOK n L with
  | false => exact Ev.neg (by decide) (Ev.now _)
  | true =>
    obtain ⟨h1, h2, h3, h4, h5⟩ := gameOK_iff h
    have hp := pow9 (n := n.toNat) (by omega)
    have hl := winsGL_length n.toNat L
    refine Ev.pos rfl (Ev.bind (spec_gmAll.ev n L h hr) (Ev.bind (spec_gmDual.ev _ (by omega)) (Ev.bind (spec_gmProper.ev _ (2 ^ n.toNat) (by rw [dualL_length, hl]) hp.1 (by omega)) ((Ev.now _).cast ?_))))
    rw [dual_strong _ _ hl]
    rfl

-- NEEDS Sets
theorem impl_votes_isStrong.ev (n : Nat) (ws : List Bool) (hN : ws.length = 2 ^ n) (h9 : n ≤ 9) : Ev (fun k => impl_votes_isStrong.f k (n : Int) ws) (strongL ws (2 ^ n)) := by
  unfold impl_votes_isStrong.f
  have hp := pow9 h9
  have h := down (P := fun i => Ev (fun k => impl_votes_isStrong.l0 k ws (ws.length : Int) (i : Int) (n : Int) ws) (((List.range (2 ^ n)).drop i).all (fun m => ws.getD m false || ws.getD (2 ^ n - 1 - m) false))) (2 ^ n) ?_ ?_ 0 (Nat.zero_le _)
  · exact h
  · refine Ev.step (fun k => by rw [impl_votes_isStrong.l0]) ?_
    exact Ev.neg (by omega) ((Ev.now _).cast (by rw [List.drop_of_length_le (by simp)]; rfl))
  · intro i hi ih
    refine Ev.step (fun k => by rw [impl_votes_isStrong.l0]) ?_
    refine Ev.pos (by omega) (Ev.pos (by omega) (Ev.pos (by omega) ?_))
    have e := all_from (fun m => ws.getD m false || ws.getD (2 ^ n - 1 - m) false) (2 ^ n) i hi
    have e1 := andNot_all (n := n) (m := i) (by omega) hi
    rw [rdOf_nat (by omega), wrap_next hi (by omega)]
    rw [getD_at (by omega), getD_at (by omega)] at e
    cases hb : ws[i]'(by omega) with
    | true => exact Ev.pos rfl (ih.cast (by rw [e, hb]; rfl))
    | false =>
      refine Ev.neg (by decide) (Ev.one (impl_votes_all.eq (by omega) ws) ?_)
      rw [e1]
      refine Ev.pos (by omega) (Ev.pos (by omega) ?_)
      rw [rdOf_nat (by omega)]
      cases hc : ws[2 ^ n - 1 - i]'(by omega) with
      | true => exact Ev.pos rfl (ih.cast (by rw [e, hb, hc]; rfl))
      | false => exact Ev.neg (by decide) ((Ev.now _).cast (by rw [e, hb, hc]; rfl))

-- NEEDS Game
theorem impl_IsStrongGame.ev (n : Int) (L : List (List Int)) (hL : L.length ≤ 9223372036854775807) (hr : ∀ s ∈ L, s.length ≤ 9223372036854775807) : Ev (fun k => impl_IsStrongGame.f k n L) (if gameOK n L = true then (strongL (winsGL n.toNat L) (2 ^ n.toNat), true) else (false, false)) := by
  unfold impl_IsStrongGame.f
  refine Ev.bind (impl_IsGame.ev n L hL hr) ?_
  cases h : gameOK n L with
  | false => exact Ev.neg (by decide) (Ev.bind (impl_IsGame.ev n L hL hr) ((Ev.now _).cast (by rw [h]; rfl)))
  | true =>
    obtain ⟨h1, h2, h3, h4, h5⟩ := gameOK_iff h
    have hv := impl_votes_isStrong.ev n.toNat (winsGL n.toNat L) (winsGL_length _ _) (by omega)
    rw [Int.toNat_of_nonneg (by omega)] at hv
    exact Ev.pos rfl (Ev.bind (impl_Game_votes.ev n L h hr) (Ev.bind hv (Ev.bind (impl_IsGame.ev n L hL hr) ((Ev.now _).cast (by rw [h]; rfl)))))

end Go.Proofs.Ytadlpnejkkblfaa.P
