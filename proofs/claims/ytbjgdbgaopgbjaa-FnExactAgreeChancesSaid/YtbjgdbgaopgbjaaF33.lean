/- Plain facts of mine on printed functions: what they answer. No Go, no memory. -/
import Derived.Test.YtbjgdbgaopgbjaaPx33
import Derived.Test.YtbjgdbgaopgbjaaEv
import Derived.Test.YtbjgdbgaopgbjaaF1
import Derived.Test.YtbjgdbgaopgbjaaF2
import Derived.Test.YtbjgdbgaopgbjaaF7
import Derived.Test.YtbjgdbgaopgbjaaPow
import Derived.Test.YtbjgdbgaopgbjaaPow
namespace Go.Proofs.Ytbjgdbgaopgbjaa.P
open Go.RowKit Go.Proofs.YtbjgdbgaopgbjaaW.PrintWords Go.Proofs.YtbjgdbgaopgbjaaW.PrintLast Go.Proofs.YtbjgdbgaopgbjaaW.PrintMore
set_option linter.unusedVariables false
set_option linter.unusedSimpArgs false

-- NEEDS Pow
/-- Of how many sets each member agrees with what is decided. -/
def spec_AgreeChances.list (ws : List Bool) (N m : Nat) : List S40 := (List.range m).map fun k => ⟨(shareO (cntN (agreeF ws k) N) (N : Int)).1, (shareO (cntN (agreeF ws k) N) (N : Int)).2⟩
theorem spec_AgreeChances.loop (ws : List Bool) (n : Nat) (hN : ws.length = 2 ^ n) (h9 : n ≤ 9) : Ev (fun k => spec_AgreeChances.l0 k ws [] (n : Int) 0) (spec_AgreeChances.list ws (2 ^ n) n, true) := by
  have hp := pow9 h9
  have h := down (P := fun m => Ev (fun k => spec_AgreeChances.l0 k ws (spec_AgreeChances.list ws (2 ^ n) m) (n : Int) (m : Int)) (spec_AgreeChances.list ws (2 ^ n) n, true)) n ?_ ?_ 0 (Nat.zero_le _)
  · exact h
  · refine Ev.step (fun k => by rw [spec_AgreeChances.l0]) ?_
    exact Ev.neg (by omega) (Ev.now _)
  · intro m hm ih
    refine Ev.step (fun k => by rw [spec_AgreeChances.l0]) ?_
    refine Ev.pos (by omega) ?_
    have h := down (P := fun i => Ev (fun k => spec_AgreeChances.l1 k ws (spec_AgreeChances.list ws (2 ^ n) m) (m : Int) (cntN (agreeF ws m) i) (n : Int) (m : Int) ws (ws.length : Int) (i : Int)) (spec_AgreeChances.list ws (2 ^ n) n, true)) (2 ^ n) ?_ ?_ 0 (Nat.zero_le _)
    · exact h
    · refine Ev.step (fun k => by rw [spec_AgreeChances.l1]) ?_
      have hc := cntN_le (agreeF ws m) (2 ^ n)
      refine Ev.neg (by omega) (Ev.bind (spec_pwShare.ev (n := cntN (agreeF ws m) (2 ^ n)) (d := (ws.length : Int)) (by omega) (by omega) (by omega) (by omega)) (Ev.pos (by simp [spec_AgreeChances.list]; omega) ?_))
      have e : spec_AgreeChances.list ws (2 ^ n) m ++ [⟨(shareO (cntN (agreeF ws m) (2 ^ n)) (ws.length : Int)).1, (shareO (cntN (agreeF ws m) (2 ^ n)) (ws.length : Int)).2⟩] = spec_AgreeChances.list ws (2 ^ n) (m + 1) := by
        unfold spec_AgreeChances.list
        rw [map_next, hN]
      rw [wrap_next hm (by omega), e]
      exact ih
    · intro i hi ihi
      refine Ev.step (fun k => by rw [spec_AgreeChances.l1]) ?_
      have hc := cntN_le (agreeF ws m) i
      refine Ev.pos (by omega) (Ev.pos (by omega) (Ev.pos (by omega) (Ev.pos (by omega) ?_)))
      have hag : (rdOf false ws (i : Int) == ((Int.tmod (shr .i64 (i : Int) (m : Int)) 2) == 1)) = agreeF ws m i := by
        have e1 : ((Int.tmod (shr .i64 (i : Int) (m : Int)) 2) == 1) = i.testBit m := by
          rw [Bool.eq_iff_iff, beq_iff_eq]
          exact mod_nat i m (by omega)
        rw [e1, rdOf_nat (by omega), agreeF, getD_at (by omega)]
      rw [wrap_next hi (by omega)]
      cases hb : agreeF ws m i with
      | true =>
        refine Ev.pos (by rw [hag]; exact hb) ?_
        rw [wrap_id (by omega) (by omega), ← cntN_pos hb]
        exact ihi
      | false =>
        refine Ev.neg (by rw [hag, hb]; decide) ?_
        rw [← cntN_neg hb]
        exact ihi
theorem spec_AgreeChances.ev (q : Int) (l : List Int) (hn : l.length ≤ 9223372036854775807) : Ev (fun k => spec_AgreeChances.f k q l) (if goodC q l = true then (spec_AgreeChances.list (winsC q l) (2 ^ l.length) l.length, true) else ([], false)) := by
  unfold spec_AgreeChances.f
  refine Ev.bind (spec_voGood.ev q l hn) ?_
  cases h : goodC q l with
  | false => exact Ev.neg (by decide) (Ev.now _)
  | true =>
    obtain ⟨h1, h2, h3, h4, h5⟩ := goodC_iff.1 h
    exact Ev.pos rfl (Ev.bind (spec_voWins.ev q l h2 h3) (spec_AgreeChances.loop _ l.length (winsC_length q l) h2))

-- NEEDS Pow
theorem impl_AgreeChances.loop (ws : List Bool) (n : Nat) (hN : ws.length = 2 ^ n) (h9 : n ≤ 9) : Ev (fun k => impl_AgreeChances.l0 k [] (n : Int) 0 (n : Int) ws) (spec_AgreeChances.list ws (2 ^ n) n, true) := by
  have hp := pow9 h9
  have h := down (P := fun m => Ev (fun k => impl_AgreeChances.l0 k (spec_AgreeChances.list ws (2 ^ n) m) (n : Int) (m : Int) (n : Int) ws) (spec_AgreeChances.list ws (2 ^ n) n, true)) n ?_ ?_ 0 (Nat.zero_le _)
  · exact h
  · refine Ev.step (fun k => by rw [impl_AgreeChances.l0]) ?_
    exact Ev.neg (by omega) (Ev.now _)
  · intro m hm ih
    refine Ev.step (fun k => by rw [impl_AgreeChances.l0]) ?_
    refine Ev.pos (by omega) ?_
    have h := down (P := fun i => Ev (fun k => impl_AgreeChances.l1 k (spec_AgreeChances.list ws (2 ^ n) m) (m : Int) (cntN (agreeF ws m) i) (n : Int) (m : Int) ws (ws.length : Int) (i : Int) (n : Int) ws) (spec_AgreeChances.list ws (2 ^ n) n, true)) (2 ^ n) ?_ ?_ 0 (Nat.zero_le _)
    · exact h
    · refine Ev.step (fun k => by rw [impl_AgreeChances.l1]) ?_
      have hc := cntN_le (agreeF ws m) (2 ^ n)
      refine Ev.neg (by omega) (Ev.bind (impl_shareOf.ev (n := cntN (agreeF ws m) (2 ^ n)) (d := (ws.length : Int)) (by omega) (by omega) (by omega) (by omega)) (Ev.pos (by simp [spec_AgreeChances.list]; omega) ?_))
      have e : spec_AgreeChances.list ws (2 ^ n) m ++ [⟨(shareO (cntN (agreeF ws m) (2 ^ n)) (ws.length : Int)).1, (shareO (cntN (agreeF ws m) (2 ^ n)) (ws.length : Int)).2⟩] = spec_AgreeChances.list ws (2 ^ n) (m + 1) := by
        unfold spec_AgreeChances.list
        rw [map_next, hN]
      rw [wrap_next hm (by omega), e]
      exact ih
    · intro i hi ihi
      refine Ev.step (fun k => by rw [impl_AgreeChances.l1]) ?_
      have hc := cntN_le (agreeF ws m) i
      refine Ev.pos (by omega) (Ev.pos (by omega) (Ev.pos (by omega) (Ev.one (impl_has.nat (Nat.lt_of_lt_of_le hi (Nat.le_trans hp.2 (by decide))) (by omega)) ?_)))
      have hag : (rdOf false ws (i : Int) == i.testBit m) = agreeF ws m i := by
        rw [rdOf_nat (by omega), agreeF, getD_at (by omega)]
      rw [wrap_next hi (by omega)]
      cases hb : agreeF ws m i with
      | true =>
        refine Ev.pos (by rw [hag]; exact hb) ?_
        rw [wrap_id (by omega) (by omega), ← cntN_pos hb]
        exact ihi
      | false =>
        refine Ev.neg (by rw [hag, hb]; decide) ?_
        rw [← cntN_neg hb]
        exact ihi
theorem impl_AgreeChances.ev (q : Int) (l : List Int) (hn : l.length ≤ 9223372036854775807) : Ev (fun k => impl_AgreeChances.f k q l) (if goodC q l = true then (spec_AgreeChances.list (winsC q l) (2 ^ l.length) l.length, true) else ([], false)) := by
  unfold impl_AgreeChances.f
  refine Ev.bind (impl_IsCommittee.ev q l hn) ?_
  cases h : goodC q l with
  | false => exact Ev.neg (by decide) (Ev.now _)
  | true =>
    obtain ⟨h1, h2, h3, h4, h5⟩ := goodC_iff.1 h
    exact Ev.pos rfl (Ev.one (impl_Committee_votes.eq h) (impl_AgreeChances.loop _ l.length (winsC_length q l) h2))

end Go.Proofs.Ytbjgdbgaopgbjaa.P
