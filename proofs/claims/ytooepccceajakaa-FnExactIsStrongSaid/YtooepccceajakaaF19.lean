/- Plain facts of mine on printed functions: what they answer. No Go, no memory. -/
import Derived.Test.YtooepccceajakaaPx19
import Derived.Test.YtooepccceajakaaEv
import Derived.Test.YtooepccceajakaaF1
import Derived.Test.YtooepccceajakaaF4
import Derived.Test.YtooepccceajakaaF5
import Derived.Test.YtooepccceajakaaF7
import Derived.Test.YtooepccceajakaaSets
import Derived.Test.YtooepccceajakaaSets
import Derived.Test.YtooepccceajakaaSets
namespace Go.Proofs.Ytooepccceajakaa.P
open Go.RowKit Go.Proofs.YtooepccceajakaaW.PrintWords Go.Proofs.YtooepccceajakaaW.PrintLast Go.Proofs.YtooepccceajakaaW.PrintMore
set_option linter.unusedVariables false
set_option linter.unusedSimpArgs false

-- NEEDS Sets
theorem spec_IsStrong.loop (ws : List Bool) (N : Nat) (hN : ws.length = N) (h0 : 1 ≤ N) (hn : N ≤ 1000000) : Ev (fun k => spec_IsStrong.l0 k ws ((N - 1 : Nat) : Int) (ws.length : Int) 0) (strongL ws N, true) := by
  have h := down (P := fun i => Ev (fun k => spec_IsStrong.l0 k ws ((N - 1 : Nat) : Int) (ws.length : Int) (i : Int)) (((List.range N).drop i).all (fun m => ws.getD m false || ws.getD (N - 1 - m) false), true)) N ?_ ?_ 0 (Nat.zero_le _)
  · exact h
  · refine Ev.step (fun k => by rw [spec_IsStrong.l0]) ?_
    exact Ev.neg (by omega) ((Ev.now _).cast (by rw [List.drop_of_length_le (by simp)]; rfl))
  · intro i hi ih
    refine Ev.step (fun k => by rw [spec_IsStrong.l0]) ?_
    refine Ev.pos (by omega) (Ev.pos (by omega) (Ev.pos (by omega) ?_))
    have e := all_from (fun m => ws.getD m false || ws.getD (N - 1 - m) false) N i hi
    have e1 : wrap64 (((N - 1 : Nat) : Int) - (i : Int)) = ((N - 1 - i : Nat) : Int) := by
      rw [wrap_id (by omega) (by omega)]
      omega
    rw [e1, rdOf_nat (by omega), rdOf_nat (by omega), wrap_next hi (by omega)]
    rw [getD_at (by omega), getD_at (by omega)] at e
    cases hb : ws[i]'(by omega) with
    | true => exact Ev.pos rfl (ih.cast (by rw [e, hb]; rfl))
    | false =>
      refine Ev.neg (by decide) (Ev.pos (by omega) (Ev.pos (by omega) ?_))
      cases hc : ws[N - 1 - i]'(by omega) with
      | true => exact Ev.pos rfl (ih.cast (by rw [e, hb, hc]; rfl))
      | false => exact Ev.neg (by decide) ((Ev.now _).cast (by rw [e, hb, hc]; rfl))
theorem spec_IsStrong.ev (q : Int) (l : List Int) (hn : l.length ≤ 9223372036854775807) : Ev (fun k => spec_IsStrong.f k q l) (if goodC q l = true then (strongL (winsC q l) (2 ^ l.length), true) else (false, false)) := by
  unfold spec_IsStrong.f
  refine Ev.bind (spec_voGood.ev q l hn) ?_
  cases h : goodC q l with
  | false => exact Ev.neg (by decide) (Ev.now _)
  | true =>
    obtain ⟨h1, h2, h3, h4, h5⟩ := goodC_iff.1 h
    have hp := pow9 h2
    exact Ev.pos rfl (Ev.bind (spec_voWins.ev q l h2 h3) (Ev.one (spec_voAll.eq (by omega)) (spec_IsStrong.loop _ _ (winsC_length q l) hp.1 (by omega))))

-- NEEDS Sets
theorem impl_votes_isStrong.ev (n : Nat) (ws : List Bool) (hN : ws.length = 2 ^ n) (h9 : n ≤ 9) : Ev (fun k => impl_votes_isStrong.f k (n : Int) ws) (strongL ws (2 ^ n)) := by
  unfold impl_votes_isStrong.f
  have hp := pow9 h9
  have h := down (P := fun i => Ev (fun k => impl_votes_isStrong.l0 k ws (ws.length : Int) (i : Int) (n : Int) ws) (((List.range (2 ^ n)).drop i).all (fun m => ws.getD m false || ws.getD (2 ^ n - 1 - m) false))) (2 ^ n) ?_ ?_ 0 (Nat.zero_le _)
  · exact h
  · refine Ev.step (fun k => by rw [impl_votes_isStrong.l0]) ?_
    exact Ev.neg (by omega) ((Ev.now _).cast (by rw [List.drop_of_length_le (by simp)]; rfl))
  · intro i hi ih
    refine Ev.step (fun k => by rw [impl_votes_isStrong.l0]) ?_
    refine Ev.pos (by omega) (Ev.pos (by omega) (Ev.pos (by omega) ?_))
    have e := all_from (fun m => ws.getD m false || ws.getD (2 ^ n - 1 - m) false) (2 ^ n) i hi
    have e1 := andNot_all (n := n) (m := i) (by omega) hi
    rw [rdOf_nat (by omega), wrap_next hi (by omega)]
    rw [getD_at (by omega), getD_at (by omega)] at e
    cases hb : ws[i]'(by omega) with
    | true => exact Ev.pos rfl (ih.cast (by rw [e, hb]; rfl))
    | false =>
      refine Ev.neg (by decide) (Ev.one (impl_votes_all.eq (by omega) ws) ?_)
      rw [e1]
      refine Ev.pos (by omega) (Ev.pos (by omega) ?_)
      rw [rdOf_nat (by omega)]
      cases hc : ws[2 ^ n - 1 - i]'(by omega) with
      | true => exact Ev.pos rfl (ih.cast (by rw [e, hb, hc]; rfl))
      | false => exact Ev.neg (by decide) ((Ev.now _).cast (by rw [e, hb, hc]; rfl))

-- NEEDS Sets
theorem impl_IsStrong.ev (q : Int) (l : List Int) (hn : l.length ≤ 9223372036854775807) : Ev (fun k => impl_IsStrong.f k q l) (if goodC q l = true then (strongL (winsC q l) (2 ^ l.length), true) else (false, false)) := by
  unfold impl_IsStrong.f
  refine Ev.bind (impl_IsCommittee.ev q l hn) ?_
  cases h : goodC q l with
  | false => exact Ev.neg (by decide) (Ev.bind (impl_IsCommittee.ev q l hn) ((Ev.now _).cast (by rw [h]; rfl)))
  | true =>
    obtain ⟨h1, h2, h3, h4, h5⟩ := goodC_iff.1 h
    exact Ev.pos rfl (Ev.one (impl_Committee_votes.eq h) (Ev.bind (impl_votes_isStrong.ev l.length _ (winsC_length q l) h2) (Ev.bind (impl_IsCommittee.ev q l hn) ((Ev.now _).cast (by rw [h]; rfl)))))

end Go.Proofs.Ytooepccceajakaa.P
