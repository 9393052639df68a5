/- Plain facts of mine on printed functions: what they answer. No Go, no memory. -/
import Derived.Test.YthjnmfacdlgbbaaPx12
import Derived.Test.YthjnmfacdlgbbaaEv
import Derived.Test.YthjnmfacdlgbbaaF1
import Derived.Test.YthjnmfacdlgbbaaF3
import Derived.Test.YthjnmfacdlgbbaaF5
import Derived.Test.YthjnmfacdlgbbaaF8
import Derived.Test.YthjnmfacdlgbbaaPow
import Derived.Test.YthjnmfacdlgbbaaPow
namespace Go.Proofs.Ythjnmfacdlgbbaa.P
open Go.RowKit Go.Proofs.YthjnmfacdlgbbaaW.PrintWords Go.Proofs.YthjnmfacdlgbbaaW.PrintLast Go.Proofs.YthjnmfacdlgbbaaW.PrintMore
set_option linter.unusedVariables false
set_option linter.unusedSimpArgs false

theorem spec_l1Own.eq (l : List Int) (hn : l.length ≤ 1000000000000) : spec_l1Own.f l = some l := by
  unfold spec_l1Own.f
  rw [Option.bind_some, if_pos (by simp; omega)]
  rfl

-- NEEDS Pow
/-- The committee without a member, if it is one. -/
def dropL (l : List Int) (d : Nat) : List Int := l.take d ++ l.drop (d + 1)
def dropV (q : Int) (l : List Int) (d : Int) : Int × List Int × Bool := if (goodC q l && inB 0 ((l.length : Int) - 1) d && goodC q (dropL l d.toNat)) = true then (q, dropL l d.toNat, true) else (0, [], false)
theorem dropL_length (l : List Int) (d : Nat) : (dropL l d).length ≤ l.length := by
  unfold dropL
  rw [List.length_append, List.length_take, List.length_drop]
  omega
theorem spec_DropMember.ev (q : Int) (l : List Int) (d : Int) (hn : l.length ≤ 9223372036854775807) (hk0 : -9223372036854775808 ≤ d) (hk1 : d ≤ 9223372036854775807) : Ev (fun k => spec_DropMember.f k q l d) (dropV q l d) := by
  unfold spec_DropMember.f
  have hbad : dropV q l d = (0, [], false) → Ev (fun k => spec_DropMember.j0 k d true q l) (dropV q l d) := fun h => by
    rw [h]
    exact Ev.step (fun k => by rw [spec_DropMember.j0]) (Ev.pos rfl (Ev.now _))
  refine Ev.bind (spec_voGood.ev q l hn) ?_
  cases h : goodC q l with
  | false => exact Ev.neg (by decide) (hbad (by simp [dropV, h]))
  | true =>
    obtain ⟨h1, h2, h3, h4, h5⟩ := goodC_iff.1 h
    refine Ev.pos rfl (Ev.one (spec_l1In.eq _ _ _) ?_)
    rw [wrap_id (x := (l.length : Int) - 1) (by omega) (by omega)]
    cases h6 : inB 0 ((l.length : Int) - 1) d with
    | false => exact hbad (by simp [dropV, h6])
    | true =>
      have h7 := inB_iff.1 h6
      obtain ⟨m, rfl⟩ := Int.eq_ofNat_of_zero_le h7.1
      refine Ev.step (fun k => by rw [spec_DropMember.j0]) (Ev.neg (by decide) ?_)
      have hl := dropL_length l m
      have e1 : wrap64 ((m : Int) + 1) = ((m + 1 : Nat) : Int) := by
        rw [wrap_id (by omega) (by omega)]
        omega
      rw [e1, Int.toNat_natCast, Int.toNat_natCast]
      refine Ev.pos (by omega) (Ev.pos (by omega) (Ev.one (spec_l1Own.eq _ (by rw [List.length_take]; omega)) (Ev.pos (by omega) (Ev.pos (by omega) (Ev.pos (by rw [List.length_take, List.length_drop]; omega) (Ev.one (a := dropL l m) rfl ?_))))))
      refine Ev.bind (spec_voGood.ev q (dropL l m) (by omega)) ?_
      cases h8 : goodC q (dropL l m) with
      | false => exact Ev.neg (by decide) ((Ev.now _).cast (by simp [dropV, h8]))
      | true => exact Ev.pos rfl ((Ev.now _).cast (by simp [dropV, h, h6, h8]))

theorem slices_Clone_int_int.eq (l : List Int) (hn : l.length ≤ 1000000000000) : slices_Clone_int_int.f l = some l := by
  unfold slices_Clone_int_int.f
  rw [if_pos (by omega)]

-- NEEDS Pow
theorem impl_DropMember.ev (q : Int) (l : List Int) (d : Int) (hn : l.length ≤ 9223372036854775807) (hk0 : -9223372036854775808 ≤ d) (hk1 : d ≤ 9223372036854775807) : Ev (fun k => impl_DropMember.f k q l d) (dropV q l d) := by
  unfold impl_DropMember.f
  refine Ev.bind (impl_isMember.ev q l d hn) ?_
  cases h : (goodC q l && inB 0 ((l.length : Int) - 1) d) with
  | false => exact Ev.neg (by decide) ((Ev.now _).cast (by unfold dropV; rw [h]; rfl))
  | true =>
    have h0 := Bool.and_eq_true_iff.1 h
    obtain ⟨h1, h2, h3, h4, h5⟩ := goodC_iff.1 h0.1
    have h7 := inB_iff.1 h0.2
    have hl := dropL_length l d.toNat
    refine Ev.pos rfl (Ev.pos ⟨by omega, by omega, by omega⟩ ((impl_ifCommittee.ev q (dropL l d.toNat) (by omega)).cast ?_))
    unfold dropV
    rw [h, Bool.true_and]

end Go.Proofs.Ythjnmfacdlgbbaa.P
