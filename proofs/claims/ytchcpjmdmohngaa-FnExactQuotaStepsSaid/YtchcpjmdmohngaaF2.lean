/- Plain facts of mine on printed functions: what they answer. No Go, no memory. -/
import Derived.Test.YtchcpjmdmohngaaPx2
import Derived.Test.YtchcpjmdmohngaaEv
import Derived.Test.YtchcpjmdmohngaaF1
import Derived.Test.YtchcpjmdmohngaaSums
namespace Go.Proofs.Ytchcpjmdmohngaa.P
open Go.RowKit Go.Proofs.YtchcpjmdmohngaaW.PrintWords Go.Proofs.YtchcpjmdmohngaaW.PrintLast Go.Proofs.YtchcpjmdmohngaaW.PrintMore
set_option linter.unusedVariables false
set_option linter.unusedSimpArgs false

theorem slices_Clone_int_int.eq (l : List Int) (hn : l.length ≤ 1000000000000) : slices_Clone_int_int.f l = some l := by
  unfold slices_Clone_int_int.f
  rw [if_pos (by omega)]

-- NEEDS Sums
theorem impl_QuotaSteps.loop (L : List Int) (hl : L.length ≤ 1000) (hx : ∀ x ∈ L, 0 ≤ x ∧ x ≤ 1000000) : Ev (fun k => impl_QuotaSteps.l0 k L (L.length : Int) 0) (L.map (· + 1), true) := by
  have h := down (P := fun i => Ev (fun k => impl_QuotaSteps.l0 k ((L.take i).map (· + 1) ++ L.drop i) (L.length : Int) (i : Int)) (L.map (· + 1), true)) L.length ?_ ?_ 0 (Nat.zero_le _)
  · exact h
  · refine Ev.step (fun k => by rw [impl_QuotaSteps.l0]) ?_
    refine Ev.neg (by omega) ?_
    rw [List.take_length, List.drop_length, List.append_nil]
    exact Ev.one (slices_Clone_int_int.eq _ (by rw [List.length_map]; omega)) (Ev.now _)
  · intro i hi ih
    refine Ev.step (fun k => by rw [impl_QuotaSteps.l0]) ?_
    have hlen : ((L.take i).map (· + 1) ++ L.drop i).length = L.length := by simp; omega
    have hat : rd ((L.take i).map (· + 1) ++ L.drop i) (i : Int) = L[i] := by
      rw [rd_nat (by omega), List.getElem_append_right (by simp; omega)]
      simp [Nat.min_eq_left (show i ≤ L.length by omega)]
    have hv := hx L[i] (List.getElem_mem hi)
    rw [hat, wrap_next hi (by omega), Int.toNat_natCast, wrap_id (by omega) (by omega)]
    have e : ((L.take i).map (· + 1) ++ L.drop i).set i (L[i] + 1) = (L.take (i + 1)).map (· + 1) ++ L.drop (i + 1) := by
      rw [List.set_append_right _ _ (by simp; omega), List.length_map, List.length_take, Nat.min_eq_left (by omega), Nat.sub_self, List.drop_eq_getElem_cons hi, List.set_cons_zero, List.take_succ_eq_append_getElem hi, List.map_append, List.append_assoc]
      rfl
    rw [e]
    exact Ev.pos (by omega) (Ev.pos (by omega) (Ev.pos (by omega) ih))
theorem impl_QuotaSteps.ev (q : Int) (l : List Int) (hn : l.length ≤ 9223372036854775807) : Ev (fun k => impl_QuotaSteps.f k q l) (if goodC q l = true then (stepsC l, true) else ([], false)) := by
  unfold impl_QuotaSteps.f
  refine Ev.bind (impl_IsCommittee.ev q l hn) ?_
  cases h : goodC q l with
  | false => exact Ev.neg (by decide) (Ev.now _)
  | true =>
    obtain ⟨h1, h2, h3, h4, h5⟩ := goodC_iff.1 h
    obtain ⟨l1, l2, l3⟩ := stepsC_length h
    have hs := (sum_le h3).2
    refine Ev.pos rfl (Ev.bind (impl_Committee_sums.ev q l h2 h3) ?_)
    have e1 : wrap64 (((0 :: sumsS l).length : Int) - 1) = ((sumsS l).length : Int) := by
      rw [List.length_cons, wrap_id (by omega) (by omega)]
      omega
    rw [e1, Int.toNat_natCast]
    refine Ev.pos (by omega) (Ev.pos (by rw [List.length_cons]; omega) (Ev.one (a := (0 :: sumsS l).take (sumsS l).length) rfl ?_))
    have e2 : (0 :: sumsS l).take (sumsS l).length = 0 :: (sumsS l).take ((sumsS l).length - 1) := by
      obtain ⟨d, hd⟩ : ∃ d, (sumsS l).length = d + 1 := ⟨(sumsS l).length - 1, by omega⟩
      rw [hd, List.take_succ_cons]
      rfl
    rw [e2]
    exact impl_QuotaSteps.loop (0 :: (sumsS l).take ((sumsS l).length - 1)) (by rw [List.length_cons, List.length_take]; omega) (fun x hx => by
      rcases List.mem_cons.1 hx with rfl | hx
      · omega
      · have := sumsS_le h3 x (List.mem_of_mem_take hx)
        omega)

end Go.Proofs.Ytchcpjmdmohngaa.P
