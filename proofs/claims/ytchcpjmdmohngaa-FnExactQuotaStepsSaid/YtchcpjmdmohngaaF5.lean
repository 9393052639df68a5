/- Plain facts of mine on printed functions: what they answer. No Go, no memory. -/
import Derived.Test.YtchcpjmdmohngaaPx5
import Derived.Test.YtchcpjmdmohngaaEv
import Derived.Test.YtchcpjmdmohngaaF1
import Derived.Test.YtchcpjmdmohngaaSums
import Derived.Test.YtchcpjmdmohngaaSets
import Derived.Test.YtchcpjmdmohngaaSets
import Derived.Test.YtchcpjmdmohngaaSets
namespace Go.Proofs.Ytchcpjmdmohngaa.P
open Go.RowKit Go.Proofs.YtchcpjmdmohngaaW.PrintWords Go.Proofs.YtchcpjmdmohngaaW.PrintLast Go.Proofs.YtchcpjmdmohngaaW.PrintMore
set_option linter.unusedVariables false
set_option linter.unusedSimpArgs false

-- NEEDS Sums
theorem spec_QuotaSteps.ev (q : Int) (l : List Int) (hn : l.length ≤ 9223372036854775807) : Ev (fun k => spec_QuotaSteps.f k q l) (if goodC q l = true then (stepsC l, true) else ([], false)) := by
  unfold spec_QuotaSteps.f
  refine Ev.bind (spec_voGood.ev q l hn) ?_
  cases h : goodC q l with
  | false => exact Ev.neg (by decide) (Ev.now _)
  | true =>
    obtain ⟨h1, h2, h3, h4, h5⟩ := goodC_iff.1 h
    obtain ⟨l1, l2, l3⟩ := stepsC_length h
    have hs := (sum_le h3).2
    refine Ev.pos rfl (Ev.bind (spec_shSums.ev q l h2 h3) ?_)
    have hO : stepsO (sumsS l) = some (stepsC l, true) := by
      unfold stepsO
      rw [if_pos ⟨l2, by omega, List.all_eq_true.2 (fun x hx => decide_eq_true (by have := sumsS_le h3 x hx; omega))⟩]
      rfl
    rw [hO]
    exact Ev.now _

-- NEEDS Sets
theorem laws_markIntS.ev (l : List Int) (k0 : Int) (h0 : 0 ≤ k0) (h1 : k0 ≤ 1000000000000) (hn : l.length ≤ 1000000000000) : Ev (fun k => laws_markIntS.f k l k0) (k0 + l.length, seqI k0 l.length) := by
  unfold laws_markIntS.f
  have h := down (P := fun i => Ev (fun k => laws_markIntS.l0 k (seqI k0 i ++ l.drop i) (k0 + i) (i : Int)) (k0 + l.length, seqI k0 l.length)) l.length ?_ ?_ 0 (Nat.zero_le _)
  · simpa [seqI] using h
  · refine Ev.step (fun k => by rw [laws_markIntS.l0]) ?_
    exact Ev.neg (by simp [seqI]) ((Ev.now _).cast (by simp))
  · intro i hi ih
    refine Ev.step (fun k => by rw [laws_markIntS.l0]) ?_
    refine Ev.pos (by simp [seqI]; omega) (Ev.pos (by omega) ?_)
    rw [wrap_next hi (by omega), wrap_id (by omega) (by omega), Int.toNat_natCast]
    have e : (seqI k0 i ++ l.drop i).set i (k0 + i) = seqI k0 (i + 1) ++ l.drop (i + 1) := by
      rw [List.set_append_right _ _ (by simp [seqI]), seqI_length, Nat.sub_self, List.drop_eq_getElem_cons hi, List.set_cons_zero]
      unfold seqI
      rw [List.range_succ, List.map_append, List.append_assoc]
      rfl
    have e2 : k0 + (i : Int) + 1 = k0 + ((i + 1 : Nat) : Int) := by omega
    rw [e, e2]
    exact ih

-- NEEDS Sets
theorem laws_markCommittee.ev (q : Int) (l : List Int) (k0 : Int) (h0 : 0 ≤ k0) (h1 : k0 ≤ 1000000000000) (hn : l.length ≤ 1000000000000) : Ev (fun k => laws_markCommittee.f k q l k0) (k0 + l.length, seqI k0 l.length) := by
  unfold laws_markCommittee.f
  exact Ev.bind (laws_markIntS.ev l k0 h0 h1 hn) (Ev.now _)

-- NEEDS Sets
theorem laws_heldIntS.ev (n : Nat) (k0 : Int) (h0 : 0 ≤ k0) (h1 : k0 ≤ 1000000000000) (hn : n ≤ 1000000000000) : Ev (fun k => laws_heldIntS.f k (seqI k0 n) k0) (k0 + n) := by
  unfold laws_heldIntS.f
  have hl := seqI_length k0 n
  have h := down (P := fun i => Ev (fun k => laws_heldIntS.l0 k (seqI k0 n) (k0 + i) (i : Int)) (k0 + n)) n ?_ ?_ 0 (Nat.zero_le _)
  · simpa using h
  · refine Ev.step (fun k => by rw [laws_heldIntS.l0]) ?_
    exact Ev.neg (by omega) (Ev.now _)
  · intro i hi ih
    refine Ev.step (fun k => by rw [laws_heldIntS.l0]) ?_
    refine Ev.pos (by omega) (Ev.pos (by omega) (Ev.pos (by rw [rd_nat (by omega), seqI_at]) ?_))
    have e2 : k0 + (i : Int) + 1 = k0 + ((i + 1 : Nat) : Int) := by omega
    rw [wrap_next hi (by omega), wrap_id (by omega) (by omega), e2]
    exact ih

end Go.Proofs.Ytchcpjmdmohngaa.P
