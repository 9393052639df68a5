/- Plain facts of mine on printed functions: what they answer. No Go, no memory. -/
import Derived.Test.YthjnmfacdlgbbaaPx2
import Derived.Test.YthjnmfacdlgbbaaEv
import Derived.Test.YthjnmfacdlgbbaaSets
import Derived.Test.YthjnmfacdlgbbaaSets
import Derived.Test.YthjnmfacdlgbbaaSets
namespace Go.Proofs.Ythjnmfacdlgbbaa.P
open Go.RowKit Go.Proofs.YthjnmfacdlgbbaaW.PrintWords Go.Proofs.YthjnmfacdlgbbaaW.PrintLast Go.Proofs.YthjnmfacdlgbbaaW.PrintMore
set_option linter.unusedVariables false
set_option linter.unusedSimpArgs false

-- NEEDS Sets
theorem laws_markIntS.ev (l : List Int) (k0 : Int) (h0 : 0 ≤ k0) (h1 : k0 ≤ 1000000000000) (hn : l.length ≤ 1000000000000) : Ev (fun k => laws_markIntS.f k l k0) (k0 + l.length, seqI k0 l.length) := by
  unfold laws_markIntS.f
  have h := down (P := fun i => Ev (fun k => laws_markIntS.l0 k (seqI k0 i ++ l.drop i) (k0 + i) (i : Int)) (k0 + l.length, seqI k0 l.length)) l.length ?_ ?_ 0 (Nat.zero_le _)
  · simpa [seqI] using h
  · refine Ev.step (fun k => by rw [laws_markIntS.l0]) ?_
    exact Ev.neg (by simp [seqI]) ((Ev.now _).cast (by simp))
  · intro i hi ih
    refine Ev.step (fun k => by rw [laws_markIntS.l0]) ?_
    refine Ev.pos (by simp [seqI]; omega) (Ev.pos (by omega) ?_)
    rw [wrap_next hi (by omega), wrap_id (by omega) (by omega), Int.toNat_natCast]
    have e : (seqI k0 i ++ l.drop i).set i (k0 + i) = seqI k0 (i + 1) ++ l.drop (i + 1) := by
      rw [List.set_append_right _ _ (by simp [seqI]), seqI_length, Nat.sub_self, List.drop_eq_getElem_cons hi, List.set_cons_zero]
      unfold seqI
      rw [List.range_succ, List.map_append, List.append_assoc]
      rfl
    have e2 : k0 + (i : Int) + 1 = k0 + ((i + 1 : Nat) : Int) := by omega
    rw [e, e2]
    exact ih

-- NEEDS Sets
theorem laws_markCommittee.ev (q : Int) (l : List Int) (k0 : Int) (h0 : 0 ≤ k0) (h1 : k0 ≤ 1000000000000) (hn : l.length ≤ 1000000000000) : Ev (fun k => laws_markCommittee.f k q l k0) (k0 + l.length, seqI k0 l.length) := by
  unfold laws_markCommittee.f
  exact Ev.bind (laws_markIntS.ev l k0 h0 h1 hn) (Ev.now _)

-- NEEDS Sets
theorem laws_heldIntS.ev (n : Nat) (k0 : Int) (h0 : 0 ≤ k0) (h1 : k0 ≤ 1000000000000) (hn : n ≤ 1000000000000) : Ev (fun k => laws_heldIntS.f k (seqI k0 n) k0) (k0 + n) := by
  unfold laws_heldIntS.f
  have hl := seqI_length k0 n
  have h := down (P := fun i => Ev (fun k => laws_heldIntS.l0 k (seqI k0 n) (k0 + i) (i : Int)) (k0 + n)) n ?_ ?_ 0 (Nat.zero_le _)
  · simpa using h
  · refine Ev.step (fun k => by rw [laws_heldIntS.l0]) ?_
    exact Ev.neg (by omega) (Ev.now _)
  · intro i hi ih
    refine Ev.step (fun k => by rw [laws_heldIntS.l0]) ?_
    refine Ev.pos (by omega) (Ev.pos (by omega) (Ev.pos (by rw [rd_nat (by omega), seqI_at]) ?_))
    have e2 : k0 + (i : Int) + 1 = k0 + ((i + 1 : Nat) : Int) := by omega
    rw [wrap_next hi (by omega), wrap_id (by omega) (by omega), e2]
    exact ih

end Go.Proofs.Ythjnmfacdlgbbaa.P
