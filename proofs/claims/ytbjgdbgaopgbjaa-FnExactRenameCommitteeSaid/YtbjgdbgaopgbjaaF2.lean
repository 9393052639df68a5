/- Plain facts of mine on printed functions: what they answer. No Go, no memory. -/
import Derived.Test.YtbjgdbgaopgbjaaPx2
import Derived.Test.YtbjgdbgaopgbjaaEv
import Derived.Test.YtbjgdbgaopgbjaaF1
import Derived.Test.YtbjgdbgaopgbjaaPow
import Derived.Test.YtbjgdbgaopgbjaaSets
import Derived.Test.YtbjgdbgaopgbjaaSets
namespace Go.Proofs.Ytbjgdbgaopgbjaa.P
open Go.RowKit Go.Proofs.YtbjgdbgaopgbjaaW.PrintWords Go.Proofs.YtbjgdbgaopgbjaaW.PrintLast Go.Proofs.YtbjgdbgaopgbjaaW.PrintMore
set_option linter.unusedVariables false
set_option linter.unusedSimpArgs false

-- NEEDS Pow
theorem impl_RenameCommittee.loop (q : Int) (l s : List Int) (hx : ∀ x ∈ s, 0 ≤ x ∧ x < l.length) (h9 : s.length ≤ 9) : Ev (fun k => impl_RenameCommittee.l0 k s (s.length : Int) 0 q l q []) (q, s.map (fun x => l.getD x.toNat 0), true) := by
  have h := down (P := fun i => Ev (fun k => impl_RenameCommittee.l0 k s (s.length : Int) (i : Int) q l q ((s.take i).map fun x => l.getD x.toNat 0)) (q, s.map (fun x => l.getD x.toNat 0), true)) s.length ?_ ?_ 0 (Nat.zero_le _)
  · exact h
  · refine Ev.step (fun k => by rw [impl_RenameCommittee.l0]) ?_
    exact Ev.neg (by omega) ((Ev.now _).cast (by rw [List.take_length]))
  · intro i hi ih
    refine Ev.step (fun k => by rw [impl_RenameCommittee.l0]) ?_
    have hm := hx s[i] (List.getElem_mem hi)
    have hr : rd l s[i] = l.getD (s[i]).toNat 0 := rfl
    have e : ((s.take i).map fun x => l.getD x.toNat 0) ++ [l.getD (s[i]).toNat 0] = (s.take (i + 1)).map fun x => l.getD x.toNat 0 := by
      rw [List.take_succ_eq_append_getElem hi, List.map_append]
      rfl
    rw [rd_nat hi, hr, wrap_next hi (by omega), e]
    exact Ev.pos (by omega) (Ev.pos (by omega) (Ev.pos (by omega) (Ev.pos (by omega) (Ev.pos (by omega) (Ev.pos (by simp; omega) ih)))))
theorem impl_RenameCommittee.ev (q : Int) (l s : List Int) (hn : l.length ≤ 9223372036854775807) (hn2 : s.length ≤ 9223372036854775807) : Ev (fun k => impl_RenameCommittee.f k q l s) (if (goodC q l && orderL l.length s) = true then (q, s.map (fun x => l.getD x.toNat 0), true) else (0, [], false)) := by
  unfold impl_RenameCommittee.f
  refine Ev.bind (impl_IsCommittee.ev q l hn) ?_
  have hj : ∀ b : Bool, (b = false → goodC q l = true ∧ orderL l.length s = true) → Ev (fun k => impl_RenameCommittee.j0 k s b q l) (if (!b) = true then (q, s.map (fun x => l.getD x.toNat 0), true) else (0, [], false)) := by
    intro b hb
    refine Ev.step (fun k => by rw [impl_RenameCommittee.j0]) ?_
    cases b with
    | true => exact Ev.pos rfl (Ev.now _)
    | false =>
      obtain ⟨g, o⟩ := hb rfl
      obtain ⟨h1, h2, h3, h4, h5⟩ := goodC_iff.1 g
      obtain ⟨o1, o2⟩ := orderL_iff o
      exact Ev.neg (by decide) (impl_RenameCommittee.loop q l s (fun x hx => by have := o2 x hx; omega) (by omega))
  cases h : goodC q l with
  | false => exact Ev.neg (by decide) ((hj true (by simp)).cast (by simp))
  | true =>
    obtain ⟨h1, h2, h3, h4, h5⟩ := goodC_iff.1 h
    refine Ev.pos rfl (Ev.bind (impl_isOrder.ev _ s h1 h2 hn2) ((hj _ ?_).cast (by simp)))
    intro hb
    exact ⟨h, by simpa using hb⟩

-- NEEDS Sets
theorem laws_heldIntS.ev (n : Nat) (k0 : Int) (h0 : 0 ≤ k0) (h1 : k0 ≤ 1000000000000) (hn : n ≤ 1000000000000) : Ev (fun k => laws_heldIntS.f k (seqI k0 n) k0) (k0 + n) := by
  unfold laws_heldIntS.f
  have hl := seqI_length k0 n
  have h := down (P := fun i => Ev (fun k => laws_heldIntS.l0 k (seqI k0 n) (k0 + i) (i : Int)) (k0 + n)) n ?_ ?_ 0 (Nat.zero_le _)
  · simpa using h
  · refine Ev.step (fun k => by rw [laws_heldIntS.l0]) ?_
    exact Ev.neg (by omega) (Ev.now _)
  · intro i hi ih
    refine Ev.step (fun k => by rw [laws_heldIntS.l0]) ?_
    refine Ev.pos (by omega) (Ev.pos (by omega) (Ev.pos (by rw [rd_nat (by omega), seqI_at]) ?_))
    have e2 : k0 + (i : Int) + 1 = k0 + ((i + 1 : Nat) : Int) := by omega
    rw [wrap_next hi (by omega), wrap_id (by omega) (by omega), e2]
    exact ih

-- NEEDS Sets
theorem laws_heldCommittee.ev (q : Int) (n : Nat) (k0 : Int) (h0 : 0 ≤ k0) (h1 : k0 ≤ 1000000000000) (hn : n ≤ 1000000000000) : Ev (fun k => laws_heldCommittee.f k q (seqI k0 n) k0) (k0 + n) := by
  unfold laws_heldCommittee.f
  exact Ev.bind (laws_heldIntS.ev n k0 h0 h1 hn) (Ev.neg (by omega) (Ev.now _))

end Go.Proofs.Ytbjgdbgaopgbjaa.P
