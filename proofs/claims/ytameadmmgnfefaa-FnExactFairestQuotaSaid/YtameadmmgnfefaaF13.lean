/- Plain facts of mine on printed functions: what they answer. No Go, no memory. -/
import Derived.Test.YtameadmmgnfefaaPx13
import Derived.Test.YtameadmmgnfefaaEv
import Derived.Test.YtameadmmgnfefaaF1
import Derived.Test.YtameadmmgnfefaaF2
import Derived.Test.YtameadmmgnfefaaF4
import Derived.Test.YtameadmmgnfefaaF6
import Derived.Test.YtameadmmgnfefaaF8
import Derived.Test.YtameadmmgnfefaaShare
import Derived.Test.YtameadmmgnfefaaShare
import Derived.Test.YtameadmmgnfefaaPow
import Derived.Test.YtameadmmgnfefaaPow
namespace Go.Proofs.Ytameadmmgnfefaa.P
open Go.RowKit Go.Proofs.YtameadmmgnfefaaW.PrintWords Go.Proofs.YtameadmmgnfefaaW.PrintLast Go.Proofs.YtameadmmgnfefaaW.PrintMore
set_option linter.unusedVariables false
set_option linter.unusedSimpArgs false

-- NEEDS Share
theorem spec_l1Sign.eq (a : Int) : spec_l1Sign.f a = some (sgn a) := by
  unfold spec_l1Sign.f sgn
  split
  · rfl
  · split <;> rfl

-- NEEDS Share
theorem spec_pwCompare.eq {a b c d : Int} (h0 : 0 ≤ a * d) (h1 : a * d ≤ 4000000000000000000) (h2 : 0 ≤ c * b) (h3 : c * b ≤ 4000000000000000000) : spec_pwCompare.f a b c d = some (sgn (a * d - c * b)) := by
  unfold spec_pwCompare.f
  rw [wrap_id (x := a * d) (by omega) (by omega), wrap_id (x := c * b) (by omega) (by omega), wrap_id (by omega) (by omega), spec_l1Sign.eq]
  rfl

-- NEEDS Pow
theorem spec_shWeights.ev (q : Int) (l : List Int) (h9 : l.length ≤ 9) (hx : ∀ x ∈ l, 0 ≤ x ∧ x ≤ 1000) (hs : 1 ≤ l.sum) : Ev (fun k => spec_shWeights.f k q l) (l.map fun x => ⟨(shareO x l.sum).1, (shareO x l.sum).2⟩) := by
  unfold spec_shWeights.f
  have hs2 := (sum_le hx).2
  have h := down (P := fun i => Ev (fun k => spec_shWeights.l0 k ((l.take i).map fun x => ⟨(shareO x l.sum).1, (shareO x l.sum).2⟩) l (l.length : Int) (i : Int) q l) (l.map fun x => ⟨(shareO x l.sum).1, (shareO x l.sum).2⟩)) l.length ?_ ?_ 0 (Nat.zero_le _)
  · exact h
  · refine Ev.step (fun k => by rw [spec_shWeights.l0]) ?_
    exact Ev.neg (by omega) ((Ev.now _).cast (by rw [List.take_length]))
  · intro i hi ih
    refine Ev.step (fun k => by rw [spec_shWeights.l0]) ?_
    have hv := hx l[i] (List.getElem_mem hi)
    refine Ev.pos (by omega) (Ev.pos (by omega) (Ev.pos (by omega) ?_))
    rw [rd_nat hi, wrap_next hi (by omega)]
    refine Ev.bind (spec_voSum.ev l 1000 hx (by omega) (by omega)) (Ev.bind (spec_pwShare.ev hv.1 (by omega) hs (by omega)) (Ev.pos (by simp; omega) ?_))
    rw [List.take_succ_eq_append_getElem hi, List.map_append] at ih
    exact ih

-- NEEDS Pow
theorem spec_shPowers.loop (n : Nat) (L : List Int) (hl : L.length ≤ 1000000) (hx : ∀ x ∈ L, 0 ≤ x ∧ x ≤ 9223372036854775807) (h9 : n ≤ 9) : Ev (fun k => spec_shPowers.l0 k (n : Int) [] L (L.length : Int) 0) (impl_sharesOf.list L (facI (n : Int))) := by
  have h := down (P := fun i => Ev (fun k => spec_shPowers.l0 k (n : Int) (impl_sharesOf.list (L.take i) (facI (n : Int))) L (L.length : Int) (i : Int)) (impl_sharesOf.list L (facI (n : Int)))) L.length ?_ ?_ 0 (Nat.zero_le _)
  · exact h
  · refine Ev.step (fun k => by rw [spec_shPowers.l0]) ?_
    exact Ev.neg (by omega) ((Ev.now _).cast (by rw [List.take_length]))
  · intro i hi ih
    refine Ev.step (fun k => by rw [spec_shPowers.l0]) ?_
    have hv := hx L[i] (List.getElem_mem hi)
    have e : impl_sharesOf.list (L.take i) (facI (n : Int)) ++ [⟨(shareO L[i] (facI (n : Int))).1, (shareO L[i] (facI (n : Int))).2⟩] = impl_sharesOf.list (L.take (i + 1)) (facI (n : Int)) := by
      unfold impl_sharesOf.list
      rw [List.take_succ_eq_append_getElem hi, List.map_append]
      rfl
    rw [rd_nat hi, wrap_next hi (by omega)]
    refine Ev.pos (by omega) (Ev.pos (by omega) (Ev.pos (by omega) (Ev.bind (spec_pwTimes.ev (by omega) (by omega)) ?_)))
    have hf := facI_le (d := (n : Int)) (by omega)
    refine Ev.bind (spec_pwShare.ev hv.1 hv.2 (by omega) (by omega)) (Ev.pos (by simp [impl_sharesOf.list]; omega) ?_)
    rw [e]
    exact ih
theorem spec_shPowers.ev (q : Int) (l : List Int) (h2 : l.length ≤ 9) (h3 : ∀ x ∈ l, 0 ≤ x ∧ x ≤ 1000) : Ev (fun k => spec_shPowers.f k q l) (impl_sharesOf.list (pivotsC q l) (facI (l.length : Int))) := by
  unfold spec_shPowers.f
  have hpl := pivotsC_le q l h2
  have hlp : (pivotsC q l).length = l.length := by simp [pivotsC]
  exact Ev.bind (spec_voWins.ev q l h2 h3) (Ev.bind (spec_pwPivots.ev _ l.length (winsC_length q l) h2) (spec_shPowers.loop l.length (pivotsC q l) (by omega) (fun x hx => by have := hpl x hx; omega) h2))

end Go.Proofs.Ytameadmmgnfefaa.P
