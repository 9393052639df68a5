/- Plain facts of mine on printed functions: what they answer. No Go, no memory. -/
import Derived.Test.YtameadmmgnfefaaPx28
import Derived.Test.YtameadmmgnfefaaEv
import Derived.Test.YtameadmmgnfefaaF2
import Derived.Test.YtameadmmgnfefaaF4
import Derived.Test.YtameadmmgnfefaaF6
import Derived.Test.YtameadmmgnfefaaF8
import Derived.Test.YtameadmmgnfefaaChain
namespace Go.Proofs.Ytameadmmgnfefaa.P
open Go.RowKit Go.Proofs.YtameadmmgnfefaaW.PrintWords Go.Proofs.YtameadmmgnfefaaW.PrintLast Go.Proofs.YtameadmmgnfefaaW.PrintMore
set_option linter.unusedVariables false
set_option linter.unusedSimpArgs false

-- NEEDS Chain
theorem spec_OrderPowers.loop (n : Nat) (L : List Int) (hl : L.length ≤ 1000000) (hx : ∀ x ∈ L, 0 ≤ x ∧ x ≤ 9223372036854775807) (h9 : n ≤ 9) : Ev (fun k => spec_OrderPowers.l0 k (n : Int) [] L (L.length : Int) 0) (impl_sharesOf.list L (facI (n : Int)), true) := by
  have h := down (P := fun i => Ev (fun k => spec_OrderPowers.l0 k (n : Int) (impl_sharesOf.list (L.take i) (facI (n : Int))) L (L.length : Int) (i : Int)) (impl_sharesOf.list L (facI (n : Int)), true)) L.length ?_ ?_ 0 (Nat.zero_le _)
  · exact h
  · refine Ev.step (fun k => by rw [spec_OrderPowers.l0]) ?_
    exact Ev.neg (by omega) ((Ev.now _).cast (by rw [List.take_length]))
  · intro i hi ih
    refine Ev.step (fun k => by rw [spec_OrderPowers.l0]) ?_
    have hv := hx L[i] (List.getElem_mem hi)
    have e : impl_sharesOf.list (L.take i) (facI (n : Int)) ++ [⟨(shareO L[i] (facI (n : Int))).1, (shareO L[i] (facI (n : Int))).2⟩] = impl_sharesOf.list (L.take (i + 1)) (facI (n : Int)) := by
      unfold impl_sharesOf.list
      rw [List.take_succ_eq_append_getElem hi, List.map_append]
      rfl
    rw [rd_nat hi, wrap_next hi (by omega)]
    refine Ev.pos (by omega) (Ev.pos (by omega) (Ev.pos (by omega) (Ev.bind (spec_pwTimes.ev (by omega) (by omega)) ?_)))
    have hf := facI_le (d := (n : Int)) (by omega)
    refine Ev.bind (spec_pwShare.ev hv.1 hv.2 (by omega) (by omega)) (Ev.pos (by simp [impl_sharesOf.list]; omega) ?_)
    rw [e]
    exact ih
theorem spec_OrderPowers.ev (q : Int) (l : List Int) (hn : l.length ≤ 9223372036854775807) : Ev (fun k => spec_OrderPowers.f k q l) (if goodC q l = true then (impl_sharesOf.list (pivotsC q l) (facI (l.length : Int)), true) else ([], false)) := by
  unfold spec_OrderPowers.f
  refine Ev.bind (spec_voGood.ev q l hn) ?_
  cases h : goodC q l with
  | false => exact Ev.neg (by decide) (Ev.now _)
  | true =>
    obtain ⟨h1, h2, h3, h4, h5⟩ := goodC_iff.1 h
    have hc := wins_count h
    have hw := winsC_length q l
    have hp := pow9 h2
    have hs5 := swingsC_512 q l h2
    have hsl := swings_sum h
    have hpl := pivotsC_le q l h2
    have hs6 := (sum_le hs5).2
    have hll : (swingsC q l).length = l.length := by simp [swingsC]
    have hlp : (pivotsC q l).length = l.length := by simp [pivotsC]
    have hf := facI_le (d := (l.length : Int)) (by omega)
    exact Ev.pos rfl (Ev.bind (spec_voWins.ev q l h2 h3) (Ev.bind (spec_pwPivots.ev _ l.length hw h2) (spec_OrderPowers.loop l.length (pivotsC q l) (by omega) (fun x hx => by have := hpl x hx; omega) h2)))

end Go.Proofs.Ytameadmmgnfefaa.P
