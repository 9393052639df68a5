/- Plain facts of mine on printed functions: what they answer. No Go, no memory. -/
import Derived.Test.YtameadmmgnfefaaPx17
import Derived.Test.YtameadmmgnfefaaEv
import Derived.Test.YtameadmmgnfefaaF1
import Derived.Test.YtameadmmgnfefaaF2
import Derived.Test.YtameadmmgnfefaaF6
import Derived.Test.YtameadmmgnfefaaF8
import Derived.Test.YtameadmmgnfefaaChain
namespace Go.Proofs.Ytameadmmgnfefaa.P
open Go.RowKit Go.Proofs.YtameadmmgnfefaaW.PrintWords Go.Proofs.YtameadmmgnfefaaW.PrintLast Go.Proofs.YtameadmmgnfefaaW.PrintMore
set_option linter.unusedVariables false
set_option linter.unusedSimpArgs false

-- NEEDS Chain
theorem impl_OrderPowers.ev (q : Int) (l : List Int) (hn : l.length ≤ 9223372036854775807) : Ev (fun k => impl_OrderPowers.f k q l) (if goodC q l = true then (impl_sharesOf.list (pivotsC q l) (facI (l.length : Int)), true) else ([], false)) := by
  unfold impl_OrderPowers.f
  refine Ev.bind (impl_IsCommittee.ev q l hn) ?_
  cases h : goodC q l with
  | false => exact Ev.neg (by decide) (Ev.now _)
  | true =>
    obtain ⟨h1, h2, h3, h4, h5⟩ := goodC_iff.1 h
    have hc := wins_count h
    have hw := winsC_length q l
    have hp := pow9 h2
    have hs5 := swingsC_512 q l h2
    have hsl := swings_sum h
    have hpl := pivotsC_le q l h2
    have hs6 := (sum_le hs5).2
    have hll : (swingsC q l).length = l.length := by simp [swingsC]
    have hlp : (pivotsC q l).length = l.length := by simp [pivotsC]
    have hf := facI_le (d := (l.length : Int)) (by omega)
    exact Ev.pos rfl (Ev.one (impl_Committee_votes.eq h) (Ev.bind (impl_votes_pivots.ev _ l.length hw h2) (Ev.bind (impl_factorial.ev (d := (l.length : Int)) (by omega) (by omega)) (Ev.bind (impl_sharesOf.ev (pivotsC q l) (facI (l.length : Int)) (by omega) (fun x hx => by have := hpl x hx; omega) hf.1 (by omega)) (Ev.now _)))))

end Go.Proofs.Ytameadmmgnfefaa.P
