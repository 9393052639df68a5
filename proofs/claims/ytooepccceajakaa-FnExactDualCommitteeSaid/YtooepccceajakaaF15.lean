/- Plain facts of mine on printed functions: what they answer. No Go, no memory. -/
import Derived.Test.YtooepccceajakaaPx15
import Derived.Test.YtooepccceajakaaEv
import Derived.Test.YtooepccceajakaaF1
import Derived.Test.YtooepccceajakaaF10
namespace Go.Proofs.Ytooepccceajakaa.P
open Go.RowKit Go.Proofs.YtooepccceajakaaW.PrintWords Go.Proofs.YtooepccceajakaaW.PrintLast Go.Proofs.YtooepccceajakaaW.PrintMore
set_option linter.unusedVariables false
set_option linter.unusedSimpArgs false

theorem spec_voDual.ev {q : Int} {l : List Int} (h : goodC q l = true) : Ev (fun k => spec_voDual.f k q l) (l.sum + 1 - q, l) := by
  unfold spec_voDual.f
  obtain ⟨h1, h2, h3, h4, h5⟩ := goodC_iff.1 h
  have hs := sum_le h3
  refine Ev.bind (spec_voSum.ev l 1000 h3 (by omega) (by omega)) (Ev.one (spec_l1Own.eq l (by omega)) ?_)
  rw [wrap_id (x := l.sum + 1) (by omega) (by omega), wrap_id (by omega) (by omega)]
  exact Ev.now _

theorem spec_DualCommittee.ev (q : Int) (l : List Int) (hn : l.length ≤ 9223372036854775807) : Ev (fun k => spec_DualCommittee.f k q l) (if goodC q l = true then (l.sum + 1 - q, l, true) else (0, [], false)) := by
  unfold spec_DualCommittee.f
  refine Ev.bind (spec_voGood.ev q l hn) ?_
  cases h : goodC q l with
  | false => exact Ev.neg (by decide) (Ev.now _)
  | true => exact Ev.pos rfl (Ev.bind (spec_voDual.ev h) (Ev.now _))

theorem impl_DualCommittee.ev (q : Int) (l : List Int) (hn : l.length ≤ 9223372036854775807) : Ev (fun k => impl_DualCommittee.f k q l) (if goodC q l = true then (l.sum + 1 - q, l, true) else (0, [], false)) := by
  unfold impl_DualCommittee.f
  refine Ev.bind (impl_IsCommittee.ev q l hn) ?_
  cases h : goodC q l with
  | false => exact Ev.neg (by decide) (Ev.now _)
  | true =>
    obtain ⟨h1, h2, h3, h4, h5⟩ := goodC_iff.1 h
    have hs := sum_le h3
    refine Ev.pos rfl (Ev.bind (impl_sumOf.ev l 1000 h3 (by omega) (by omega)) (Ev.one (slices_Clone_int_int.eq l (by omega)) ?_))
    rw [wrap_id (x := l.sum - q) (by omega) (by omega), wrap_id (by omega) (by omega)]
    exact (Ev.now _).cast (by simp only [if_true]; congr 1; omega)

end Go.Proofs.Ytooepccceajakaa.P
