/- Plain facts of mine on printed functions: what they answer. No Go, no memory. -/
import Derived.Test.YtooepccceajakaaPx4
import Derived.Test.YtooepccceajakaaEv
namespace Go.Proofs.Ytooepccceajakaa.P
open Go.RowKit Go.Proofs.YtooepccceajakaaW.PrintWords Go.Proofs.YtooepccceajakaaW.PrintLast Go.Proofs.YtooepccceajakaaW.PrintMore
set_option linter.unusedVariables false
set_option linter.unusedSimpArgs false

theorem impl_Committee_votes.eq {q : Int} {l : List Int} (h : goodC q l = true) : impl_Committee_votes.f q l = some ((l.length : Int), winsC q l) := by
  obtain ⟨h1, h2, h3, h4, h5⟩ := goodC_iff.1 h
  unfold impl_Committee_votes.f
  rw [if_pos ⟨h2, all_mem.2 fun x hx => inB_iff.2 (h3 x hx)⟩]

end Go.Proofs.Ytooepccceajakaa.P
