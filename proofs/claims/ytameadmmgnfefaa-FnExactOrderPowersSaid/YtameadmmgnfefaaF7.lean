/- Plain facts of mine on printed functions: what they answer. No Go, no memory. -/
import Derived.Test.YtameadmmgnfefaaPx7
import Derived.Test.YtameadmmgnfefaaEv
namespace Go.Proofs.Ytameadmmgnfefaa.P
open Go.RowKit Go.Proofs.YtameadmmgnfefaaW.PrintWords Go.Proofs.YtameadmmgnfefaaW.PrintLast Go.Proofs.YtameadmmgnfefaaW.PrintMore
set_option linter.unusedVariables false
set_option linter.unusedSimpArgs false

theorem laws_eqShare.eq (a b : Int) : laws_eqShare.f a b a b = some true := by simp [laws_eqShare.f]

end Go.Proofs.Ytameadmmgnfefaa.P
