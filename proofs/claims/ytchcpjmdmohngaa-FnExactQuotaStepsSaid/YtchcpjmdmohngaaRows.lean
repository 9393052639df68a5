/-
  No cell of these rows narrows 'for every input' (looked for: loops, veiled, ifaces, maps, wideKeys, modest, calm, conditions, laid).
  DERIVED. THE GIVEN ROWS OF THIS SEAT. 3 by the template 'for every input the law returns true; each argument reads behind the call as it read before'; 0 by the template 'total and deterministic' (their statements: YtchcpjmdmohngaaTotals.lean).
  GIVEN WITH THE SEED: the statements are not yours to turn. If you find one false, say at which input.
  Laid BY PROGRAM, IN A SANDBOX (cutbox-rows.mjs): the forced cells as the released guide's own fill.sh prints them over the translation c982dd580a72e280… (all of the seat's roots in one cut). By AI agents, Wed Nov 11 2026. No macro, syntax, notation, axiom, sorry.
-/
import Derived.Test.YtchcpjmdmohngaaChecked
import GoSem.Claim
import GoSem.ClaimJoined
import GoSem.ClaimMapViews
import Derived.JoinedTies
import Derived.KernelRfl
namespace Go.Proofs.Ytchcpjmdmohngaa
/- THE CELL 'sum', in the pinned program and in every row, IS THE sha256 OF THE DUMP (.gsa) THAT YtchcpjmdmohngaaProg.lean LOADS. Nothing in Lean hashes anything: it is a label: what it is worth is what the hold of that sum in a sandbox is worth. -/
noncomputable def Try.pinned : Pinned := { name := "ytchcpjmdmohngaa", sum := "c982dd580a72e280e5037077c909759436067361fa074b0b3af9d20dcc8bd502", checked := Try.checked }
namespace Rows
def none {H : Type} : Left H := { results := [], args := [] }

/-- 'laws.FnExactCountVotings': WHATEVER THE INPUT: true; the input reads as it did. -/
def fnExactCountVotingsSpec : ChangeSpec := { name := "fnExactCountVotings", fn := fun _ => fun
  | [d] => { results := [.lit (.bool true)], args := [d] }
  | _ => none }
def fnExactCountVotingsRow : OpenClaim := { program := "ytchcpjmdmohngaa", sum := "c982dd580a72e280e5037077c909759436067361fa074b0b3af9d20dcc8bd502", func := "loop.example/g01275/laws.FnExactCountVotings", spec := "fnExactCountVotings", unfollowed := true, recurses := true, apart := false }
def FnExactCountVotingsSaid : Prop := fnExactCountVotingsRow.holds Try.pinned (OpenSpec.ofChange fnExactCountVotingsSpec)

/-- ITS FALSE NEIGHBOUR: 'it returns false'. Refute it at one input. -/
def fnExactCountVotingsWrong : ChangeSpec := { name := "fnExactCountVotings", fn := fun _ => fun
  | [d] => { results := [.lit (.bool false)], args := [d] }
  | _ => none }
def FnExactCountVotingsWrongFalsely : Prop := fnExactCountVotingsRow.holds Try.pinned (OpenSpec.ofChange fnExactCountVotingsWrong)

/-- 'laws.FnExactQuotaSteps': WHATEVER THE INPUT: true; the input reads as it did. -/
def fnExactQuotaStepsSpec : ChangeSpec := { name := "fnExactQuotaSteps", fn := fun _ => fun
  | [d] => { results := [.lit (.bool true)], args := [d] }
  | _ => none }
def fnExactQuotaStepsRow : OpenClaim := { program := "ytchcpjmdmohngaa", sum := "c982dd580a72e280e5037077c909759436067361fa074b0b3af9d20dcc8bd502", func := "loop.example/g01275/laws.FnExactQuotaSteps", spec := "fnExactQuotaSteps", unfollowed := true, recurses := true, apart := false }
def FnExactQuotaStepsSaid : Prop := fnExactQuotaStepsRow.holds Try.pinned (OpenSpec.ofChange fnExactQuotaStepsSpec)

/-- ITS FALSE NEIGHBOUR: 'it returns false'. Refute it at one input. -/
def fnExactQuotaStepsWrong : ChangeSpec := { name := "fnExactQuotaSteps", fn := fun _ => fun
  | [d] => { results := [.lit (.bool false)], args := [d] }
  | _ => none }
def FnExactQuotaStepsWrongFalsely : Prop := fnExactQuotaStepsRow.holds Try.pinned (OpenSpec.ofChange fnExactQuotaStepsWrong)

/-- 'laws.FnExactQuotaRange': WHATEVER THE INPUT: true; the input reads as it did. -/
def fnExactQuotaRangeSpec : ChangeSpec := { name := "fnExactQuotaRange", fn := fun _ => fun
  | [d] => { results := [.lit (.bool true)], args := [d] }
  | _ => none }
def fnExactQuotaRangeRow : OpenClaim := { program := "ytchcpjmdmohngaa", sum := "c982dd580a72e280e5037077c909759436067361fa074b0b3af9d20dcc8bd502", func := "loop.example/g01275/laws.FnExactQuotaRange", spec := "fnExactQuotaRange", unfollowed := true, recurses := true, apart := false }
def FnExactQuotaRangeSaid : Prop := fnExactQuotaRangeRow.holds Try.pinned (OpenSpec.ofChange fnExactQuotaRangeSpec)

/-- ITS FALSE NEIGHBOUR: 'it returns false'. Refute it at one input. -/
def fnExactQuotaRangeWrong : ChangeSpec := { name := "fnExactQuotaRange", fn := fun _ => fun
  | [d] => { results := [.lit (.bool false)], args := [d] }
  | _ => none }
def FnExactQuotaRangeWrongFalsely : Prop := fnExactQuotaRangeRow.holds Try.pinned (OpenSpec.ofChange fnExactQuotaRangeWrong)

/- THE SECOND FORM. 'bulk': how many values and letters a reading holds, each counted each time it is reached (what is shared counts as often as it is met; a slice's spare places count too). A statement '..UptoSaid' is the law's where the arguments, and the package variables that the reading takes, are together of bulk at most 1048576: NARROWER than '..Said'. Prove '..Said' where nothing that the law and all that it calls make is longer than what came in: it says more and counts as full. Else prove '..UptoSaid'. A law counts once. -/
mutual
def uptoBulk {H : Type} : DataW H → Nat
  | .lit (.string bytes) => bytes.length + 1
  | .lit _ => 1
  | .nil => 1
  | .ptr d => uptoBulk d + 1
  | .slice elems spare => uptoBulkAll elems + uptoBulkAll spare + 1
  | .agg parts => uptoBulkAll parts + 1
  | .iface _ d => uptoBulk d + 1
  | .map entries => uptoBulkEntries entries + 1
  | .held _ => 1
def uptoBulkAll {H : Type} : List (DataW H) → Nat
  | [] => 0
  | d :: r => uptoBulk d + uptoBulkAll r
def uptoBulkEntries {H : Type} : List (Lit × DataW H) → Nat
  | [] => 0
  | x :: r => uptoBulkEntry x + uptoBulkEntries r
def uptoBulkEntry {H : Type} : Lit × DataW H → Nat
  | (.string bytes, d) => bytes.length + uptoBulk d + 1
  | (_, d) => uptoBulk d + 1
 end
def uptoSmall : (H : Type) → List (DataW H) → Bool := fun _ ds => decide (uptoBulkAll ds ≤ 1048576)
def OpenSpec.upto (s : _root_.Go.ChangeSpec) : _root_.Go.OpenSpec := { _root_.Go.OpenSpec.ofChange s with cond := some uptoSmall }

/-- 'laws.FnExactCountVotings', WHERE WHAT IT READS IS OF BULK AT MOST 1048576: true; the input reads as it did. -/
def fnExactCountVotingsUptoRow : OpenClaim := { program := "ytchcpjmdmohngaa", sum := "c982dd580a72e280e5037077c909759436067361fa074b0b3af9d20dcc8bd502", func := "loop.example/g01275/laws.FnExactCountVotings", spec := "fnExactCountVotings", unfollowed := true, recurses := true, apart := false, narrowed := true }
def FnExactCountVotingsUptoSaid : Prop := fnExactCountVotingsUptoRow.holds Try.pinned (OpenSpec.upto fnExactCountVotingsSpec)

/-- 'laws.FnExactQuotaSteps', WHERE WHAT IT READS IS OF BULK AT MOST 1048576: true; the input reads as it did. -/
def fnExactQuotaStepsUptoRow : OpenClaim := { program := "ytchcpjmdmohngaa", sum := "c982dd580a72e280e5037077c909759436067361fa074b0b3af9d20dcc8bd502", func := "loop.example/g01275/laws.FnExactQuotaSteps", spec := "fnExactQuotaSteps", unfollowed := true, recurses := true, apart := false, narrowed := true }
def FnExactQuotaStepsUptoSaid : Prop := fnExactQuotaStepsUptoRow.holds Try.pinned (OpenSpec.upto fnExactQuotaStepsSpec)

/-- 'laws.FnExactQuotaRange', WHERE WHAT IT READS IS OF BULK AT MOST 1048576: true; the input reads as it did. -/
def fnExactQuotaRangeUptoRow : OpenClaim := { program := "ytchcpjmdmohngaa", sum := "c982dd580a72e280e5037077c909759436067361fa074b0b3af9d20dcc8bd502", func := "loop.example/g01275/laws.FnExactQuotaRange", spec := "fnExactQuotaRange", unfollowed := true, recurses := true, apart := false, narrowed := true }
def FnExactQuotaRangeUptoSaid : Prop := fnExactQuotaRangeUptoRow.holds Try.pinned (OpenSpec.upto fnExactQuotaRangeSpec)

end Rows
end Go.Proofs.Ytchcpjmdmohngaa
