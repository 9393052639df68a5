/-
  No cell of these rows narrows 'for every input' (looked for: loops, veiled, ifaces, maps, wideKeys, modest, calm, conditions, laid).
  DERIVED. THE GIVEN ROWS OF THIS SEAT. 12 by the template 'for every input the law returns true; each argument reads behind the call as it read before'; 0 by the template 'total and deterministic' (their statements: YtbjgdbgaopgbjaaTotals.lean).
  GIVEN WITH THE SEED: the statements are not yours to turn. If you find one false, say at which input.
  Laid BY PROGRAM, IN A SANDBOX (cutbox-rows.mjs): the forced cells as the released guide's own fill.sh prints them over the translation c97768144eea8acf… (all of the seat's roots in one cut). By AI agents, Wed Nov 11 2026. No macro, syntax, notation, axiom, sorry.
-/
import Derived.Test.YtbjgdbgaopgbjaaChecked
import GoSem.Claim
import GoSem.ClaimJoined
import GoSem.ClaimMapViews
import Derived.JoinedTies
import Derived.KernelRfl
namespace Go.Proofs.Ytbjgdbgaopgbjaa
/- THE CELL 'sum', in the pinned program and in every row, IS THE sha256 OF THE DUMP (.gsa) THAT YtbjgdbgaopgbjaaProg.lean LOADS. Nothing in Lean hashes anything: it is a label: what it is worth is what the hold of that sum in a sandbox is worth. -/
noncomputable def Try.pinned : Pinned := { name := "ytbjgdbgaopgbjaa", sum := "c97768144eea8acf4870d7e1570c6669a673ba5416f595aa80d7158100b3e269", checked := Try.checked }
namespace Rows
def none {H : Type} : Left H := { results := [], args := [] }

/-- 'laws.FnExactPivotOf': WHATEVER THE INPUT: true; the input reads as it did. -/
def fnExactPivotOfSpec : ChangeSpec := { name := "fnExactPivotOf", fn := fun _ => fun
  | [d1, d2] => { results := [.lit (.bool true)], args := [d1, d2] }
  | _ => none }
def fnExactPivotOfRow : OpenClaim := { program := "ytbjgdbgaopgbjaa", sum := "c97768144eea8acf4870d7e1570c6669a673ba5416f595aa80d7158100b3e269", func := "loop.example/g01275/laws.FnExactPivotOf", spec := "fnExactPivotOf", unfollowed := true, recurses := true, apart := false }
def FnExactPivotOfSaid : Prop := fnExactPivotOfRow.holds Try.pinned (OpenSpec.ofChange fnExactPivotOfSpec)

/-- ITS FALSE NEIGHBOUR: 'it returns false'. Refute it at one input. -/
def fnExactPivotOfWrong : ChangeSpec := { name := "fnExactPivotOf", fn := fun _ => fun
  | [d1, d2] => { results := [.lit (.bool false)], args := [d1, d2] }
  | _ => none }
def FnExactPivotOfWrongFalsely : Prop := fnExactPivotOfRow.holds Try.pinned (OpenSpec.ofChange fnExactPivotOfWrong)

/-- 'laws.FnExactSwingsOf': WHATEVER THE INPUT: true; the input reads as it did. -/
def fnExactSwingsOfSpec : ChangeSpec := { name := "fnExactSwingsOf", fn := fun _ => fun
  | [d] => { results := [.lit (.bool true)], args := [d] }
  | _ => none }
def fnExactSwingsOfRow : OpenClaim := { program := "ytbjgdbgaopgbjaa", sum := "c97768144eea8acf4870d7e1570c6669a673ba5416f595aa80d7158100b3e269", func := "loop.example/g01275/laws.FnExactSwingsOf", spec := "fnExactSwingsOf", unfollowed := true, recurses := true, apart := false }
def FnExactSwingsOfSaid : Prop := fnExactSwingsOfRow.holds Try.pinned (OpenSpec.ofChange fnExactSwingsOfSpec)

/-- ITS FALSE NEIGHBOUR: 'it returns false'. Refute it at one input. -/
def fnExactSwingsOfWrong : ChangeSpec := { name := "fnExactSwingsOf", fn := fun _ => fun
  | [d] => { results := [.lit (.bool false)], args := [d] }
  | _ => none }
def FnExactSwingsOfWrongFalsely : Prop := fnExactSwingsOfRow.holds Try.pinned (OpenSpec.ofChange fnExactSwingsOfWrong)

/-- 'laws.FnExactDecidePower': WHATEVER THE INPUT: true; the input reads as it did. -/
def fnExactDecidePowerSpec : ChangeSpec := { name := "fnExactDecidePower", fn := fun _ => fun
  | [d] => { results := [.lit (.bool true)], args := [d] }
  | _ => none }
def fnExactDecidePowerRow : OpenClaim := { program := "ytbjgdbgaopgbjaa", sum := "c97768144eea8acf4870d7e1570c6669a673ba5416f595aa80d7158100b3e269", func := "loop.example/g01275/laws.FnExactDecidePower", spec := "fnExactDecidePower", unfollowed := true, recurses := true, apart := false }
def FnExactDecidePowerSaid : Prop := fnExactDecidePowerRow.holds Try.pinned (OpenSpec.ofChange fnExactDecidePowerSpec)

/-- ITS FALSE NEIGHBOUR: 'it returns false'. Refute it at one input. -/
def fnExactDecidePowerWrong : ChangeSpec := { name := "fnExactDecidePower", fn := fun _ => fun
  | [d] => { results := [.lit (.bool false)], args := [d] }
  | _ => none }
def FnExactDecidePowerWrongFalsely : Prop := fnExactDecidePowerRow.holds Try.pinned (OpenSpec.ofChange fnExactDecidePowerWrong)

/-- 'laws.FnExactWeightShares': WHATEVER THE INPUT: true; the input reads as it did. -/
def fnExactWeightSharesSpec : ChangeSpec := { name := "fnExactWeightShares", fn := fun _ => fun
  | [d] => { results := [.lit (.bool true)], args := [d] }
  | _ => none }
def fnExactWeightSharesRow : OpenClaim := { program := "ytbjgdbgaopgbjaa", sum := "c97768144eea8acf4870d7e1570c6669a673ba5416f595aa80d7158100b3e269", func := "loop.example/g01275/laws.FnExactWeightShares", spec := "fnExactWeightShares", unfollowed := true, recurses := true, apart := false }
def FnExactWeightSharesSaid : Prop := fnExactWeightSharesRow.holds Try.pinned (OpenSpec.ofChange fnExactWeightSharesSpec)

/-- ITS FALSE NEIGHBOUR: 'it returns false'. Refute it at one input. -/
def fnExactWeightSharesWrong : ChangeSpec := { name := "fnExactWeightShares", fn := fun _ => fun
  | [d] => { results := [.lit (.bool false)], args := [d] }
  | _ => none }
def FnExactWeightSharesWrongFalsely : Prop := fnExactWeightSharesRow.holds Try.pinned (OpenSpec.ofChange fnExactWeightSharesWrong)

/-- 'laws.FnExactCountWinningOf': WHATEVER THE INPUT: true; the input reads as it did. -/
def fnExactCountWinningOfSpec : ChangeSpec := { name := "fnExactCountWinningOf", fn := fun _ => fun
  | [d1, d2] => { results := [.lit (.bool true)], args := [d1, d2] }
  | _ => none }
def fnExactCountWinningOfRow : OpenClaim := { program := "ytbjgdbgaopgbjaa", sum := "c97768144eea8acf4870d7e1570c6669a673ba5416f595aa80d7158100b3e269", func := "loop.example/g01275/laws.FnExactCountWinningOf", spec := "fnExactCountWinningOf", unfollowed := true, recurses := true, apart := false }
def FnExactCountWinningOfSaid : Prop := fnExactCountWinningOfRow.holds Try.pinned (OpenSpec.ofChange fnExactCountWinningOfSpec)

/-- ITS FALSE NEIGHBOUR: 'it returns false'. Refute it at one input. -/
def fnExactCountWinningOfWrong : ChangeSpec := { name := "fnExactCountWinningOf", fn := fun _ => fun
  | [d1, d2] => { results := [.lit (.bool false)], args := [d1, d2] }
  | _ => none }
def FnExactCountWinningOfWrongFalsely : Prop := fnExactCountWinningOfRow.holds Try.pinned (OpenSpec.ofChange fnExactCountWinningOfWrong)

/-- 'laws.FnExactDummyQuotas': WHATEVER THE INPUT: true; the input reads as it did. -/
def fnExactDummyQuotasSpec : ChangeSpec := { name := "fnExactDummyQuotas", fn := fun _ => fun
  | [d1, d2] => { results := [.lit (.bool true)], args := [d1, d2] }
  | _ => none }
def fnExactDummyQuotasRow : OpenClaim := { program := "ytbjgdbgaopgbjaa", sum := "c97768144eea8acf4870d7e1570c6669a673ba5416f595aa80d7158100b3e269", func := "loop.example/g01275/laws.FnExactDummyQuotas", spec := "fnExactDummyQuotas", unfollowed := true, recurses := true, apart := false }
def FnExactDummyQuotasSaid : Prop := fnExactDummyQuotasRow.holds Try.pinned (OpenSpec.ofChange fnExactDummyQuotasSpec)

/-- ITS FALSE NEIGHBOUR: 'it returns false'. Refute it at one input. -/
def fnExactDummyQuotasWrong : ChangeSpec := { name := "fnExactDummyQuotas", fn := fun _ => fun
  | [d1, d2] => { results := [.lit (.bool false)], args := [d1, d2] }
  | _ => none }
def FnExactDummyQuotasWrongFalsely : Prop := fnExactDummyQuotasRow.holds Try.pinned (OpenSpec.ofChange fnExactDummyQuotasWrong)

/-- 'laws.FnExactRenameCommittee': WHATEVER THE INPUT: true; the input reads as it did. -/
def fnExactRenameCommitteeSpec : ChangeSpec := { name := "fnExactRenameCommittee", fn := fun _ => fun
  | [d1, d2] => { results := [.lit (.bool true)], args := [d1, d2] }
  | _ => none }
def fnExactRenameCommitteeRow : OpenClaim := { program := "ytbjgdbgaopgbjaa", sum := "c97768144eea8acf4870d7e1570c6669a673ba5416f595aa80d7158100b3e269", func := "loop.example/g01275/laws.FnExactRenameCommittee", spec := "fnExactRenameCommittee", unfollowed := true, recurses := true, apart := false }
def FnExactRenameCommitteeSaid : Prop := fnExactRenameCommitteeRow.holds Try.pinned (OpenSpec.ofChange fnExactRenameCommitteeSpec)

/-- ITS FALSE NEIGHBOUR: 'it returns false'. Refute it at one input. -/
def fnExactRenameCommitteeWrong : ChangeSpec := { name := "fnExactRenameCommittee", fn := fun _ => fun
  | [d1, d2] => { results := [.lit (.bool false)], args := [d1, d2] }
  | _ => none }
def FnExactRenameCommitteeWrongFalsely : Prop := fnExactRenameCommitteeRow.holds Try.pinned (OpenSpec.ofChange fnExactRenameCommitteeWrong)

/-- 'laws.FnExactLargestLoss': WHATEVER THE INPUT: true; the input reads as it did. -/
def fnExactLargestLossSpec : ChangeSpec := { name := "fnExactLargestLoss", fn := fun _ => fun
  | [d] => { results := [.lit (.bool true)], args := [d] }
  | _ => none }
def fnExactLargestLossRow : OpenClaim := { program := "ytbjgdbgaopgbjaa", sum := "c97768144eea8acf4870d7e1570c6669a673ba5416f595aa80d7158100b3e269", func := "loop.example/g01275/laws.FnExactLargestLoss", spec := "fnExactLargestLoss", unfollowed := true, recurses := true, apart := false }
def FnExactLargestLossSaid : Prop := fnExactLargestLossRow.holds Try.pinned (OpenSpec.ofChange fnExactLargestLossSpec)

/-- ITS FALSE NEIGHBOUR: 'it returns false'. Refute it at one input. -/
def fnExactLargestLossWrong : ChangeSpec := { name := "fnExactLargestLoss", fn := fun _ => fun
  | [d] => { results := [.lit (.bool false)], args := [d] }
  | _ => none }
def FnExactLargestLossWrongFalsely : Prop := fnExactLargestLossRow.holds Try.pinned (OpenSpec.ofChange fnExactLargestLossWrong)

/-- 'laws.FnExactSwingsBySize': WHATEVER THE INPUT: true; the input reads as it did. -/
def fnExactSwingsBySizeSpec : ChangeSpec := { name := "fnExactSwingsBySize", fn := fun _ => fun
  | [d1, d2] => { results := [.lit (.bool true)], args := [d1, d2] }
  | _ => none }
def fnExactSwingsBySizeRow : OpenClaim := { program := "ytbjgdbgaopgbjaa", sum := "c97768144eea8acf4870d7e1570c6669a673ba5416f595aa80d7158100b3e269", func := "loop.example/g01275/laws.FnExactSwingsBySize", spec := "fnExactSwingsBySize", unfollowed := true, recurses := true, apart := false }
def FnExactSwingsBySizeSaid : Prop := fnExactSwingsBySizeRow.holds Try.pinned (OpenSpec.ofChange fnExactSwingsBySizeSpec)

/-- ITS FALSE NEIGHBOUR: 'it returns false'. Refute it at one input. -/
def fnExactSwingsBySizeWrong : ChangeSpec := { name := "fnExactSwingsBySize", fn := fun _ => fun
  | [d1, d2] => { results := [.lit (.bool false)], args := [d1, d2] }
  | _ => none }
def FnExactSwingsBySizeWrongFalsely : Prop := fnExactSwingsBySizeRow.holds Try.pinned (OpenSpec.ofChange fnExactSwingsBySizeWrong)

/-- 'laws.FnExactAgreeChances': WHATEVER THE INPUT: true; the input reads as it did. -/
def fnExactAgreeChancesSpec : ChangeSpec := { name := "fnExactAgreeChances", fn := fun _ => fun
  | [d] => { results := [.lit (.bool true)], args := [d] }
  | _ => none }
def fnExactAgreeChancesRow : OpenClaim := { program := "ytbjgdbgaopgbjaa", sum := "c97768144eea8acf4870d7e1570c6669a673ba5416f595aa80d7158100b3e269", func := "loop.example/g01275/laws.FnExactAgreeChances", spec := "fnExactAgreeChances", unfollowed := true, recurses := true, apart := false }
def FnExactAgreeChancesSaid : Prop := fnExactAgreeChancesRow.holds Try.pinned (OpenSpec.ofChange fnExactAgreeChancesSpec)

/-- ITS FALSE NEIGHBOUR: 'it returns false'. Refute it at one input. -/
def fnExactAgreeChancesWrong : ChangeSpec := { name := "fnExactAgreeChances", fn := fun _ => fun
  | [d] => { results := [.lit (.bool false)], args := [d] }
  | _ => none }
def FnExactAgreeChancesWrongFalsely : Prop := fnExactAgreeChancesRow.holds Try.pinned (OpenSpec.ofChange fnExactAgreeChancesWrong)

/-- 'laws.FnExactSwingPowers': WHATEVER THE INPUT: true; the input reads as it did. -/
def fnExactSwingPowersSpec : ChangeSpec := { name := "fnExactSwingPowers", fn := fun _ => fun
  | [d] => { results := [.lit (.bool true)], args := [d] }
  | _ => none }
def fnExactSwingPowersRow : OpenClaim := { program := "ytbjgdbgaopgbjaa", sum := "c97768144eea8acf4870d7e1570c6669a673ba5416f595aa80d7158100b3e269", func := "loop.example/g01275/laws.FnExactSwingPowers", spec := "fnExactSwingPowers", unfollowed := true, recurses := true, apart := false }
def FnExactSwingPowersSaid : Prop := fnExactSwingPowersRow.holds Try.pinned (OpenSpec.ofChange fnExactSwingPowersSpec)

/-- ITS FALSE NEIGHBOUR: 'it returns false'. Refute it at one input. -/
def fnExactSwingPowersWrong : ChangeSpec := { name := "fnExactSwingPowers", fn := fun _ => fun
  | [d] => { results := [.lit (.bool false)], args := [d] }
  | _ => none }
def FnExactSwingPowersWrongFalsely : Prop := fnExactSwingPowersRow.holds Try.pinned (OpenSpec.ofChange fnExactSwingPowersWrong)

/-- 'laws.FnExactPivotCounts': WHATEVER THE INPUT: true; the input reads as it did. -/
def fnExactPivotCountsSpec : ChangeSpec := { name := "fnExactPivotCounts", fn := fun _ => fun
  | [d] => { results := [.lit (.bool true)], args := [d] }
  | _ => none }
def fnExactPivotCountsRow : OpenClaim := { program := "ytbjgdbgaopgbjaa", sum := "c97768144eea8acf4870d7e1570c6669a673ba5416f595aa80d7158100b3e269", func := "loop.example/g01275/laws.FnExactPivotCounts", spec := "fnExactPivotCounts", unfollowed := true, recurses := true, apart := false }
def FnExactPivotCountsSaid : Prop := fnExactPivotCountsRow.holds Try.pinned (OpenSpec.ofChange fnExactPivotCountsSpec)

/-- ITS FALSE NEIGHBOUR: 'it returns false'. Refute it at one input. -/
def fnExactPivotCountsWrong : ChangeSpec := { name := "fnExactPivotCounts", fn := fun _ => fun
  | [d] => { results := [.lit (.bool false)], args := [d] }
  | _ => none }
def FnExactPivotCountsWrongFalsely : Prop := fnExactPivotCountsRow.holds Try.pinned (OpenSpec.ofChange fnExactPivotCountsWrong)

/- THE SECOND FORM. 'bulk': how many values and letters a reading holds, each counted each time it is reached (what is shared counts as often as it is met; a slice's spare places count too). A statement '..UptoSaid' is the law's where the arguments, and the package variables that the reading takes, are together of bulk at most 1048576: NARROWER than '..Said'. Prove '..Said' where nothing that the law and all that it calls make is longer than what came in: it says more and counts as full. Else prove '..UptoSaid'. A law counts once. -/
mutual
def uptoBulk {H : Type} : DataW H → Nat
  | .lit (.string bytes) => bytes.length + 1
  | .lit _ => 1
  | .nil => 1
  | .ptr d => uptoBulk d + 1
  | .slice elems spare => uptoBulkAll elems + uptoBulkAll spare + 1
  | .agg parts => uptoBulkAll parts + 1
  | .iface _ d => uptoBulk d + 1
  | .map entries => uptoBulkEntries entries + 1
  | .held _ => 1
def uptoBulkAll {H : Type} : List (DataW H) → Nat
  | [] => 0
  | d :: r => uptoBulk d + uptoBulkAll r
def uptoBulkEntries {H : Type} : List (Lit × DataW H) → Nat
  | [] => 0
  | x :: r => uptoBulkEntry x + uptoBulkEntries r
def uptoBulkEntry {H : Type} : Lit × DataW H → Nat
  | (.string bytes, d) => bytes.length + uptoBulk d + 1
  | (_, d) => uptoBulk d + 1
 end
def uptoSmall : (H : Type) → List (DataW H) → Bool := fun _ ds => decide (uptoBulkAll ds ≤ 1048576)
def OpenSpec.upto (s : _root_.Go.ChangeSpec) : _root_.Go.OpenSpec := { _root_.Go.OpenSpec.ofChange s with cond := some uptoSmall }

/-- 'laws.FnExactPivotOf', WHERE WHAT IT READS IS OF BULK AT MOST 1048576: true; the input reads as it did. -/
def fnExactPivotOfUptoRow : OpenClaim := { program := "ytbjgdbgaopgbjaa", sum := "c97768144eea8acf4870d7e1570c6669a673ba5416f595aa80d7158100b3e269", func := "loop.example/g01275/laws.FnExactPivotOf", spec := "fnExactPivotOf", unfollowed := true, recurses := true, apart := false, narrowed := true }
def FnExactPivotOfUptoSaid : Prop := fnExactPivotOfUptoRow.holds Try.pinned (OpenSpec.upto fnExactPivotOfSpec)

/-- 'laws.FnExactSwingsOf', WHERE WHAT IT READS IS OF BULK AT MOST 1048576: true; the input reads as it did. -/
def fnExactSwingsOfUptoRow : OpenClaim := { program := "ytbjgdbgaopgbjaa", sum := "c97768144eea8acf4870d7e1570c6669a673ba5416f595aa80d7158100b3e269", func := "loop.example/g01275/laws.FnExactSwingsOf", spec := "fnExactSwingsOf", unfollowed := true, recurses := true, apart := false, narrowed := true }
def FnExactSwingsOfUptoSaid : Prop := fnExactSwingsOfUptoRow.holds Try.pinned (OpenSpec.upto fnExactSwingsOfSpec)

/-- 'laws.FnExactDecidePower', WHERE WHAT IT READS IS OF BULK AT MOST 1048576: true; the input reads as it did. -/
def fnExactDecidePowerUptoRow : OpenClaim := { program := "ytbjgdbgaopgbjaa", sum := "c97768144eea8acf4870d7e1570c6669a673ba5416f595aa80d7158100b3e269", func := "loop.example/g01275/laws.FnExactDecidePower", spec := "fnExactDecidePower", unfollowed := true, recurses := true, apart := false, narrowed := true }
def FnExactDecidePowerUptoSaid : Prop := fnExactDecidePowerUptoRow.holds Try.pinned (OpenSpec.upto fnExactDecidePowerSpec)

/-- 'laws.FnExactWeightShares', WHERE WHAT IT READS IS OF BULK AT MOST 1048576: true; the input reads as it did. -/
def fnExactWeightSharesUptoRow : OpenClaim := { program := "ytbjgdbgaopgbjaa", sum := "c97768144eea8acf4870d7e1570c6669a673ba5416f595aa80d7158100b3e269", func := "loop.example/g01275/laws.FnExactWeightShares", spec := "fnExactWeightShares", unfollowed := true, recurses := true, apart := false, narrowed := true }
def FnExactWeightSharesUptoSaid : Prop := fnExactWeightSharesUptoRow.holds Try.pinned (OpenSpec.upto fnExactWeightSharesSpec)

/-- 'laws.FnExactCountWinningOf', WHERE WHAT IT READS IS OF BULK AT MOST 1048576: true; the input reads as it did. -/
def fnExactCountWinningOfUptoRow : OpenClaim := { program := "ytbjgdbgaopgbjaa", sum := "c97768144eea8acf4870d7e1570c6669a673ba5416f595aa80d7158100b3e269", func := "loop.example/g01275/laws.FnExactCountWinningOf", spec := "fnExactCountWinningOf", unfollowed := true, recurses := true, apart := false, narrowed := true }
def FnExactCountWinningOfUptoSaid : Prop := fnExactCountWinningOfUptoRow.holds Try.pinned (OpenSpec.upto fnExactCountWinningOfSpec)

/-- 'laws.FnExactDummyQuotas', WHERE WHAT IT READS IS OF BULK AT MOST 1048576: true; the input reads as it did. -/
def fnExactDummyQuotasUptoRow : OpenClaim := { program := "ytbjgdbgaopgbjaa", sum := "c97768144eea8acf4870d7e1570c6669a673ba5416f595aa80d7158100b3e269", func := "loop.example/g01275/laws.FnExactDummyQuotas", spec := "fnExactDummyQuotas", unfollowed := true, recurses := true, apart := false, narrowed := true }
def FnExactDummyQuotasUptoSaid : Prop := fnExactDummyQuotasUptoRow.holds Try.pinned (OpenSpec.upto fnExactDummyQuotasSpec)

/-- 'laws.FnExactRenameCommittee', WHERE WHAT IT READS IS OF BULK AT MOST 1048576: true; the input reads as it did. -/
def fnExactRenameCommitteeUptoRow : OpenClaim := { program := "ytbjgdbgaopgbjaa", sum := "c97768144eea8acf4870d7e1570c6669a673ba5416f595aa80d7158100b3e269", func := "loop.example/g01275/laws.FnExactRenameCommittee", spec := "fnExactRenameCommittee", unfollowed := true, recurses := true, apart := false, narrowed := true }
def FnExactRenameCommitteeUptoSaid : Prop := fnExactRenameCommitteeUptoRow.holds Try.pinned (OpenSpec.upto fnExactRenameCommitteeSpec)

/-- 'laws.FnExactLargestLoss', WHERE WHAT IT READS IS OF BULK AT MOST 1048576: true; the input reads as it did. -/
def fnExactLargestLossUptoRow : OpenClaim := { program := "ytbjgdbgaopgbjaa", sum := "c97768144eea8acf4870d7e1570c6669a673ba5416f595aa80d7158100b3e269", func := "loop.example/g01275/laws.FnExactLargestLoss", spec := "fnExactLargestLoss", unfollowed := true, recurses := true, apart := false, narrowed := true }
def FnExactLargestLossUptoSaid : Prop := fnExactLargestLossUptoRow.holds Try.pinned (OpenSpec.upto fnExactLargestLossSpec)

/-- 'laws.FnExactSwingsBySize', WHERE WHAT IT READS IS OF BULK AT MOST 1048576: true; the input reads as it did. -/
def fnExactSwingsBySizeUptoRow : OpenClaim := { program := "ytbjgdbgaopgbjaa", sum := "c97768144eea8acf4870d7e1570c6669a673ba5416f595aa80d7158100b3e269", func := "loop.example/g01275/laws.FnExactSwingsBySize", spec := "fnExactSwingsBySize", unfollowed := true, recurses := true, apart := false, narrowed := true }
def FnExactSwingsBySizeUptoSaid : Prop := fnExactSwingsBySizeUptoRow.holds Try.pinned (OpenSpec.upto fnExactSwingsBySizeSpec)

/-- 'laws.FnExactAgreeChances', WHERE WHAT IT READS IS OF BULK AT MOST 1048576: true; the input reads as it did. -/
def fnExactAgreeChancesUptoRow : OpenClaim := { program := "ytbjgdbgaopgbjaa", sum := "c97768144eea8acf4870d7e1570c6669a673ba5416f595aa80d7158100b3e269", func := "loop.example/g01275/laws.FnExactAgreeChances", spec := "fnExactAgreeChances", unfollowed := true, recurses := true, apart := false, narrowed := true }
def FnExactAgreeChancesUptoSaid : Prop := fnExactAgreeChancesUptoRow.holds Try.pinned (OpenSpec.upto fnExactAgreeChancesSpec)

/-- 'laws.FnExactSwingPowers', WHERE WHAT IT READS IS OF BULK AT MOST 1048576: true; the input reads as it did. -/
def fnExactSwingPowersUptoRow : OpenClaim := { program := "ytbjgdbgaopgbjaa", sum := "c97768144eea8acf4870d7e1570c6669a673ba5416f595aa80d7158100b3e269", func := "loop.example/g01275/laws.FnExactSwingPowers", spec := "fnExactSwingPowers", unfollowed := true, recurses := true, apart := false, narrowed := true }
def FnExactSwingPowersUptoSaid : Prop := fnExactSwingPowersUptoRow.holds Try.pinned (OpenSpec.upto fnExactSwingPowersSpec)

/-- 'laws.FnExactPivotCounts', WHERE WHAT IT READS IS OF BULK AT MOST 1048576: true; the input reads as it did. -/
def fnExactPivotCountsUptoRow : OpenClaim := { program := "ytbjgdbgaopgbjaa", sum := "c97768144eea8acf4870d7e1570c6669a673ba5416f595aa80d7158100b3e269", func := "loop.example/g01275/laws.FnExactPivotCounts", spec := "fnExactPivotCounts", unfollowed := true, recurses := true, apart := false, narrowed := true }
def FnExactPivotCountsUptoSaid : Prop := fnExactPivotCountsUptoRow.holds Try.pinned (OpenSpec.upto fnExactPivotCountsSpec)

end Rows
end Go.Proofs.Ytbjgdbgaopgbjaa
