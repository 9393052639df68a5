/-
  No cell of these rows narrows 'for every input' (looked for: loops, veiled, ifaces, maps, wideKeys, modest, calm, conditions, laid).
  DERIVED. THE GIVEN ROWS OF THIS SEAT. 6 by the template 'for every input the law returns true; each argument reads behind the call as it read before'; 0 by the template 'total and deterministic' (their statements: YtfnjikjgofoomaaTotals.lean).
  GIVEN WITH THE SEED: the statements are not yours to turn. If you find one false, say at which input.
  Laid BY PROGRAM, IN A SANDBOX (cutbox-rows.mjs): the forced cells as the released guide's own fill.sh prints them over the translation 9b680a91eb0c4d5f… (all of the seat's roots in one cut). By AI agents, Wed Nov 11 2026. No macro, syntax, notation, axiom, sorry.
-/
import Derived.Test.YtfnjikjgofoomaaChecked
import GoSem.Claim
import GoSem.ClaimJoined
import GoSem.ClaimMapViews
import Derived.JoinedTies
import Derived.KernelRfl
namespace Go.Proofs.Ytfnjikjgofoomaa
/- THE CELL 'sum', in the pinned program and in every row, IS THE sha256 OF THE DUMP (.gsa) THAT YtfnjikjgofoomaaProg.lean LOADS. Nothing in Lean hashes anything: it is a label: what it is worth is what the hold of that sum in a sandbox is worth. -/
noncomputable def Try.pinned : Pinned := { name := "ytfnjikjgofoomaa", sum := "9b680a91eb0c4d5ffd3d607d4b1aebc18abbfaea11c71358442b2d6933bcd67b", checked := Try.checked }
namespace Rows
def none {H : Type} : Left H := { results := [], args := [] }

/-- 'laws.FnExactConstants': WHATEVER THE INPUT: true; the input reads as it did. -/
def fnExactConstantsSpec : ChangeSpec := { name := "fnExactConstants", fn := fun _ => fun
  | [] => { results := [.lit (.bool true)], args := [] }
  | _ => none }
def fnExactConstantsRow : OpenClaim := { program := "ytfnjikjgofoomaa", sum := "9b680a91eb0c4d5ffd3d607d4b1aebc18abbfaea11c71358442b2d6933bcd67b", func := "loop.example/g01275/laws.FnExactConstants", spec := "fnExactConstants", apart := false }
def FnExactConstantsSaid : Prop := fnExactConstantsRow.holds Try.pinned (OpenSpec.ofChange fnExactConstantsSpec)

/-- ITS FALSE NEIGHBOUR: 'it returns false'. Refute it at one input. -/
def fnExactConstantsWrong : ChangeSpec := { name := "fnExactConstants", fn := fun _ => fun
  | [] => { results := [.lit (.bool false)], args := [] }
  | _ => none }
def FnExactConstantsWrongFalsely : Prop := fnExactConstantsRow.holds Try.pinned (OpenSpec.ofChange fnExactConstantsWrong)

/-- 'laws.FnExactAddShares': WHATEVER THE INPUT: true; the input reads as it did. -/
def fnExactAddSharesSpec : ChangeSpec := { name := "fnExactAddShares", fn := fun _ => fun
  | [d1, d2] => { results := [.lit (.bool true)], args := [d1, d2] }
  | _ => none }
def fnExactAddSharesRow : OpenClaim := { program := "ytfnjikjgofoomaa", sum := "9b680a91eb0c4d5ffd3d607d4b1aebc18abbfaea11c71358442b2d6933bcd67b", func := "loop.example/g01275/laws.FnExactAddShares", spec := "fnExactAddShares", apart := false }
def FnExactAddSharesSaid : Prop := fnExactAddSharesRow.holds Try.pinned (OpenSpec.ofChange fnExactAddSharesSpec)

/-- ITS FALSE NEIGHBOUR: 'it returns false'. Refute it at one input. -/
def fnExactAddSharesWrong : ChangeSpec := { name := "fnExactAddShares", fn := fun _ => fun
  | [d1, d2] => { results := [.lit (.bool false)], args := [d1, d2] }
  | _ => none }
def FnExactAddSharesWrongFalsely : Prop := fnExactAddSharesRow.holds Try.pinned (OpenSpec.ofChange fnExactAddSharesWrong)

/-- 'laws.FnExactCompareShares': WHATEVER THE INPUT: true; the input reads as it did. -/
def fnExactCompareSharesSpec : ChangeSpec := { name := "fnExactCompareShares", fn := fun _ => fun
  | [d1, d2] => { results := [.lit (.bool true)], args := [d1, d2] }
  | _ => none }
def fnExactCompareSharesRow : OpenClaim := { program := "ytfnjikjgofoomaa", sum := "9b680a91eb0c4d5ffd3d607d4b1aebc18abbfaea11c71358442b2d6933bcd67b", func := "loop.example/g01275/laws.FnExactCompareShares", spec := "fnExactCompareShares", apart := false }
def FnExactCompareSharesSaid : Prop := fnExactCompareSharesRow.holds Try.pinned (OpenSpec.ofChange fnExactCompareSharesSpec)

/-- ITS FALSE NEIGHBOUR: 'it returns false'. Refute it at one input. -/
def fnExactCompareSharesWrong : ChangeSpec := { name := "fnExactCompareShares", fn := fun _ => fun
  | [d1, d2] => { results := [.lit (.bool false)], args := [d1, d2] }
  | _ => none }
def FnExactCompareSharesWrongFalsely : Prop := fnExactCompareSharesRow.holds Try.pinned (OpenSpec.ofChange fnExactCompareSharesWrong)

/-- 'laws.FnExactIsCommittee': WHATEVER THE INPUT: true; the input reads as it did. -/
def fnExactIsCommitteeSpec : ChangeSpec := { name := "fnExactIsCommittee", fn := fun _ => fun
  | [d] => { results := [.lit (.bool true)], args := [d] }
  | _ => none }
def fnExactIsCommitteeRow : OpenClaim := { program := "ytfnjikjgofoomaa", sum := "9b680a91eb0c4d5ffd3d607d4b1aebc18abbfaea11c71358442b2d6933bcd67b", func := "loop.example/g01275/laws.FnExactIsCommittee", spec := "fnExactIsCommittee", unfollowed := true, recurses := true, apart := false }
def FnExactIsCommitteeSaid : Prop := fnExactIsCommitteeRow.holds Try.pinned (OpenSpec.ofChange fnExactIsCommitteeSpec)

/-- ITS FALSE NEIGHBOUR: 'it returns false'. Refute it at one input. -/
def fnExactIsCommitteeWrong : ChangeSpec := { name := "fnExactIsCommittee", fn := fun _ => fun
  | [d] => { results := [.lit (.bool false)], args := [d] }
  | _ => none }
def FnExactIsCommitteeWrongFalsely : Prop := fnExactIsCommitteeRow.holds Try.pinned (OpenSpec.ofChange fnExactIsCommitteeWrong)

/-- 'laws.FnExactRootQuota': WHATEVER THE INPUT: true; the input reads as it did. -/
def fnExactRootQuotaSpec : ChangeSpec := { name := "fnExactRootQuota", fn := fun _ => fun
  | [d] => { results := [.lit (.bool true)], args := [d] }
  | _ => none }
def fnExactRootQuotaRow : OpenClaim := { program := "ytfnjikjgofoomaa", sum := "9b680a91eb0c4d5ffd3d607d4b1aebc18abbfaea11c71358442b2d6933bcd67b", func := "loop.example/g01275/laws.FnExactRootQuota", spec := "fnExactRootQuota", unfollowed := true, recurses := true, apart := false }
def FnExactRootQuotaSaid : Prop := fnExactRootQuotaRow.holds Try.pinned (OpenSpec.ofChange fnExactRootQuotaSpec)

/-- ITS FALSE NEIGHBOUR: 'it returns false'. Refute it at one input. -/
def fnExactRootQuotaWrong : ChangeSpec := { name := "fnExactRootQuota", fn := fun _ => fun
  | [d] => { results := [.lit (.bool false)], args := [d] }
  | _ => none }
def FnExactRootQuotaWrongFalsely : Prop := fnExactRootQuotaRow.holds Try.pinned (OpenSpec.ofChange fnExactRootQuotaWrong)

/-- 'laws.FnExactTotalWeight': WHATEVER THE INPUT: true; the input reads as it did. -/
def fnExactTotalWeightSpec : ChangeSpec := { name := "fnExactTotalWeight", fn := fun _ => fun
  | [d] => { results := [.lit (.bool true)], args := [d] }
  | _ => none }
def fnExactTotalWeightRow : OpenClaim := { program := "ytfnjikjgofoomaa", sum := "9b680a91eb0c4d5ffd3d607d4b1aebc18abbfaea11c71358442b2d6933bcd67b", func := "loop.example/g01275/laws.FnExactTotalWeight", spec := "fnExactTotalWeight", unfollowed := true, recurses := true, apart := false }
def FnExactTotalWeightSaid : Prop := fnExactTotalWeightRow.holds Try.pinned (OpenSpec.ofChange fnExactTotalWeightSpec)

/-- ITS FALSE NEIGHBOUR: 'it returns false'. Refute it at one input. -/
def fnExactTotalWeightWrong : ChangeSpec := { name := "fnExactTotalWeight", fn := fun _ => fun
  | [d] => { results := [.lit (.bool false)], args := [d] }
  | _ => none }
def FnExactTotalWeightWrongFalsely : Prop := fnExactTotalWeightRow.holds Try.pinned (OpenSpec.ofChange fnExactTotalWeightWrong)

/- THE SECOND FORM. 'bulk': how many values and letters a reading holds, each counted each time it is reached (what is shared counts as often as it is met; a slice's spare places count too). A statement '..UptoSaid' is the law's where the arguments, and the package variables that the reading takes, are together of bulk at most 1048576: NARROWER than '..Said'. Prove '..Said' where nothing that the law and all that it calls make is longer than what came in: it says more and counts as full. Else prove '..UptoSaid'. A law counts once. -/
mutual
def uptoBulk {H : Type} : DataW H → Nat
  | .lit (.string bytes) => bytes.length + 1
  | .lit _ => 1
  | .nil => 1
  | .ptr d => uptoBulk d + 1
  | .slice elems spare => uptoBulkAll elems + uptoBulkAll spare + 1
  | .agg parts => uptoBulkAll parts + 1
  | .iface _ d => uptoBulk d + 1
  | .map entries => uptoBulkEntries entries + 1
  | .held _ => 1
def uptoBulkAll {H : Type} : List (DataW H) → Nat
  | [] => 0
  | d :: r => uptoBulk d + uptoBulkAll r
def uptoBulkEntries {H : Type} : List (Lit × DataW H) → Nat
  | [] => 0
  | x :: r => uptoBulkEntry x + uptoBulkEntries r
def uptoBulkEntry {H : Type} : Lit × DataW H → Nat
  | (.string bytes, d) => bytes.length + uptoBulk d + 1
  | (_, d) => uptoBulk d + 1
 end
def uptoSmall : (H : Type) → List (DataW H) → Bool := fun _ ds => decide (uptoBulkAll ds ≤ 1048576)
def OpenSpec.upto (s : _root_.Go.ChangeSpec) : _root_.Go.OpenSpec := { _root_.Go.OpenSpec.ofChange s with cond := some uptoSmall }

/-- 'laws.FnExactConstants', WHERE WHAT IT READS IS OF BULK AT MOST 1048576: true; the input reads as it did. -/
def fnExactConstantsUptoRow : OpenClaim := { program := "ytfnjikjgofoomaa", sum := "9b680a91eb0c4d5ffd3d607d4b1aebc18abbfaea11c71358442b2d6933bcd67b", func := "loop.example/g01275/laws.FnExactConstants", spec := "fnExactConstants", apart := false, narrowed := true }
def FnExactConstantsUptoSaid : Prop := fnExactConstantsUptoRow.holds Try.pinned (OpenSpec.upto fnExactConstantsSpec)

/-- 'laws.FnExactAddShares', WHERE WHAT IT READS IS OF BULK AT MOST 1048576: true; the input reads as it did. -/
def fnExactAddSharesUptoRow : OpenClaim := { program := "ytfnjikjgofoomaa", sum := "9b680a91eb0c4d5ffd3d607d4b1aebc18abbfaea11c71358442b2d6933bcd67b", func := "loop.example/g01275/laws.FnExactAddShares", spec := "fnExactAddShares", apart := false, narrowed := true }
def FnExactAddSharesUptoSaid : Prop := fnExactAddSharesUptoRow.holds Try.pinned (OpenSpec.upto fnExactAddSharesSpec)

/-- 'laws.FnExactCompareShares', WHERE WHAT IT READS IS OF BULK AT MOST 1048576: true; the input reads as it did. -/
def fnExactCompareSharesUptoRow : OpenClaim := { program := "ytfnjikjgofoomaa", sum := "9b680a91eb0c4d5ffd3d607d4b1aebc18abbfaea11c71358442b2d6933bcd67b", func := "loop.example/g01275/laws.FnExactCompareShares", spec := "fnExactCompareShares", apart := false, narrowed := true }
def FnExactCompareSharesUptoSaid : Prop := fnExactCompareSharesUptoRow.holds Try.pinned (OpenSpec.upto fnExactCompareSharesSpec)

/-- 'laws.FnExactIsCommittee', WHERE WHAT IT READS IS OF BULK AT MOST 1048576: true; the input reads as it did. -/
def fnExactIsCommitteeUptoRow : OpenClaim := { program := "ytfnjikjgofoomaa", sum := "9b680a91eb0c4d5ffd3d607d4b1aebc18abbfaea11c71358442b2d6933bcd67b", func := "loop.example/g01275/laws.FnExactIsCommittee", spec := "fnExactIsCommittee", unfollowed := true, recurses := true, apart := false, narrowed := true }
def FnExactIsCommitteeUptoSaid : Prop := fnExactIsCommitteeUptoRow.holds Try.pinned (OpenSpec.upto fnExactIsCommitteeSpec)

/-- 'laws.FnExactRootQuota', WHERE WHAT IT READS IS OF BULK AT MOST 1048576: true; the input reads as it did. -/
def fnExactRootQuotaUptoRow : OpenClaim := { program := "ytfnjikjgofoomaa", sum := "9b680a91eb0c4d5ffd3d607d4b1aebc18abbfaea11c71358442b2d6933bcd67b", func := "loop.example/g01275/laws.FnExactRootQuota", spec := "fnExactRootQuota", unfollowed := true, recurses := true, apart := false, narrowed := true }
def FnExactRootQuotaUptoSaid : Prop := fnExactRootQuotaUptoRow.holds Try.pinned (OpenSpec.upto fnExactRootQuotaSpec)

/-- 'laws.FnExactTotalWeight', WHERE WHAT IT READS IS OF BULK AT MOST 1048576: true; the input reads as it did. -/
def fnExactTotalWeightUptoRow : OpenClaim := { program := "ytfnjikjgofoomaa", sum := "9b680a91eb0c4d5ffd3d607d4b1aebc18abbfaea11c71358442b2d6933bcd67b", func := "loop.example/g01275/laws.FnExactTotalWeight", spec := "fnExactTotalWeight", unfollowed := true, recurses := true, apart := false, narrowed := true }
def FnExactTotalWeightUptoSaid : Prop := fnExactTotalWeightUptoRow.holds Try.pinned (OpenSpec.upto fnExactTotalWeightSpec)

end Rows
end Go.Proofs.Ytfnjikjgofoomaa
