/-
  No cell of these rows narrows 'for every input' (looked for: loops, veiled, ifaces, maps, wideKeys, modest, calm, conditions, laid).
  DERIVED. THE GIVEN ROWS OF THIS SEAT. 5 by the template 'for every input the law returns true; each argument reads behind the call as it read before'; 0 by the template 'total and deterministic' (their statements: YthjnmfacdlgbbaaTotals.lean).
  GIVEN WITH THE SEED: the statements are not yours to turn. If you find one false, say at which input.
  Laid BY PROGRAM, IN A SANDBOX (cutbox-rows.mjs): the forced cells as the released guide's own fill.sh prints them over the translation 4e0441d4ebb3863b… (all of the seat's roots in one cut). By AI agents, Wed Nov 11 2026. No macro, syntax, notation, axiom, sorry.
-/
import Derived.Test.YthjnmfacdlgbbaaChecked
import GoSem.Claim
import GoSem.ClaimJoined
import GoSem.ClaimMapViews
import Derived.JoinedTies
import Derived.KernelRfl
namespace Go.Proofs.Ythjnmfacdlgbbaa
/- THE CELL 'sum', in the pinned program and in every row, IS THE sha256 OF THE DUMP (.gsa) THAT YthjnmfacdlgbbaaProg.lean LOADS. Nothing in Lean hashes anything: it is a label: what it is worth is what the hold of that sum in a sandbox is worth. -/
noncomputable def Try.pinned : Pinned := { name := "ythjnmfacdlgbbaa", sum := "4e0441d4ebb3863b8e12da89f6ef665197bb44d62e8554162527318e8ac6fe6c", checked := Try.checked }
namespace Rows
def none {H : Type} : Left H := { results := [], args := [] }

/-- 'laws.FnExactDummyQuotas': WHATEVER THE INPUT: true; the input reads as it did. -/
def fnExactDummyQuotasSpec : ChangeSpec := { name := "fnExactDummyQuotas", fn := fun _ => fun
  | [d1, d2] => { results := [.lit (.bool true)], args := [d1, d2] }
  | _ => none }
def fnExactDummyQuotasRow : OpenClaim := { program := "ythjnmfacdlgbbaa", sum := "4e0441d4ebb3863b8e12da89f6ef665197bb44d62e8554162527318e8ac6fe6c", func := "loop.example/g01275/laws.FnExactDummyQuotas", spec := "fnExactDummyQuotas", unfollowed := true, recurses := true, apart := false }
def FnExactDummyQuotasSaid : Prop := fnExactDummyQuotasRow.holds Try.pinned (OpenSpec.ofChange fnExactDummyQuotasSpec)

/-- ITS FALSE NEIGHBOUR: 'it returns false'. Refute it at one input. -/
def fnExactDummyQuotasWrong : ChangeSpec := { name := "fnExactDummyQuotas", fn := fun _ => fun
  | [d1, d2] => { results := [.lit (.bool false)], args := [d1, d2] }
  | _ => none }
def FnExactDummyQuotasWrongFalsely : Prop := fnExactDummyQuotasRow.holds Try.pinned (OpenSpec.ofChange fnExactDummyQuotasWrong)

/-- 'laws.FnExactDropMember': WHATEVER THE INPUT: true; the input reads as it did. -/
def fnExactDropMemberSpec : ChangeSpec := { name := "fnExactDropMember", fn := fun _ => fun
  | [d1, d2] => { results := [.lit (.bool true)], args := [d1, d2] }
  | _ => none }
def fnExactDropMemberRow : OpenClaim := { program := "ythjnmfacdlgbbaa", sum := "4e0441d4ebb3863b8e12da89f6ef665197bb44d62e8554162527318e8ac6fe6c", func := "loop.example/g01275/laws.FnExactDropMember", spec := "fnExactDropMember", unfollowed := true, recurses := true, apart := false }
def FnExactDropMemberSaid : Prop := fnExactDropMemberRow.holds Try.pinned (OpenSpec.ofChange fnExactDropMemberSpec)

/-- ITS FALSE NEIGHBOUR: 'it returns false'. Refute it at one input. -/
def fnExactDropMemberWrong : ChangeSpec := { name := "fnExactDropMember", fn := fun _ => fun
  | [d1, d2] => { results := [.lit (.bool false)], args := [d1, d2] }
  | _ => none }
def FnExactDropMemberWrongFalsely : Prop := fnExactDropMemberRow.holds Try.pinned (OpenSpec.ofChange fnExactDropMemberWrong)

/-- 'laws.FnExactSamePower': WHATEVER THE INPUT: true; the input reads as it did. -/
def fnExactSamePowerSpec : ChangeSpec := { name := "fnExactSamePower", fn := fun _ => fun
  | [d] => { results := [.lit (.bool true)], args := [d] }
  | _ => none }
def fnExactSamePowerRow : OpenClaim := { program := "ythjnmfacdlgbbaa", sum := "4e0441d4ebb3863b8e12da89f6ef665197bb44d62e8554162527318e8ac6fe6c", func := "loop.example/g01275/laws.FnExactSamePower", spec := "fnExactSamePower", unfollowed := true, recurses := true, apart := false }
def FnExactSamePowerSaid : Prop := fnExactSamePowerRow.holds Try.pinned (OpenSpec.ofChange fnExactSamePowerSpec)

/-- ITS FALSE NEIGHBOUR: 'it returns false'. Refute it at one input. -/
def fnExactSamePowerWrong : ChangeSpec := { name := "fnExactSamePower", fn := fun _ => fun
  | [d] => { results := [.lit (.bool false)], args := [d] }
  | _ => none }
def FnExactSamePowerWrongFalsely : Prop := fnExactSamePowerRow.holds Try.pinned (OpenSpec.ofChange fnExactSamePowerWrong)

/-- 'laws.FnExactRootCommittee': WHATEVER THE INPUT: true; the input reads as it did. -/
def fnExactRootCommitteeSpec : ChangeSpec := { name := "fnExactRootCommittee", fn := fun _ => fun
  | [d] => { results := [.lit (.bool true)], args := [d] }
  | _ => none }
def fnExactRootCommitteeRow : OpenClaim := { program := "ythjnmfacdlgbbaa", sum := "4e0441d4ebb3863b8e12da89f6ef665197bb44d62e8554162527318e8ac6fe6c", func := "loop.example/g01275/laws.FnExactRootCommittee", spec := "fnExactRootCommittee", inPlace := ["math.sqrt"], unfollowed := true, recurses := true, apart := false }
def FnExactRootCommitteeSaid : Prop := fnExactRootCommitteeRow.holds Try.pinned (OpenSpec.ofChange fnExactRootCommitteeSpec)

/-- ITS FALSE NEIGHBOUR: 'it returns false'. Refute it at one input. -/
def fnExactRootCommitteeWrong : ChangeSpec := { name := "fnExactRootCommittee", fn := fun _ => fun
  | [d] => { results := [.lit (.bool false)], args := [d] }
  | _ => none }
def FnExactRootCommitteeWrongFalsely : Prop := fnExactRootCommitteeRow.holds Try.pinned (OpenSpec.ofChange fnExactRootCommitteeWrong)

/-- 'laws.FnExactFarthestOff': WHATEVER THE INPUT: true; the input reads as it did. -/
def fnExactFarthestOffSpec : ChangeSpec := { name := "fnExactFarthestOff", fn := fun _ => fun
  | [d] => { results := [.lit (.bool true)], args := [d] }
  | _ => none }
def fnExactFarthestOffRow : OpenClaim := { program := "ythjnmfacdlgbbaa", sum := "4e0441d4ebb3863b8e12da89f6ef665197bb44d62e8554162527318e8ac6fe6c", func := "loop.example/g01275/laws.FnExactFarthestOff", spec := "fnExactFarthestOff", unfollowed := true, recurses := true, apart := false }
def FnExactFarthestOffSaid : Prop := fnExactFarthestOffRow.holds Try.pinned (OpenSpec.ofChange fnExactFarthestOffSpec)

/-- ITS FALSE NEIGHBOUR: 'it returns false'. Refute it at one input. -/
def fnExactFarthestOffWrong : ChangeSpec := { name := "fnExactFarthestOff", fn := fun _ => fun
  | [d] => { results := [.lit (.bool false)], args := [d] }
  | _ => none }
def FnExactFarthestOffWrongFalsely : Prop := fnExactFarthestOffRow.holds Try.pinned (OpenSpec.ofChange fnExactFarthestOffWrong)

/- THE SECOND FORM. 'bulk': how many values and letters a reading holds, each counted each time it is reached (what is shared counts as often as it is met; a slice's spare places count too). A statement '..UptoSaid' is the law's where the arguments, and the package variables that the reading takes, are together of bulk at most 1048576: NARROWER than '..Said'. Prove '..Said' where nothing that the law and all that it calls make is longer than what came in: it says more and counts as full. Else prove '..UptoSaid'. A law counts once. -/
mutual
def uptoBulk {H : Type} : DataW H → Nat
  | .lit (.string bytes) => bytes.length + 1
  | .lit _ => 1
  | .nil => 1
  | .ptr d => uptoBulk d + 1
  | .slice elems spare => uptoBulkAll elems + uptoBulkAll spare + 1
  | .agg parts => uptoBulkAll parts + 1
  | .iface _ d => uptoBulk d + 1
  | .map entries => uptoBulkEntries entries + 1
  | .held _ => 1
def uptoBulkAll {H : Type} : List (DataW H) → Nat
  | [] => 0
  | d :: r => uptoBulk d + uptoBulkAll r
def uptoBulkEntries {H : Type} : List (Lit × DataW H) → Nat
  | [] => 0
  | x :: r => uptoBulkEntry x + uptoBulkEntries r
def uptoBulkEntry {H : Type} : Lit × DataW H → Nat
  | (.string bytes, d) => bytes.length + uptoBulk d + 1
  | (_, d) => uptoBulk d + 1
 end
def uptoSmall : (H : Type) → List (DataW H) → Bool := fun _ ds => decide (uptoBulkAll ds ≤ 1048576)
def OpenSpec.upto (s : _root_.Go.ChangeSpec) : _root_.Go.OpenSpec := { _root_.Go.OpenSpec.ofChange s with cond := some uptoSmall }

/-- 'laws.FnExactDummyQuotas', WHERE WHAT IT READS IS OF BULK AT MOST 1048576: true; the input reads as it did. -/
def fnExactDummyQuotasUptoRow : OpenClaim := { program := "ythjnmfacdlgbbaa", sum := "4e0441d4ebb3863b8e12da89f6ef665197bb44d62e8554162527318e8ac6fe6c", func := "loop.example/g01275/laws.FnExactDummyQuotas", spec := "fnExactDummyQuotas", unfollowed := true, recurses := true, apart := false, narrowed := true }
def FnExactDummyQuotasUptoSaid : Prop := fnExactDummyQuotasUptoRow.holds Try.pinned (OpenSpec.upto fnExactDummyQuotasSpec)

/-- 'laws.FnExactDropMember', WHERE WHAT IT READS IS OF BULK AT MOST 1048576: true; the input reads as it did. -/
def fnExactDropMemberUptoRow : OpenClaim := { program := "ythjnmfacdlgbbaa", sum := "4e0441d4ebb3863b8e12da89f6ef665197bb44d62e8554162527318e8ac6fe6c", func := "loop.example/g01275/laws.FnExactDropMember", spec := "fnExactDropMember", unfollowed := true, recurses := true, apart := false, narrowed := true }
def FnExactDropMemberUptoSaid : Prop := fnExactDropMemberUptoRow.holds Try.pinned (OpenSpec.upto fnExactDropMemberSpec)

/-- 'laws.FnExactSamePower', WHERE WHAT IT READS IS OF BULK AT MOST 1048576: true; the input reads as it did. -/
def fnExactSamePowerUptoRow : OpenClaim := { program := "ythjnmfacdlgbbaa", sum := "4e0441d4ebb3863b8e12da89f6ef665197bb44d62e8554162527318e8ac6fe6c", func := "loop.example/g01275/laws.FnExactSamePower", spec := "fnExactSamePower", unfollowed := true, recurses := true, apart := false, narrowed := true }
def FnExactSamePowerUptoSaid : Prop := fnExactSamePowerUptoRow.holds Try.pinned (OpenSpec.upto fnExactSamePowerSpec)

/-- 'laws.FnExactRootCommittee', WHERE WHAT IT READS IS OF BULK AT MOST 1048576: true; the input reads as it did. -/
def fnExactRootCommitteeUptoRow : OpenClaim := { program := "ythjnmfacdlgbbaa", sum := "4e0441d4ebb3863b8e12da89f6ef665197bb44d62e8554162527318e8ac6fe6c", func := "loop.example/g01275/laws.FnExactRootCommittee", spec := "fnExactRootCommittee", inPlace := ["math.sqrt"], unfollowed := true, recurses := true, apart := false, narrowed := true }
def FnExactRootCommitteeUptoSaid : Prop := fnExactRootCommitteeUptoRow.holds Try.pinned (OpenSpec.upto fnExactRootCommitteeSpec)

/-- 'laws.FnExactFarthestOff', WHERE WHAT IT READS IS OF BULK AT MOST 1048576: true; the input reads as it did. -/
def fnExactFarthestOffUptoRow : OpenClaim := { program := "ythjnmfacdlgbbaa", sum := "4e0441d4ebb3863b8e12da89f6ef665197bb44d62e8554162527318e8ac6fe6c", func := "loop.example/g01275/laws.FnExactFarthestOff", spec := "fnExactFarthestOff", unfollowed := true, recurses := true, apart := false, narrowed := true }
def FnExactFarthestOffUptoSaid : Prop := fnExactFarthestOffUptoRow.holds Try.pinned (OpenSpec.upto fnExactFarthestOffSpec)

end Rows
end Go.Proofs.Ythjnmfacdlgbbaa
