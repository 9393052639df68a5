/-
  No cell of these rows narrows 'for every input' (looked for: loops, veiled, ifaces, maps, wideKeys, modest, calm, conditions, laid).
  DERIVED. THE GIVEN ROWS OF THIS SEAT. 10 by the template 'for every input the law returns true; each argument reads behind the call as it read before'; 0 by the template 'total and deterministic' (their statements: YtameadmmgnfefaaTotals.lean).
  GIVEN WITH THE SEED: the statements are not yours to turn. If you find one false, say at which input.
  Laid BY PROGRAM, IN A SANDBOX (cutbox-rows.mjs): the forced cells as the released guide's own fill.sh prints them over the translation b5f1d207d19fe008… (all of the seat's roots in one cut). By AI agents, Wed Nov 11 2026. No macro, syntax, notation, axiom, sorry.
-/
import Derived.Test.YtameadmmgnfefaaChecked
import GoSem.Claim
import GoSem.ClaimJoined
import GoSem.ClaimMapViews
import Derived.JoinedTies
import Derived.KernelRfl
namespace Go.Proofs.Ytameadmmgnfefaa
/- THE CELL 'sum', in the pinned program and in every row, IS THE sha256 OF THE DUMP (.gsa) THAT YtameadmmgnfefaaProg.lean LOADS. Nothing in Lean hashes anything: it is a label: what it is worth is what the hold of that sum in a sandbox is worth. -/
noncomputable def Try.pinned : Pinned := { name := "ytameadmmgnfefaa", sum := "b5f1d207d19fe0088339231c456ae6f6515b2b0c990e5e87a681a99fa875c58a", checked := Try.checked }
namespace Rows
def none {H : Type} : Left H := { results := [], args := [] }

/-- 'laws.FnExactSwingShares': WHATEVER THE INPUT: true; the input reads as it did. -/
def fnExactSwingSharesSpec : ChangeSpec := { name := "fnExactSwingShares", fn := fun _ => fun
  | [d] => { results := [.lit (.bool true)], args := [d] }
  | _ => none }
def fnExactSwingSharesRow : OpenClaim := { program := "ytameadmmgnfefaa", sum := "b5f1d207d19fe0088339231c456ae6f6515b2b0c990e5e87a681a99fa875c58a", func := "loop.example/g01275/laws.FnExactSwingShares", spec := "fnExactSwingShares", unfollowed := true, recurses := true, apart := false }
def FnExactSwingSharesSaid : Prop := fnExactSwingSharesRow.holds Try.pinned (OpenSpec.ofChange fnExactSwingSharesSpec)

/-- ITS FALSE NEIGHBOUR: 'it returns false'. Refute it at one input. -/
def fnExactSwingSharesWrong : ChangeSpec := { name := "fnExactSwingShares", fn := fun _ => fun
  | [d] => { results := [.lit (.bool false)], args := [d] }
  | _ => none }
def FnExactSwingSharesWrongFalsely : Prop := fnExactSwingSharesRow.holds Try.pinned (OpenSpec.ofChange fnExactSwingSharesWrong)

/-- 'laws.FnExactBlockPowers': WHATEVER THE INPUT: true; the input reads as it did. -/
def fnExactBlockPowersSpec : ChangeSpec := { name := "fnExactBlockPowers", fn := fun _ => fun
  | [d] => { results := [.lit (.bool true)], args := [d] }
  | _ => none }
def fnExactBlockPowersRow : OpenClaim := { program := "ytameadmmgnfefaa", sum := "b5f1d207d19fe0088339231c456ae6f6515b2b0c990e5e87a681a99fa875c58a", func := "loop.example/g01275/laws.FnExactBlockPowers", spec := "fnExactBlockPowers", unfollowed := true, recurses := true, apart := false }
def FnExactBlockPowersSaid : Prop := fnExactBlockPowersRow.holds Try.pinned (OpenSpec.ofChange fnExactBlockPowersSpec)

/-- ITS FALSE NEIGHBOUR: 'it returns false'. Refute it at one input. -/
def fnExactBlockPowersWrong : ChangeSpec := { name := "fnExactBlockPowers", fn := fun _ => fun
  | [d] => { results := [.lit (.bool false)], args := [d] }
  | _ => none }
def FnExactBlockPowersWrongFalsely : Prop := fnExactBlockPowersRow.holds Try.pinned (OpenSpec.ofChange fnExactBlockPowersWrong)

/-- 'laws.FnExactStartPowers': WHATEVER THE INPUT: true; the input reads as it did. -/
def fnExactStartPowersSpec : ChangeSpec := { name := "fnExactStartPowers", fn := fun _ => fun
  | [d] => { results := [.lit (.bool true)], args := [d] }
  | _ => none }
def fnExactStartPowersRow : OpenClaim := { program := "ytameadmmgnfefaa", sum := "b5f1d207d19fe0088339231c456ae6f6515b2b0c990e5e87a681a99fa875c58a", func := "loop.example/g01275/laws.FnExactStartPowers", spec := "fnExactStartPowers", unfollowed := true, recurses := true, apart := false }
def FnExactStartPowersSaid : Prop := fnExactStartPowersRow.holds Try.pinned (OpenSpec.ofChange fnExactStartPowersSpec)

/-- ITS FALSE NEIGHBOUR: 'it returns false'. Refute it at one input. -/
def fnExactStartPowersWrong : ChangeSpec := { name := "fnExactStartPowers", fn := fun _ => fun
  | [d] => { results := [.lit (.bool false)], args := [d] }
  | _ => none }
def FnExactStartPowersWrongFalsely : Prop := fnExactStartPowersRow.holds Try.pinned (OpenSpec.ofChange fnExactStartPowersWrong)

/-- 'laws.FnExactStrongestByOrders': WHATEVER THE INPUT: true; the input reads as it did. -/
def fnExactStrongestByOrdersSpec : ChangeSpec := { name := "fnExactStrongestByOrders", fn := fun _ => fun
  | [d] => { results := [.lit (.bool true)], args := [d] }
  | _ => none }
def fnExactStrongestByOrdersRow : OpenClaim := { program := "ytameadmmgnfefaa", sum := "b5f1d207d19fe0088339231c456ae6f6515b2b0c990e5e87a681a99fa875c58a", func := "loop.example/g01275/laws.FnExactStrongestByOrders", spec := "fnExactStrongestByOrders", unfollowed := true, recurses := true, apart := false }
def FnExactStrongestByOrdersSaid : Prop := fnExactStrongestByOrdersRow.holds Try.pinned (OpenSpec.ofChange fnExactStrongestByOrdersSpec)

/-- ITS FALSE NEIGHBOUR: 'it returns false'. Refute it at one input. -/
def fnExactStrongestByOrdersWrong : ChangeSpec := { name := "fnExactStrongestByOrders", fn := fun _ => fun
  | [d] => { results := [.lit (.bool false)], args := [d] }
  | _ => none }
def FnExactStrongestByOrdersWrongFalsely : Prop := fnExactStrongestByOrdersRow.holds Try.pinned (OpenSpec.ofChange fnExactStrongestByOrdersWrong)

/-- 'laws.FnExactFairestQuota': WHATEVER THE INPUT: true; the input reads as it did. -/
def fnExactFairestQuotaSpec : ChangeSpec := { name := "fnExactFairestQuota", fn := fun _ => fun
  | [d] => { results := [.lit (.bool true)], args := [d] }
  | _ => none }
def fnExactFairestQuotaRow : OpenClaim := { program := "ytameadmmgnfefaa", sum := "b5f1d207d19fe0088339231c456ae6f6515b2b0c990e5e87a681a99fa875c58a", func := "loop.example/g01275/laws.FnExactFairestQuota", spec := "fnExactFairestQuota", unfollowed := true, recurses := true, apart := false }
def FnExactFairestQuotaSaid : Prop := fnExactFairestQuotaRow.holds Try.pinned (OpenSpec.ofChange fnExactFairestQuotaSpec)

/-- ITS FALSE NEIGHBOUR: 'it returns false'. Refute it at one input. -/
def fnExactFairestQuotaWrong : ChangeSpec := { name := "fnExactFairestQuota", fn := fun _ => fun
  | [d] => { results := [.lit (.bool false)], args := [d] }
  | _ => none }
def FnExactFairestQuotaWrongFalsely : Prop := fnExactFairestQuotaRow.holds Try.pinned (OpenSpec.ofChange fnExactFairestQuotaWrong)

/-- 'laws.FnExactOrderPowers': WHATEVER THE INPUT: true; the input reads as it did. -/
def fnExactOrderPowersSpec : ChangeSpec := { name := "fnExactOrderPowers", fn := fun _ => fun
  | [d] => { results := [.lit (.bool true)], args := [d] }
  | _ => none }
def fnExactOrderPowersRow : OpenClaim := { program := "ytameadmmgnfefaa", sum := "b5f1d207d19fe0088339231c456ae6f6515b2b0c990e5e87a681a99fa875c58a", func := "loop.example/g01275/laws.FnExactOrderPowers", spec := "fnExactOrderPowers", unfollowed := true, recurses := true, apart := false }
def FnExactOrderPowersSaid : Prop := fnExactOrderPowersRow.holds Try.pinned (OpenSpec.ofChange fnExactOrderPowersSpec)

/-- ITS FALSE NEIGHBOUR: 'it returns false'. Refute it at one input. -/
def fnExactOrderPowersWrong : ChangeSpec := { name := "fnExactOrderPowers", fn := fun _ => fun
  | [d] => { results := [.lit (.bool false)], args := [d] }
  | _ => none }
def FnExactOrderPowersWrongFalsely : Prop := fnExactOrderPowersRow.holds Try.pinned (OpenSpec.ofChange fnExactOrderPowersWrong)

/-- 'laws.FnExactSamePower': WHATEVER THE INPUT: true; the input reads as it did. -/
def fnExactSamePowerSpec : ChangeSpec := { name := "fnExactSamePower", fn := fun _ => fun
  | [d] => { results := [.lit (.bool true)], args := [d] }
  | _ => none }
def fnExactSamePowerRow : OpenClaim := { program := "ytameadmmgnfefaa", sum := "b5f1d207d19fe0088339231c456ae6f6515b2b0c990e5e87a681a99fa875c58a", func := "loop.example/g01275/laws.FnExactSamePower", spec := "fnExactSamePower", unfollowed := true, recurses := true, apart := false }
def FnExactSamePowerSaid : Prop := fnExactSamePowerRow.holds Try.pinned (OpenSpec.ofChange fnExactSamePowerSpec)

/-- ITS FALSE NEIGHBOUR: 'it returns false'. Refute it at one input. -/
def fnExactSamePowerWrong : ChangeSpec := { name := "fnExactSamePower", fn := fun _ => fun
  | [d] => { results := [.lit (.bool false)], args := [d] }
  | _ => none }
def FnExactSamePowerWrongFalsely : Prop := fnExactSamePowerRow.holds Try.pinned (OpenSpec.ofChange fnExactSamePowerWrong)

/-- 'laws.FnExactFarthestOff': WHATEVER THE INPUT: true; the input reads as it did. -/
def fnExactFarthestOffSpec : ChangeSpec := { name := "fnExactFarthestOff", fn := fun _ => fun
  | [d] => { results := [.lit (.bool true)], args := [d] }
  | _ => none }
def fnExactFarthestOffRow : OpenClaim := { program := "ytameadmmgnfefaa", sum := "b5f1d207d19fe0088339231c456ae6f6515b2b0c990e5e87a681a99fa875c58a", func := "loop.example/g01275/laws.FnExactFarthestOff", spec := "fnExactFarthestOff", unfollowed := true, recurses := true, apart := false }
def FnExactFarthestOffSaid : Prop := fnExactFarthestOffRow.holds Try.pinned (OpenSpec.ofChange fnExactFarthestOffSpec)

/-- ITS FALSE NEIGHBOUR: 'it returns false'. Refute it at one input. -/
def fnExactFarthestOffWrong : ChangeSpec := { name := "fnExactFarthestOff", fn := fun _ => fun
  | [d] => { results := [.lit (.bool false)], args := [d] }
  | _ => none }
def FnExactFarthestOffWrongFalsely : Prop := fnExactFarthestOffRow.holds Try.pinned (OpenSpec.ofChange fnExactFarthestOffWrong)

/-- 'laws.FnExactPowerSigns': WHATEVER THE INPUT: true; the input reads as it did. -/
def fnExactPowerSignsSpec : ChangeSpec := { name := "fnExactPowerSigns", fn := fun _ => fun
  | [d] => { results := [.lit (.bool true)], args := [d] }
  | _ => none }
def fnExactPowerSignsRow : OpenClaim := { program := "ytameadmmgnfefaa", sum := "b5f1d207d19fe0088339231c456ae6f6515b2b0c990e5e87a681a99fa875c58a", func := "loop.example/g01275/laws.FnExactPowerSigns", spec := "fnExactPowerSigns", unfollowed := true, recurses := true, apart := false }
def FnExactPowerSignsSaid : Prop := fnExactPowerSignsRow.holds Try.pinned (OpenSpec.ofChange fnExactPowerSignsSpec)

/-- ITS FALSE NEIGHBOUR: 'it returns false'. Refute it at one input. -/
def fnExactPowerSignsWrong : ChangeSpec := { name := "fnExactPowerSigns", fn := fun _ => fun
  | [d] => { results := [.lit (.bool false)], args := [d] }
  | _ => none }
def FnExactPowerSignsWrongFalsely : Prop := fnExactPowerSignsRow.holds Try.pinned (OpenSpec.ofChange fnExactPowerSignsWrong)

/-- 'laws.FnExactRootCommittee': WHATEVER THE INPUT: true; the input reads as it did. -/
def fnExactRootCommitteeSpec : ChangeSpec := { name := "fnExactRootCommittee", fn := fun _ => fun
  | [d] => { results := [.lit (.bool true)], args := [d] }
  | _ => none }
def fnExactRootCommitteeRow : OpenClaim := { program := "ytameadmmgnfefaa", sum := "b5f1d207d19fe0088339231c456ae6f6515b2b0c990e5e87a681a99fa875c58a", func := "loop.example/g01275/laws.FnExactRootCommittee", spec := "fnExactRootCommittee", inPlace := ["math.sqrt"], unfollowed := true, recurses := true, apart := false }
def FnExactRootCommitteeSaid : Prop := fnExactRootCommitteeRow.holds Try.pinned (OpenSpec.ofChange fnExactRootCommitteeSpec)

/-- ITS FALSE NEIGHBOUR: 'it returns false'. Refute it at one input. -/
def fnExactRootCommitteeWrong : ChangeSpec := { name := "fnExactRootCommittee", fn := fun _ => fun
  | [d] => { results := [.lit (.bool false)], args := [d] }
  | _ => none }
def FnExactRootCommitteeWrongFalsely : Prop := fnExactRootCommitteeRow.holds Try.pinned (OpenSpec.ofChange fnExactRootCommitteeWrong)

/- THE SECOND FORM. 'bulk': how many values and letters a reading holds, each counted each time it is reached (what is shared counts as often as it is met; a slice's spare places count too). A statement '..UptoSaid' is the law's where the arguments, and the package variables that the reading takes, are together of bulk at most 1048576: NARROWER than '..Said'. Prove '..Said' where nothing that the law and all that it calls make is longer than what came in: it says more and counts as full. Else prove '..UptoSaid'. A law counts once. -/
mutual
def uptoBulk {H : Type} : DataW H → Nat
  | .lit (.string bytes) => bytes.length + 1
  | .lit _ => 1
  | .nil => 1
  | .ptr d => uptoBulk d + 1
  | .slice elems spare => uptoBulkAll elems + uptoBulkAll spare + 1
  | .agg parts => uptoBulkAll parts + 1
  | .iface _ d => uptoBulk d + 1
  | .map entries => uptoBulkEntries entries + 1
  | .held _ => 1
def uptoBulkAll {H : Type} : List (DataW H) → Nat
  | [] => 0
  | d :: r => uptoBulk d + uptoBulkAll r
def uptoBulkEntries {H : Type} : List (Lit × DataW H) → Nat
  | [] => 0
  | x :: r => uptoBulkEntry x + uptoBulkEntries r
def uptoBulkEntry {H : Type} : Lit × DataW H → Nat
  | (.string bytes, d) => bytes.length + uptoBulk d + 1
  | (_, d) => uptoBulk d + 1
 end
def uptoSmall : (H : Type) → List (DataW H) → Bool := fun _ ds => decide (uptoBulkAll ds ≤ 1048576)
def OpenSpec.upto (s : _root_.Go.ChangeSpec) : _root_.Go.OpenSpec := { _root_.Go.OpenSpec.ofChange s with cond := some uptoSmall }

/-- 'laws.FnExactSwingShares', WHERE WHAT IT READS IS OF BULK AT MOST 1048576: true; the input reads as it did. -/
def fnExactSwingSharesUptoRow : OpenClaim := { program := "ytameadmmgnfefaa", sum := "b5f1d207d19fe0088339231c456ae6f6515b2b0c990e5e87a681a99fa875c58a", func := "loop.example/g01275/laws.FnExactSwingShares", spec := "fnExactSwingShares", unfollowed := true, recurses := true, apart := false, narrowed := true }
def FnExactSwingSharesUptoSaid : Prop := fnExactSwingSharesUptoRow.holds Try.pinned (OpenSpec.upto fnExactSwingSharesSpec)

/-- 'laws.FnExactBlockPowers', WHERE WHAT IT READS IS OF BULK AT MOST 1048576: true; the input reads as it did. -/
def fnExactBlockPowersUptoRow : OpenClaim := { program := "ytameadmmgnfefaa", sum := "b5f1d207d19fe0088339231c456ae6f6515b2b0c990e5e87a681a99fa875c58a", func := "loop.example/g01275/laws.FnExactBlockPowers", spec := "fnExactBlockPowers", unfollowed := true, recurses := true, apart := false, narrowed := true }
def FnExactBlockPowersUptoSaid : Prop := fnExactBlockPowersUptoRow.holds Try.pinned (OpenSpec.upto fnExactBlockPowersSpec)

/-- 'laws.FnExactStartPowers', WHERE WHAT IT READS IS OF BULK AT MOST 1048576: true; the input reads as it did. -/
def fnExactStartPowersUptoRow : OpenClaim := { program := "ytameadmmgnfefaa", sum := "b5f1d207d19fe0088339231c456ae6f6515b2b0c990e5e87a681a99fa875c58a", func := "loop.example/g01275/laws.FnExactStartPowers", spec := "fnExactStartPowers", unfollowed := true, recurses := true, apart := false, narrowed := true }
def FnExactStartPowersUptoSaid : Prop := fnExactStartPowersUptoRow.holds Try.pinned (OpenSpec.upto fnExactStartPowersSpec)

/-- 'laws.FnExactStrongestByOrders', WHERE WHAT IT READS IS OF BULK AT MOST 1048576: true; the input reads as it did. -/
def fnExactStrongestByOrdersUptoRow : OpenClaim := { program := "ytameadmmgnfefaa", sum := "b5f1d207d19fe0088339231c456ae6f6515b2b0c990e5e87a681a99fa875c58a", func := "loop.example/g01275/laws.FnExactStrongestByOrders", spec := "fnExactStrongestByOrders", unfollowed := true, recurses := true, apart := false, narrowed := true }
def FnExactStrongestByOrdersUptoSaid : Prop := fnExactStrongestByOrdersUptoRow.holds Try.pinned (OpenSpec.upto fnExactStrongestByOrdersSpec)

/-- 'laws.FnExactFairestQuota', WHERE WHAT IT READS IS OF BULK AT MOST 1048576: true; the input reads as it did. -/
def fnExactFairestQuotaUptoRow : OpenClaim := { program := "ytameadmmgnfefaa", sum := "b5f1d207d19fe0088339231c456ae6f6515b2b0c990e5e87a681a99fa875c58a", func := "loop.example/g01275/laws.FnExactFairestQuota", spec := "fnExactFairestQuota", unfollowed := true, recurses := true, apart := false, narrowed := true }
def FnExactFairestQuotaUptoSaid : Prop := fnExactFairestQuotaUptoRow.holds Try.pinned (OpenSpec.upto fnExactFairestQuotaSpec)

/-- 'laws.FnExactOrderPowers', WHERE WHAT IT READS IS OF BULK AT MOST 1048576: true; the input reads as it did. -/
def fnExactOrderPowersUptoRow : OpenClaim := { program := "ytameadmmgnfefaa", sum := "b5f1d207d19fe0088339231c456ae6f6515b2b0c990e5e87a681a99fa875c58a", func := "loop.example/g01275/laws.FnExactOrderPowers", spec := "fnExactOrderPowers", unfollowed := true, recurses := true, apart := false, narrowed := true }
def FnExactOrderPowersUptoSaid : Prop := fnExactOrderPowersUptoRow.holds Try.pinned (OpenSpec.upto fnExactOrderPowersSpec)

/-- 'laws.FnExactSamePower', WHERE WHAT IT READS IS OF BULK AT MOST 1048576: true; the input reads as it did. -/
def fnExactSamePowerUptoRow : OpenClaim := { program := "ytameadmmgnfefaa", sum := "b5f1d207d19fe0088339231c456ae6f6515b2b0c990e5e87a681a99fa875c58a", func := "loop.example/g01275/laws.FnExactSamePower", spec := "fnExactSamePower", unfollowed := true, recurses := true, apart := false, narrowed := true }
def FnExactSamePowerUptoSaid : Prop := fnExactSamePowerUptoRow.holds Try.pinned (OpenSpec.upto fnExactSamePowerSpec)

/-- 'laws.FnExactFarthestOff', WHERE WHAT IT READS IS OF BULK AT MOST 1048576: true; the input reads as it did. -/
def fnExactFarthestOffUptoRow : OpenClaim := { program := "ytameadmmgnfefaa", sum := "b5f1d207d19fe0088339231c456ae6f6515b2b0c990e5e87a681a99fa875c58a", func := "loop.example/g01275/laws.FnExactFarthestOff", spec := "fnExactFarthestOff", unfollowed := true, recurses := true, apart := false, narrowed := true }
def FnExactFarthestOffUptoSaid : Prop := fnExactFarthestOffUptoRow.holds Try.pinned (OpenSpec.upto fnExactFarthestOffSpec)

/-- 'laws.FnExactPowerSigns', WHERE WHAT IT READS IS OF BULK AT MOST 1048576: true; the input reads as it did. -/
def fnExactPowerSignsUptoRow : OpenClaim := { program := "ytameadmmgnfefaa", sum := "b5f1d207d19fe0088339231c456ae6f6515b2b0c990e5e87a681a99fa875c58a", func := "loop.example/g01275/laws.FnExactPowerSigns", spec := "fnExactPowerSigns", unfollowed := true, recurses := true, apart := false, narrowed := true }
def FnExactPowerSignsUptoSaid : Prop := fnExactPowerSignsUptoRow.holds Try.pinned (OpenSpec.upto fnExactPowerSignsSpec)

/-- 'laws.FnExactRootCommittee', WHERE WHAT IT READS IS OF BULK AT MOST 1048576: true; the input reads as it did. -/
def fnExactRootCommitteeUptoRow : OpenClaim := { program := "ytameadmmgnfefaa", sum := "b5f1d207d19fe0088339231c456ae6f6515b2b0c990e5e87a681a99fa875c58a", func := "loop.example/g01275/laws.FnExactRootCommittee", spec := "fnExactRootCommittee", inPlace := ["math.sqrt"], unfollowed := true, recurses := true, apart := false, narrowed := true }
def FnExactRootCommitteeUptoSaid : Prop := fnExactRootCommitteeUptoRow.holds Try.pinned (OpenSpec.upto fnExactRootCommitteeSpec)

end Rows
end Go.Proofs.Ytameadmmgnfefaa
