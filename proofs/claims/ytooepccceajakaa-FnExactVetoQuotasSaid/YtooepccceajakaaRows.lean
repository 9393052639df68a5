/-
  No cell of these rows narrows 'for every input' (looked for: loops, veiled, ifaces, maps, wideKeys, modest, calm, conditions, laid).
  DERIVED. THE GIVEN ROWS OF THIS SEAT. 12 by the template 'for every input the law returns true; each argument reads behind the call as it read before'; 0 by the template 'total and deterministic' (their statements: YtooepccceajakaaTotals.lean).
  GIVEN WITH THE SEED: the statements are not yours to turn. If you find one false, say at which input.
  Laid BY PROGRAM, IN A SANDBOX (cutbox-rows.mjs): the forced cells as the released guide's own fill.sh prints them over the translation 19deddc1f543486f… (all of the seat's roots in one cut). By AI agents, Wed Nov 11 2026. No macro, syntax, notation, axiom, sorry.
-/
import Derived.Test.YtooepccceajakaaChecked
import GoSem.Claim
import GoSem.ClaimJoined
import GoSem.ClaimMapViews
import Derived.JoinedTies
import Derived.KernelRfl
namespace Go.Proofs.Ytooepccceajakaa
/- THE CELL 'sum', in the pinned program and in every row, IS THE sha256 OF THE DUMP (.gsa) THAT YtooepccceajakaaProg.lean LOADS. Nothing in Lean hashes anything: it is a label: what it is worth is what the hold of that sum in a sandbox is worth. -/
noncomputable def Try.pinned : Pinned := { name := "ytooepccceajakaa", sum := "19deddc1f543486f3a3ab55c42f9753f08e256acae35ee63caf8a10ae6de3500", checked := Try.checked }
namespace Rows
def none {H : Type} : Left H := { results := [], args := [] }

/-- 'laws.FnExactDictatorOf': WHATEVER THE INPUT: true; the input reads as it did. -/
def fnExactDictatorOfSpec : ChangeSpec := { name := "fnExactDictatorOf", fn := fun _ => fun
  | [d] => { results := [.lit (.bool true)], args := [d] }
  | _ => none }
def fnExactDictatorOfRow : OpenClaim := { program := "ytooepccceajakaa", sum := "19deddc1f543486f3a3ab55c42f9753f08e256acae35ee63caf8a10ae6de3500", func := "loop.example/g01275/laws.FnExactDictatorOf", spec := "fnExactDictatorOf", unfollowed := true, recurses := true, apart := false }
def FnExactDictatorOfSaid : Prop := fnExactDictatorOfRow.holds Try.pinned (OpenSpec.ofChange fnExactDictatorOfSpec)

/-- ITS FALSE NEIGHBOUR: 'it returns false'. Refute it at one input. -/
def fnExactDictatorOfWrong : ChangeSpec := { name := "fnExactDictatorOf", fn := fun _ => fun
  | [d] => { results := [.lit (.bool false)], args := [d] }
  | _ => none }
def FnExactDictatorOfWrongFalsely : Prop := fnExactDictatorOfRow.holds Try.pinned (OpenSpec.ofChange fnExactDictatorOfWrong)

/-- 'laws.FnExactVetoQuotas': WHATEVER THE INPUT: true; the input reads as it did. -/
def fnExactVetoQuotasSpec : ChangeSpec := { name := "fnExactVetoQuotas", fn := fun _ => fun
  | [d1, d2] => { results := [.lit (.bool true)], args := [d1, d2] }
  | _ => none }
def fnExactVetoQuotasRow : OpenClaim := { program := "ytooepccceajakaa", sum := "19deddc1f543486f3a3ab55c42f9753f08e256acae35ee63caf8a10ae6de3500", func := "loop.example/g01275/laws.FnExactVetoQuotas", spec := "fnExactVetoQuotas", unfollowed := true, recurses := true, apart := false }
def FnExactVetoQuotasSaid : Prop := fnExactVetoQuotasRow.holds Try.pinned (OpenSpec.ofChange fnExactVetoQuotasSpec)

/-- ITS FALSE NEIGHBOUR: 'it returns false'. Refute it at one input. -/
def fnExactVetoQuotasWrong : ChangeSpec := { name := "fnExactVetoQuotas", fn := fun _ => fun
  | [d1, d2] => { results := [.lit (.bool false)], args := [d1, d2] }
  | _ => none }
def FnExactVetoQuotasWrongFalsely : Prop := fnExactVetoQuotasRow.holds Try.pinned (OpenSpec.ofChange fnExactVetoQuotasWrong)

/-- 'laws.FnExactDualCommittee': WHATEVER THE INPUT: true; the input reads as it did. -/
def fnExactDualCommitteeSpec : ChangeSpec := { name := "fnExactDualCommittee", fn := fun _ => fun
  | [d] => { results := [.lit (.bool true)], args := [d] }
  | _ => none }
def fnExactDualCommitteeRow : OpenClaim := { program := "ytooepccceajakaa", sum := "19deddc1f543486f3a3ab55c42f9753f08e256acae35ee63caf8a10ae6de3500", func := "loop.example/g01275/laws.FnExactDualCommittee", spec := "fnExactDualCommittee", unfollowed := true, recurses := true, apart := false }
def FnExactDualCommitteeSaid : Prop := fnExactDualCommitteeRow.holds Try.pinned (OpenSpec.ofChange fnExactDualCommitteeSpec)

/-- ITS FALSE NEIGHBOUR: 'it returns false'. Refute it at one input. -/
def fnExactDualCommitteeWrong : ChangeSpec := { name := "fnExactDualCommittee", fn := fun _ => fun
  | [d] => { results := [.lit (.bool false)], args := [d] }
  | _ => none }
def FnExactDualCommitteeWrongFalsely : Prop := fnExactDualCommitteeRow.holds Try.pinned (OpenSpec.ofChange fnExactDualCommitteeWrong)

/-- 'laws.FnExactIsProper': WHATEVER THE INPUT: true; the input reads as it did. -/
def fnExactIsProperSpec : ChangeSpec := { name := "fnExactIsProper", fn := fun _ => fun
  | [d] => { results := [.lit (.bool true)], args := [d] }
  | _ => none }
def fnExactIsProperRow : OpenClaim := { program := "ytooepccceajakaa", sum := "19deddc1f543486f3a3ab55c42f9753f08e256acae35ee63caf8a10ae6de3500", func := "loop.example/g01275/laws.FnExactIsProper", spec := "fnExactIsProper", unfollowed := true, recurses := true, apart := false }
def FnExactIsProperSaid : Prop := fnExactIsProperRow.holds Try.pinned (OpenSpec.ofChange fnExactIsProperSpec)

/-- ITS FALSE NEIGHBOUR: 'it returns false'. Refute it at one input. -/
def fnExactIsProperWrong : ChangeSpec := { name := "fnExactIsProper", fn := fun _ => fun
  | [d] => { results := [.lit (.bool false)], args := [d] }
  | _ => none }
def FnExactIsProperWrongFalsely : Prop := fnExactIsProperRow.holds Try.pinned (OpenSpec.ofChange fnExactIsProperWrong)

/-- 'laws.FnExactIsStrong': WHATEVER THE INPUT: true; the input reads as it did. -/
def fnExactIsStrongSpec : ChangeSpec := { name := "fnExactIsStrong", fn := fun _ => fun
  | [d] => { results := [.lit (.bool true)], args := [d] }
  | _ => none }
def fnExactIsStrongRow : OpenClaim := { program := "ytooepccceajakaa", sum := "19deddc1f543486f3a3ab55c42f9753f08e256acae35ee63caf8a10ae6de3500", func := "loop.example/g01275/laws.FnExactIsStrong", spec := "fnExactIsStrong", unfollowed := true, recurses := true, apart := false }
def FnExactIsStrongSaid : Prop := fnExactIsStrongRow.holds Try.pinned (OpenSpec.ofChange fnExactIsStrongSpec)

/-- ITS FALSE NEIGHBOUR: 'it returns false'. Refute it at one input. -/
def fnExactIsStrongWrong : ChangeSpec := { name := "fnExactIsStrong", fn := fun _ => fun
  | [d] => { results := [.lit (.bool false)], args := [d] }
  | _ => none }
def FnExactIsStrongWrongFalsely : Prop := fnExactIsStrongRow.holds Try.pinned (OpenSpec.ofChange fnExactIsStrongWrong)

/-- 'laws.FnExactCountWinning': WHATEVER THE INPUT: true; the input reads as it did. -/
def fnExactCountWinningSpec : ChangeSpec := { name := "fnExactCountWinning", fn := fun _ => fun
  | [d] => { results := [.lit (.bool true)], args := [d] }
  | _ => none }
def fnExactCountWinningRow : OpenClaim := { program := "ytooepccceajakaa", sum := "19deddc1f543486f3a3ab55c42f9753f08e256acae35ee63caf8a10ae6de3500", func := "loop.example/g01275/laws.FnExactCountWinning", spec := "fnExactCountWinning", unfollowed := true, recurses := true, apart := false }
def FnExactCountWinningSaid : Prop := fnExactCountWinningRow.holds Try.pinned (OpenSpec.ofChange fnExactCountWinningSpec)

/-- ITS FALSE NEIGHBOUR: 'it returns false'. Refute it at one input. -/
def fnExactCountWinningWrong : ChangeSpec := { name := "fnExactCountWinning", fn := fun _ => fun
  | [d] => { results := [.lit (.bool false)], args := [d] }
  | _ => none }
def FnExactCountWinningWrongFalsely : Prop := fnExactCountWinningRow.holds Try.pinned (OpenSpec.ofChange fnExactCountWinningWrong)

/-- 'laws.FnExactIsBlocking': WHATEVER THE INPUT: true; the input reads as it did. -/
def fnExactIsBlockingSpec : ChangeSpec := { name := "fnExactIsBlocking", fn := fun _ => fun
  | [d1, d2] => { results := [.lit (.bool true)], args := [d1, d2] }
  | _ => none }
def fnExactIsBlockingRow : OpenClaim := { program := "ytooepccceajakaa", sum := "19deddc1f543486f3a3ab55c42f9753f08e256acae35ee63caf8a10ae6de3500", func := "loop.example/g01275/laws.FnExactIsBlocking", spec := "fnExactIsBlocking", unfollowed := true, recurses := true, apart := false }
def FnExactIsBlockingSaid : Prop := fnExactIsBlockingRow.holds Try.pinned (OpenSpec.ofChange fnExactIsBlockingSpec)

/-- ITS FALSE NEIGHBOUR: 'it returns false'. Refute it at one input. -/
def fnExactIsBlockingWrong : ChangeSpec := { name := "fnExactIsBlocking", fn := fun _ => fun
  | [d1, d2] => { results := [.lit (.bool false)], args := [d1, d2] }
  | _ => none }
def FnExactIsBlockingWrongFalsely : Prop := fnExactIsBlockingRow.holds Try.pinned (OpenSpec.ofChange fnExactIsBlockingWrong)

/-- 'laws.FnExactIsWinning': WHATEVER THE INPUT: true; the input reads as it did. -/
def fnExactIsWinningSpec : ChangeSpec := { name := "fnExactIsWinning", fn := fun _ => fun
  | [d1, d2] => { results := [.lit (.bool true)], args := [d1, d2] }
  | _ => none }
def fnExactIsWinningRow : OpenClaim := { program := "ytooepccceajakaa", sum := "19deddc1f543486f3a3ab55c42f9753f08e256acae35ee63caf8a10ae6de3500", func := "loop.example/g01275/laws.FnExactIsWinning", spec := "fnExactIsWinning", unfollowed := true, recurses := true, apart := false }
def FnExactIsWinningSaid : Prop := fnExactIsWinningRow.holds Try.pinned (OpenSpec.ofChange fnExactIsWinningSpec)

/-- ITS FALSE NEIGHBOUR: 'it returns false'. Refute it at one input. -/
def fnExactIsWinningWrong : ChangeSpec := { name := "fnExactIsWinning", fn := fun _ => fun
  | [d1, d2] => { results := [.lit (.bool false)], args := [d1, d2] }
  | _ => none }
def FnExactIsWinningWrongFalsely : Prop := fnExactIsWinningRow.holds Try.pinned (OpenSpec.ofChange fnExactIsWinningWrong)

/-- 'laws.FnExactWeightOfSet': WHATEVER THE INPUT: true; the input reads as it did. -/
def fnExactWeightOfSetSpec : ChangeSpec := { name := "fnExactWeightOfSet", fn := fun _ => fun
  | [d1, d2] => { results := [.lit (.bool true)], args := [d1, d2] }
  | _ => none }
def fnExactWeightOfSetRow : OpenClaim := { program := "ytooepccceajakaa", sum := "19deddc1f543486f3a3ab55c42f9753f08e256acae35ee63caf8a10ae6de3500", func := "loop.example/g01275/laws.FnExactWeightOfSet", spec := "fnExactWeightOfSet", unfollowed := true, recurses := true, apart := false }
def FnExactWeightOfSetSaid : Prop := fnExactWeightOfSetRow.holds Try.pinned (OpenSpec.ofChange fnExactWeightOfSetSpec)

/-- ITS FALSE NEIGHBOUR: 'it returns false'. Refute it at one input. -/
def fnExactWeightOfSetWrong : ChangeSpec := { name := "fnExactWeightOfSet", fn := fun _ => fun
  | [d1, d2] => { results := [.lit (.bool false)], args := [d1, d2] }
  | _ => none }
def FnExactWeightOfSetWrongFalsely : Prop := fnExactWeightOfSetRow.holds Try.pinned (OpenSpec.ofChange fnExactWeightOfSetWrong)

/-- 'laws.FnExactVetoMembers': WHATEVER THE INPUT: true; the input reads as it did. -/
def fnExactVetoMembersSpec : ChangeSpec := { name := "fnExactVetoMembers", fn := fun _ => fun
  | [d] => { results := [.lit (.bool true)], args := [d] }
  | _ => none }
def fnExactVetoMembersRow : OpenClaim := { program := "ytooepccceajakaa", sum := "19deddc1f543486f3a3ab55c42f9753f08e256acae35ee63caf8a10ae6de3500", func := "loop.example/g01275/laws.FnExactVetoMembers", spec := "fnExactVetoMembers", unfollowed := true, recurses := true, apart := false }
def FnExactVetoMembersSaid : Prop := fnExactVetoMembersRow.holds Try.pinned (OpenSpec.ofChange fnExactVetoMembersSpec)

/-- ITS FALSE NEIGHBOUR: 'it returns false'. Refute it at one input. -/
def fnExactVetoMembersWrong : ChangeSpec := { name := "fnExactVetoMembers", fn := fun _ => fun
  | [d] => { results := [.lit (.bool false)], args := [d] }
  | _ => none }
def FnExactVetoMembersWrongFalsely : Prop := fnExactVetoMembersRow.holds Try.pinned (OpenSpec.ofChange fnExactVetoMembersWrong)

/-- 'laws.FnExactAreSameVotes': WHATEVER THE INPUT: true; the input reads as it did. -/
def fnExactAreSameVotesSpec : ChangeSpec := { name := "fnExactAreSameVotes", fn := fun _ => fun
  | [d1, d2] => { results := [.lit (.bool true)], args := [d1, d2] }
  | _ => none }
def fnExactAreSameVotesRow : OpenClaim := { program := "ytooepccceajakaa", sum := "19deddc1f543486f3a3ab55c42f9753f08e256acae35ee63caf8a10ae6de3500", func := "loop.example/g01275/laws.FnExactAreSameVotes", spec := "fnExactAreSameVotes", unfollowed := true, recurses := true, apart := false }
def FnExactAreSameVotesSaid : Prop := fnExactAreSameVotesRow.holds Try.pinned (OpenSpec.ofChange fnExactAreSameVotesSpec)

/-- ITS FALSE NEIGHBOUR: 'it returns false'. Refute it at one input. -/
def fnExactAreSameVotesWrong : ChangeSpec := { name := "fnExactAreSameVotes", fn := fun _ => fun
  | [d1, d2] => { results := [.lit (.bool false)], args := [d1, d2] }
  | _ => none }
def FnExactAreSameVotesWrongFalsely : Prop := fnExactAreSameVotesRow.holds Try.pinned (OpenSpec.ofChange fnExactAreSameVotesWrong)

/-- 'laws.FnExactDropMember': WHATEVER THE INPUT: true; the input reads as it did. -/
def fnExactDropMemberSpec : ChangeSpec := { name := "fnExactDropMember", fn := fun _ => fun
  | [d1, d2] => { results := [.lit (.bool true)], args := [d1, d2] }
  | _ => none }
def fnExactDropMemberRow : OpenClaim := { program := "ytooepccceajakaa", sum := "19deddc1f543486f3a3ab55c42f9753f08e256acae35ee63caf8a10ae6de3500", func := "loop.example/g01275/laws.FnExactDropMember", spec := "fnExactDropMember", unfollowed := true, recurses := true, apart := false }
def FnExactDropMemberSaid : Prop := fnExactDropMemberRow.holds Try.pinned (OpenSpec.ofChange fnExactDropMemberSpec)

/-- ITS FALSE NEIGHBOUR: 'it returns false'. Refute it at one input. -/
def fnExactDropMemberWrong : ChangeSpec := { name := "fnExactDropMember", fn := fun _ => fun
  | [d1, d2] => { results := [.lit (.bool false)], args := [d1, d2] }
  | _ => none }
def FnExactDropMemberWrongFalsely : Prop := fnExactDropMemberRow.holds Try.pinned (OpenSpec.ofChange fnExactDropMemberWrong)

/- THE SECOND FORM. 'bulk': how many values and letters a reading holds, each counted each time it is reached (what is shared counts as often as it is met; a slice's spare places count too). A statement '..UptoSaid' is the law's where the arguments, and the package variables that the reading takes, are together of bulk at most 1048576: NARROWER than '..Said'. Prove '..Said' where nothing that the law and all that it calls make is longer than what came in: it says more and counts as full. Else prove '..UptoSaid'. A law counts once. -/
mutual
def uptoBulk {H : Type} : DataW H → Nat
  | .lit (.string bytes) => bytes.length + 1
  | .lit _ => 1
  | .nil => 1
  | .ptr d => uptoBulk d + 1
  | .slice elems spare => uptoBulkAll elems + uptoBulkAll spare + 1
  | .agg parts => uptoBulkAll parts + 1
  | .iface _ d => uptoBulk d + 1
  | .map entries => uptoBulkEntries entries + 1
  | .held _ => 1
def uptoBulkAll {H : Type} : List (DataW H) → Nat
  | [] => 0
  | d :: r => uptoBulk d + uptoBulkAll r
def uptoBulkEntries {H : Type} : List (Lit × DataW H) → Nat
  | [] => 0
  | x :: r => uptoBulkEntry x + uptoBulkEntries r
def uptoBulkEntry {H : Type} : Lit × DataW H → Nat
  | (.string bytes, d) => bytes.length + uptoBulk d + 1
  | (_, d) => uptoBulk d + 1
 end
def uptoSmall : (H : Type) → List (DataW H) → Bool := fun _ ds => decide (uptoBulkAll ds ≤ 1048576)
def OpenSpec.upto (s : _root_.Go.ChangeSpec) : _root_.Go.OpenSpec := { _root_.Go.OpenSpec.ofChange s with cond := some uptoSmall }

/-- 'laws.FnExactDictatorOf', WHERE WHAT IT READS IS OF BULK AT MOST 1048576: true; the input reads as it did. -/
def fnExactDictatorOfUptoRow : OpenClaim := { program := "ytooepccceajakaa", sum := "19deddc1f543486f3a3ab55c42f9753f08e256acae35ee63caf8a10ae6de3500", func := "loop.example/g01275/laws.FnExactDictatorOf", spec := "fnExactDictatorOf", unfollowed := true, recurses := true, apart := false, narrowed := true }
def FnExactDictatorOfUptoSaid : Prop := fnExactDictatorOfUptoRow.holds Try.pinned (OpenSpec.upto fnExactDictatorOfSpec)

/-- 'laws.FnExactVetoQuotas', WHERE WHAT IT READS IS OF BULK AT MOST 1048576: true; the input reads as it did. -/
def fnExactVetoQuotasUptoRow : OpenClaim := { program := "ytooepccceajakaa", sum := "19deddc1f543486f3a3ab55c42f9753f08e256acae35ee63caf8a10ae6de3500", func := "loop.example/g01275/laws.FnExactVetoQuotas", spec := "fnExactVetoQuotas", unfollowed := true, recurses := true, apart := false, narrowed := true }
def FnExactVetoQuotasUptoSaid : Prop := fnExactVetoQuotasUptoRow.holds Try.pinned (OpenSpec.upto fnExactVetoQuotasSpec)

/-- 'laws.FnExactDualCommittee', WHERE WHAT IT READS IS OF BULK AT MOST 1048576: true; the input reads as it did. -/
def fnExactDualCommitteeUptoRow : OpenClaim := { program := "ytooepccceajakaa", sum := "19deddc1f543486f3a3ab55c42f9753f08e256acae35ee63caf8a10ae6de3500", func := "loop.example/g01275/laws.FnExactDualCommittee", spec := "fnExactDualCommittee", unfollowed := true, recurses := true, apart := false, narrowed := true }
def FnExactDualCommitteeUptoSaid : Prop := fnExactDualCommitteeUptoRow.holds Try.pinned (OpenSpec.upto fnExactDualCommitteeSpec)

/-- 'laws.FnExactIsProper', WHERE WHAT IT READS IS OF BULK AT MOST 1048576: true; the input reads as it did. -/
def fnExactIsProperUptoRow : OpenClaim := { program := "ytooepccceajakaa", sum := "19deddc1f543486f3a3ab55c42f9753f08e256acae35ee63caf8a10ae6de3500", func := "loop.example/g01275/laws.FnExactIsProper", spec := "fnExactIsProper", unfollowed := true, recurses := true, apart := false, narrowed := true }
def FnExactIsProperUptoSaid : Prop := fnExactIsProperUptoRow.holds Try.pinned (OpenSpec.upto fnExactIsProperSpec)

/-- 'laws.FnExactIsStrong', WHERE WHAT IT READS IS OF BULK AT MOST 1048576: true; the input reads as it did. -/
def fnExactIsStrongUptoRow : OpenClaim := { program := "ytooepccceajakaa", sum := "19deddc1f543486f3a3ab55c42f9753f08e256acae35ee63caf8a10ae6de3500", func := "loop.example/g01275/laws.FnExactIsStrong", spec := "fnExactIsStrong", unfollowed := true, recurses := true, apart := false, narrowed := true }
def FnExactIsStrongUptoSaid : Prop := fnExactIsStrongUptoRow.holds Try.pinned (OpenSpec.upto fnExactIsStrongSpec)

/-- 'laws.FnExactCountWinning', WHERE WHAT IT READS IS OF BULK AT MOST 1048576: true; the input reads as it did. -/
def fnExactCountWinningUptoRow : OpenClaim := { program := "ytooepccceajakaa", sum := "19deddc1f543486f3a3ab55c42f9753f08e256acae35ee63caf8a10ae6de3500", func := "loop.example/g01275/laws.FnExactCountWinning", spec := "fnExactCountWinning", unfollowed := true, recurses := true, apart := false, narrowed := true }
def FnExactCountWinningUptoSaid : Prop := fnExactCountWinningUptoRow.holds Try.pinned (OpenSpec.upto fnExactCountWinningSpec)

/-- 'laws.FnExactIsBlocking', WHERE WHAT IT READS IS OF BULK AT MOST 1048576: true; the input reads as it did. -/
def fnExactIsBlockingUptoRow : OpenClaim := { program := "ytooepccceajakaa", sum := "19deddc1f543486f3a3ab55c42f9753f08e256acae35ee63caf8a10ae6de3500", func := "loop.example/g01275/laws.FnExactIsBlocking", spec := "fnExactIsBlocking", unfollowed := true, recurses := true, apart := false, narrowed := true }
def FnExactIsBlockingUptoSaid : Prop := fnExactIsBlockingUptoRow.holds Try.pinned (OpenSpec.upto fnExactIsBlockingSpec)

/-- 'laws.FnExactIsWinning', WHERE WHAT IT READS IS OF BULK AT MOST 1048576: true; the input reads as it did. -/
def fnExactIsWinningUptoRow : OpenClaim := { program := "ytooepccceajakaa", sum := "19deddc1f543486f3a3ab55c42f9753f08e256acae35ee63caf8a10ae6de3500", func := "loop.example/g01275/laws.FnExactIsWinning", spec := "fnExactIsWinning", unfollowed := true, recurses := true, apart := false, narrowed := true }
def FnExactIsWinningUptoSaid : Prop := fnExactIsWinningUptoRow.holds Try.pinned (OpenSpec.upto fnExactIsWinningSpec)

/-- 'laws.FnExactWeightOfSet', WHERE WHAT IT READS IS OF BULK AT MOST 1048576: true; the input reads as it did. -/
def fnExactWeightOfSetUptoRow : OpenClaim := { program := "ytooepccceajakaa", sum := "19deddc1f543486f3a3ab55c42f9753f08e256acae35ee63caf8a10ae6de3500", func := "loop.example/g01275/laws.FnExactWeightOfSet", spec := "fnExactWeightOfSet", unfollowed := true, recurses := true, apart := false, narrowed := true }
def FnExactWeightOfSetUptoSaid : Prop := fnExactWeightOfSetUptoRow.holds Try.pinned (OpenSpec.upto fnExactWeightOfSetSpec)

/-- 'laws.FnExactVetoMembers', WHERE WHAT IT READS IS OF BULK AT MOST 1048576: true; the input reads as it did. -/
def fnExactVetoMembersUptoRow : OpenClaim := { program := "ytooepccceajakaa", sum := "19deddc1f543486f3a3ab55c42f9753f08e256acae35ee63caf8a10ae6de3500", func := "loop.example/g01275/laws.FnExactVetoMembers", spec := "fnExactVetoMembers", unfollowed := true, recurses := true, apart := false, narrowed := true }
def FnExactVetoMembersUptoSaid : Prop := fnExactVetoMembersUptoRow.holds Try.pinned (OpenSpec.upto fnExactVetoMembersSpec)

/-- 'laws.FnExactAreSameVotes', WHERE WHAT IT READS IS OF BULK AT MOST 1048576: true; the input reads as it did. -/
def fnExactAreSameVotesUptoRow : OpenClaim := { program := "ytooepccceajakaa", sum := "19deddc1f543486f3a3ab55c42f9753f08e256acae35ee63caf8a10ae6de3500", func := "loop.example/g01275/laws.FnExactAreSameVotes", spec := "fnExactAreSameVotes", unfollowed := true, recurses := true, apart := false, narrowed := true }
def FnExactAreSameVotesUptoSaid : Prop := fnExactAreSameVotesUptoRow.holds Try.pinned (OpenSpec.upto fnExactAreSameVotesSpec)

/-- 'laws.FnExactDropMember', WHERE WHAT IT READS IS OF BULK AT MOST 1048576: true; the input reads as it did. -/
def fnExactDropMemberUptoRow : OpenClaim := { program := "ytooepccceajakaa", sum := "19deddc1f543486f3a3ab55c42f9753f08e256acae35ee63caf8a10ae6de3500", func := "loop.example/g01275/laws.FnExactDropMember", spec := "fnExactDropMember", unfollowed := true, recurses := true, apart := false, narrowed := true }
def FnExactDropMemberUptoSaid : Prop := fnExactDropMemberUptoRow.holds Try.pinned (OpenSpec.upto fnExactDropMemberSpec)

end Rows
end Go.Proofs.Ytooepccceajakaa
