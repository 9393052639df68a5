/-
  No cell of these rows narrows 'for every input' (looked for: loops, veiled, ifaces, maps, wideKeys, modest, calm, conditions, laid).
  DERIVED. THE GIVEN ROWS OF THIS SEAT. 7 by the template 'for every input the law returns true; each argument reads behind the call as it read before'; 0 by the template 'total and deterministic' (their statements: YtadlpnejkkblfaaTotals.lean).
  GIVEN WITH THE SEED: the statements are not yours to turn. If you find one false, say at which input.
  Laid BY PROGRAM, IN A SANDBOX (cutbox-rows.mjs): the forced cells as the released guide's own fill.sh prints them over the translation 6d90cc009a38bece… (all of the seat's roots in one cut). By AI agents, Wed Nov 11 2026. No macro, syntax, notation, axiom, sorry.
-/
import Derived.Test.YtadlpnejkkblfaaChecked
import GoSem.Claim
import GoSem.ClaimJoined
import GoSem.ClaimMapViews
import Derived.JoinedTies
import Derived.KernelRfl
namespace Go.Proofs.Ytadlpnejkkblfaa
/- THE CELL 'sum', in the pinned program and in every row, IS THE sha256 OF THE DUMP (.gsa) THAT YtadlpnejkkblfaaProg.lean LOADS. Nothing in Lean hashes anything: it is a label: what it is worth is what the hold of that sum in a sandbox is worth. -/
noncomputable def Try.pinned : Pinned := { name := "ytadlpnejkkblfaa", sum := "6d90cc009a38bece3204c8fb9c2eb34dd3befe709a2a49475fde334b449f1d84", checked := Try.checked }
namespace Rows
def none {H : Type} : Left H := { results := [], args := [] }

/-- 'laws.FnExactIsGame': WHATEVER THE INPUT: true; the input reads as it did. -/
def fnExactIsGameSpec : ChangeSpec := { name := "fnExactIsGame", fn := fun _ => fun
  | [d] => { results := [.lit (.bool true)], args := [d] }
  | _ => none }
def fnExactIsGameRow : OpenClaim := { program := "ytadlpnejkkblfaa", sum := "6d90cc009a38bece3204c8fb9c2eb34dd3befe709a2a49475fde334b449f1d84", func := "loop.example/g01275/laws.FnExactIsGame", spec := "fnExactIsGame", unfollowed := true, recurses := true, apart := false }
def FnExactIsGameSaid : Prop := fnExactIsGameRow.holds Try.pinned (OpenSpec.ofChange fnExactIsGameSpec)

/-- ITS FALSE NEIGHBOUR: 'it returns false'. Refute it at one input. -/
def fnExactIsGameWrong : ChangeSpec := { name := "fnExactIsGame", fn := fun _ => fun
  | [d] => { results := [.lit (.bool false)], args := [d] }
  | _ => none }
def FnExactIsGameWrongFalsely : Prop := fnExactIsGameRow.holds Try.pinned (OpenSpec.ofChange fnExactIsGameWrong)

/-- 'laws.FnExactWinsGame': WHATEVER THE INPUT: true; the input reads as it did. -/
def fnExactWinsGameSpec : ChangeSpec := { name := "fnExactWinsGame", fn := fun _ => fun
  | [d1, d2] => { results := [.lit (.bool true)], args := [d1, d2] }
  | _ => none }
def fnExactWinsGameRow : OpenClaim := { program := "ytadlpnejkkblfaa", sum := "6d90cc009a38bece3204c8fb9c2eb34dd3befe709a2a49475fde334b449f1d84", func := "loop.example/g01275/laws.FnExactWinsGame", spec := "fnExactWinsGame", unfollowed := true, recurses := true, apart := false }
def FnExactWinsGameSaid : Prop := fnExactWinsGameRow.holds Try.pinned (OpenSpec.ofChange fnExactWinsGameSpec)

/-- ITS FALSE NEIGHBOUR: 'it returns false'. Refute it at one input. -/
def fnExactWinsGameWrong : ChangeSpec := { name := "fnExactWinsGame", fn := fun _ => fun
  | [d1, d2] => { results := [.lit (.bool false)], args := [d1, d2] }
  | _ => none }
def FnExactWinsGameWrongFalsely : Prop := fnExactWinsGameRow.holds Try.pinned (OpenSpec.ofChange fnExactWinsGameWrong)

/-- 'laws.FnExactIsProperGame': WHATEVER THE INPUT: true; the input reads as it did. -/
def fnExactIsProperGameSpec : ChangeSpec := { name := "fnExactIsProperGame", fn := fun _ => fun
  | [d] => { results := [.lit (.bool true)], args := [d] }
  | _ => none }
def fnExactIsProperGameRow : OpenClaim := { program := "ytadlpnejkkblfaa", sum := "6d90cc009a38bece3204c8fb9c2eb34dd3befe709a2a49475fde334b449f1d84", func := "loop.example/g01275/laws.FnExactIsProperGame", spec := "fnExactIsProperGame", unfollowed := true, recurses := true, apart := false }
def FnExactIsProperGameSaid : Prop := fnExactIsProperGameRow.holds Try.pinned (OpenSpec.ofChange fnExactIsProperGameSpec)

/-- ITS FALSE NEIGHBOUR: 'it returns false'. Refute it at one input. -/
def fnExactIsProperGameWrong : ChangeSpec := { name := "fnExactIsProperGame", fn := fun _ => fun
  | [d] => { results := [.lit (.bool false)], args := [d] }
  | _ => none }
def FnExactIsProperGameWrongFalsely : Prop := fnExactIsProperGameRow.holds Try.pinned (OpenSpec.ofChange fnExactIsProperGameWrong)

/-- 'laws.FnExactCountWins': WHATEVER THE INPUT: true; the input reads as it did. -/
def fnExactCountWinsSpec : ChangeSpec := { name := "fnExactCountWins", fn := fun _ => fun
  | [d] => { results := [.lit (.bool true)], args := [d] }
  | _ => none }
def fnExactCountWinsRow : OpenClaim := { program := "ytadlpnejkkblfaa", sum := "6d90cc009a38bece3204c8fb9c2eb34dd3befe709a2a49475fde334b449f1d84", func := "loop.example/g01275/laws.FnExactCountWins", spec := "fnExactCountWins", unfollowed := true, recurses := true, apart := false }
def FnExactCountWinsSaid : Prop := fnExactCountWinsRow.holds Try.pinned (OpenSpec.ofChange fnExactCountWinsSpec)

/-- ITS FALSE NEIGHBOUR: 'it returns false'. Refute it at one input. -/
def fnExactCountWinsWrong : ChangeSpec := { name := "fnExactCountWins", fn := fun _ => fun
  | [d] => { results := [.lit (.bool false)], args := [d] }
  | _ => none }
def FnExactCountWinsWrongFalsely : Prop := fnExactCountWinsRow.holds Try.pinned (OpenSpec.ofChange fnExactCountWinsWrong)

/-- 'laws.FnExactIsStrongGame': WHATEVER THE INPUT: true; the input reads as it did. -/
def fnExactIsStrongGameSpec : ChangeSpec := { name := "fnExactIsStrongGame", fn := fun _ => fun
  | [d] => { results := [.lit (.bool true)], args := [d] }
  | _ => none }
def fnExactIsStrongGameRow : OpenClaim := { program := "ytadlpnejkkblfaa", sum := "6d90cc009a38bece3204c8fb9c2eb34dd3befe709a2a49475fde334b449f1d84", func := "loop.example/g01275/laws.FnExactIsStrongGame", spec := "fnExactIsStrongGame", unfollowed := true, recurses := true, apart := false }
def FnExactIsStrongGameSaid : Prop := fnExactIsStrongGameRow.holds Try.pinned (OpenSpec.ofChange fnExactIsStrongGameSpec)

/-- ITS FALSE NEIGHBOUR: 'it returns false'. Refute it at one input. -/
def fnExactIsStrongGameWrong : ChangeSpec := { name := "fnExactIsStrongGame", fn := fun _ => fun
  | [d] => { results := [.lit (.bool false)], args := [d] }
  | _ => none }
def FnExactIsStrongGameWrongFalsely : Prop := fnExactIsStrongGameRow.holds Try.pinned (OpenSpec.ofChange fnExactIsStrongGameWrong)

/-- 'laws.FnExactNeededMembers': WHATEVER THE INPUT: true; the input reads as it did. -/
def fnExactNeededMembersSpec : ChangeSpec := { name := "fnExactNeededMembers", fn := fun _ => fun
  | [d] => { results := [.lit (.bool true)], args := [d] }
  | _ => none }
def fnExactNeededMembersRow : OpenClaim := { program := "ytadlpnejkkblfaa", sum := "6d90cc009a38bece3204c8fb9c2eb34dd3befe709a2a49475fde334b449f1d84", func := "loop.example/g01275/laws.FnExactNeededMembers", spec := "fnExactNeededMembers", unfollowed := true, recurses := true, apart := false }
def FnExactNeededMembersSaid : Prop := fnExactNeededMembersRow.holds Try.pinned (OpenSpec.ofChange fnExactNeededMembersSpec)

/-- ITS FALSE NEIGHBOUR: 'it returns false'. Refute it at one input. -/
def fnExactNeededMembersWrong : ChangeSpec := { name := "fnExactNeededMembers", fn := fun _ => fun
  | [d] => { results := [.lit (.bool false)], args := [d] }
  | _ => none }
def FnExactNeededMembersWrongFalsely : Prop := fnExactNeededMembersRow.holds Try.pinned (OpenSpec.ofChange fnExactNeededMembersWrong)

/-- 'laws.FnExactCountGames': WHATEVER THE INPUT: true; the input reads as it did. -/
def fnExactCountGamesSpec : ChangeSpec := { name := "fnExactCountGames", fn := fun _ => fun
  | [d] => { results := [.lit (.bool true)], args := [d] }
  | _ => none }
def fnExactCountGamesRow : OpenClaim := { program := "ytadlpnejkkblfaa", sum := "6d90cc009a38bece3204c8fb9c2eb34dd3befe709a2a49475fde334b449f1d84", func := "loop.example/g01275/laws.FnExactCountGames", spec := "fnExactCountGames", unfollowed := true, recurses := true, apart := false }
def FnExactCountGamesSaid : Prop := fnExactCountGamesRow.holds Try.pinned (OpenSpec.ofChange fnExactCountGamesSpec)

/-- ITS FALSE NEIGHBOUR: 'it returns false'. Refute it at one input. -/
def fnExactCountGamesWrong : ChangeSpec := { name := "fnExactCountGames", fn := fun _ => fun
  | [d] => { results := [.lit (.bool false)], args := [d] }
  | _ => none }
def FnExactCountGamesWrongFalsely : Prop := fnExactCountGamesRow.holds Try.pinned (OpenSpec.ofChange fnExactCountGamesWrong)

/- THE SECOND FORM. 'bulk': how many values and letters a reading holds, each counted each time it is reached (what is shared counts as often as it is met; a slice's spare places count too). A statement '..UptoSaid' is the law's where the arguments, and the package variables that the reading takes, are together of bulk at most 1048576: NARROWER than '..Said'. Prove '..Said' where nothing that the law and all that it calls make is longer than what came in: it says more and counts as full. Else prove '..UptoSaid'. A law counts once. -/
mutual
def uptoBulk {H : Type} : DataW H → Nat
  | .lit (.string bytes) => bytes.length + 1
  | .lit _ => 1
  | .nil => 1
  | .ptr d => uptoBulk d + 1
  | .slice elems spare => uptoBulkAll elems + uptoBulkAll spare + 1
  | .agg parts => uptoBulkAll parts + 1
  | .iface _ d => uptoBulk d + 1
  | .map entries => uptoBulkEntries entries + 1
  | .held _ => 1
def uptoBulkAll {H : Type} : List (DataW H) → Nat
  | [] => 0
  | d :: r => uptoBulk d + uptoBulkAll r
def uptoBulkEntries {H : Type} : List (Lit × DataW H) → Nat
  | [] => 0
  | x :: r => uptoBulkEntry x + uptoBulkEntries r
def uptoBulkEntry {H : Type} : Lit × DataW H → Nat
  | (.string bytes, d) => bytes.length + uptoBulk d + 1
  | (_, d) => uptoBulk d + 1
 end
def uptoSmall : (H : Type) → List (DataW H) → Bool := fun _ ds => decide (uptoBulkAll ds ≤ 1048576)
def OpenSpec.upto (s : _root_.Go.ChangeSpec) : _root_.Go.OpenSpec := { _root_.Go.OpenSpec.ofChange s with cond := some uptoSmall }

/-- 'laws.FnExactIsGame', WHERE WHAT IT READS IS OF BULK AT MOST 1048576: true; the input reads as it did. -/
def fnExactIsGameUptoRow : OpenClaim := { program := "ytadlpnejkkblfaa", sum := "6d90cc009a38bece3204c8fb9c2eb34dd3befe709a2a49475fde334b449f1d84", func := "loop.example/g01275/laws.FnExactIsGame", spec := "fnExactIsGame", unfollowed := true, recurses := true, apart := false, narrowed := true }
def FnExactIsGameUptoSaid : Prop := fnExactIsGameUptoRow.holds Try.pinned (OpenSpec.upto fnExactIsGameSpec)

/-- 'laws.FnExactWinsGame', WHERE WHAT IT READS IS OF BULK AT MOST 1048576: true; the input reads as it did. -/
def fnExactWinsGameUptoRow : OpenClaim := { program := "ytadlpnejkkblfaa", sum := "6d90cc009a38bece3204c8fb9c2eb34dd3befe709a2a49475fde334b449f1d84", func := "loop.example/g01275/laws.FnExactWinsGame", spec := "fnExactWinsGame", unfollowed := true, recurses := true, apart := false, narrowed := true }
def FnExactWinsGameUptoSaid : Prop := fnExactWinsGameUptoRow.holds Try.pinned (OpenSpec.upto fnExactWinsGameSpec)

/-- 'laws.FnExactIsProperGame', WHERE WHAT IT READS IS OF BULK AT MOST 1048576: true; the input reads as it did. -/
def fnExactIsProperGameUptoRow : OpenClaim := { program := "ytadlpnejkkblfaa", sum := "6d90cc009a38bece3204c8fb9c2eb34dd3befe709a2a49475fde334b449f1d84", func := "loop.example/g01275/laws.FnExactIsProperGame", spec := "fnExactIsProperGame", unfollowed := true, recurses := true, apart := false, narrowed := true }
def FnExactIsProperGameUptoSaid : Prop := fnExactIsProperGameUptoRow.holds Try.pinned (OpenSpec.upto fnExactIsProperGameSpec)

/-- 'laws.FnExactCountWins', WHERE WHAT IT READS IS OF BULK AT MOST 1048576: true; the input reads as it did. -/
def fnExactCountWinsUptoRow : OpenClaim := { program := "ytadlpnejkkblfaa", sum := "6d90cc009a38bece3204c8fb9c2eb34dd3befe709a2a49475fde334b449f1d84", func := "loop.example/g01275/laws.FnExactCountWins", spec := "fnExactCountWins", unfollowed := true, recurses := true, apart := false, narrowed := true }
def FnExactCountWinsUptoSaid : Prop := fnExactCountWinsUptoRow.holds Try.pinned (OpenSpec.upto fnExactCountWinsSpec)

/-- 'laws.FnExactIsStrongGame', WHERE WHAT IT READS IS OF BULK AT MOST 1048576: true; the input reads as it did. -/
def fnExactIsStrongGameUptoRow : OpenClaim := { program := "ytadlpnejkkblfaa", sum := "6d90cc009a38bece3204c8fb9c2eb34dd3befe709a2a49475fde334b449f1d84", func := "loop.example/g01275/laws.FnExactIsStrongGame", spec := "fnExactIsStrongGame", unfollowed := true, recurses := true, apart := false, narrowed := true }
def FnExactIsStrongGameUptoSaid : Prop := fnExactIsStrongGameUptoRow.holds Try.pinned (OpenSpec.upto fnExactIsStrongGameSpec)

/-- 'laws.FnExactNeededMembers', WHERE WHAT IT READS IS OF BULK AT MOST 1048576: true; the input reads as it did. -/
def fnExactNeededMembersUptoRow : OpenClaim := { program := "ytadlpnejkkblfaa", sum := "6d90cc009a38bece3204c8fb9c2eb34dd3befe709a2a49475fde334b449f1d84", func := "loop.example/g01275/laws.FnExactNeededMembers", spec := "fnExactNeededMembers", unfollowed := true, recurses := true, apart := false, narrowed := true }
def FnExactNeededMembersUptoSaid : Prop := fnExactNeededMembersUptoRow.holds Try.pinned (OpenSpec.upto fnExactNeededMembersSpec)

/-- 'laws.FnExactCountGames', WHERE WHAT IT READS IS OF BULK AT MOST 1048576: true; the input reads as it did. -/
def fnExactCountGamesUptoRow : OpenClaim := { program := "ytadlpnejkkblfaa", sum := "6d90cc009a38bece3204c8fb9c2eb34dd3befe709a2a49475fde334b449f1d84", func := "loop.example/g01275/laws.FnExactCountGames", spec := "fnExactCountGames", unfollowed := true, recurses := true, apart := false, narrowed := true }
def FnExactCountGamesUptoSaid : Prop := fnExactCountGamesUptoRow.holds Try.pinned (OpenSpec.upto fnExactCountGamesSpec)

end Rows
end Go.Proofs.Ytadlpnejkkblfaa
