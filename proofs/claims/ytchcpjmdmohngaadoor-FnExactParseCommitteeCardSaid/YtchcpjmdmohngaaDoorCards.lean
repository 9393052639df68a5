/-
  DERIVED. GIVEN WITH THE SEED: THE CARDS: each row of YtchcpjmdmohngaaDoorRows.lean that lists a variable, with what it lists TIED to the program's text (the seventh form; the later family's looks); each row that meets fmt, with fmt's text TOLD by the authors' own Lean function (tested against real Go, not proved from fmt's source: count such statements apart). THE CARD IS WHAT COUNTS. Prove the row's statement (the work); the ties are given (YtchcpjmdmohngaaDoorTie.lean); close each card by the builder's one call (the guide's Derived/Test/ToyasCard.lean, 'card_holds'). Laid BY PROGRAM, IN A SANDBOX (cutbox-door.mjs). By AI agents, Wed Nov 11 2026. No macro, syntax, notation, axiom, sorry.
-/
import Derived.Test.YtchcpjmdmohngaaDoorRows
import GoSem.ClaimSeven
namespace Go.Proofs.YtchcpjmdmohngaaDoor
namespace Rows

/-- THE TIED CARD OF 'laws.FnExactCommitteeText'. -/
def fnExactCommitteeTextCard : Claim7 := { stood := { row := fnExactCommitteeTextRow, standIns := [], harness := (true, "b5bd91b5930a72669a66a453b5e2289dba74fcfdec26010b7bcc096aad37b025"), looks := true }, kinds := [], alts := [], laidByText := true, laidKinds := [.data, .data, .data], laidTests := true, laidLooks := .later }
def FnExactCommitteeTextCardSaid : Prop := Claim7.holds Tryd.pinned (.plain (OpenSpec.ofChange fnExactCommitteeTextSpec)) fnExactCommitteeTextCard

/-- THE TIED CARD OF 'laws.FnExactParseCommittee'. -/
def fnExactParseCommitteeCard : Claim7 := { stood := { row := fnExactParseCommitteeRow, standIns := [], harness := (true, "b5bd91b5930a72669a66a453b5e2289dba74fcfdec26010b7bcc096aad37b025"), looks := true }, kinds := [], alts := [], laidByText := true, laidKinds := [.data, .data, .data, .data, .sentinel, .sentinel, .pinned], laidTests := true, laidLooks := .later }
def FnExactParseCommitteeCardSaid : Prop := Claim7.holds Tryd.pinned (.plain (OpenSpec.ofChange fnExactParseCommitteeSpec)) fnExactParseCommitteeCard

/-- THE SECOND FORM's CARD OF 'laws.FnExactCommitteeText'. -/
def fnExactCommitteeTextUptoCard : Claim7 := { stood := { row := fnExactCommitteeTextUptoRow, standIns := [], harness := (true, "b5bd91b5930a72669a66a453b5e2289dba74fcfdec26010b7bcc096aad37b025"), looks := true }, kinds := [], alts := [], laidByText := true, laidKinds := [.data, .data, .data], laidTests := true, laidLooks := .later }
def FnExactCommitteeTextUptoCardSaid : Prop := Claim7.holds Tryd.pinned (.plain (OpenSpec.upto fnExactCommitteeTextSpec)) fnExactCommitteeTextUptoCard

/-- THE SECOND FORM's CARD OF 'laws.FnExactParseCommittee'. -/
def fnExactParseCommitteeUptoCard : Claim7 := { stood := { row := fnExactParseCommitteeUptoRow, standIns := [], harness := (true, "b5bd91b5930a72669a66a453b5e2289dba74fcfdec26010b7bcc096aad37b025"), looks := true }, kinds := [], alts := [], laidByText := true, laidKinds := [.data, .data, .data, .data, .sentinel, .sentinel, .pinned], laidTests := true, laidLooks := .later }
def FnExactParseCommitteeUptoCardSaid : Prop := Claim7.holds Tryd.pinned (.plain (OpenSpec.upto fnExactParseCommitteeSpec)) fnExactParseCommitteeUptoCard
end Rows
end Go.Proofs.YtchcpjmdmohngaaDoor
