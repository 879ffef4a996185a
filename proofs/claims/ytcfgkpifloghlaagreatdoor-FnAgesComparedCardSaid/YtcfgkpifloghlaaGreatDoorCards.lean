/-
  DERIVED. GIVEN WITH THE SEED: THE CARDS: each row of YtcfgkpifloghlaaGreatDoorRows.lean that lists a variable, with what it lists TIED to the program's text (the seventh form; the later family's looks); each row that meets fmt, with fmt's text TOLD by the authors' own Lean function (tested against real Go, not proved from fmt's source: count such statements apart). THE CARD IS WHAT COUNTS. Prove the row's statement (the work); the ties are given (YtcfgkpifloghlaaGreatDoorTie.lean); close each card by the builder's one call (the guide's Derived/Test/ToyasCard.lean, 'card_holds'). Laid BY PROGRAM, IN A SANDBOX (cutbox-door.mjs). By AI agents, Wed Nov 11 2026. No macro, syntax, notation, axiom, sorry.
-/
import Derived.Test.YtcfgkpifloghlaaGreatDoorRows
import GoSem.ClaimSeven
namespace Go.Proofs.YtcfgkpifloghlaaGreatDoor
namespace Rows

/-- THE TIED CARD OF 'laws.FnAgesCompared'. -/
def fnAgesComparedCard : Claim7 := { stood := { row := fnAgesComparedRow, standIns := [], harness := (true, "a1bfe3f17af59588cef804405034b646f3a1805f08a2a7907bde4ed9820abbbc"), looks := true }, kinds := [], alts := [], laidByText := true, laidKinds := [.data, .data, .data, .data, .sentinel, .sentinel, .pinned], laidTests := true, laidLooks := .later }
def FnAgesComparedCardSaid : Prop := Claim7.holds Tryz.pinned (.plain (OpenSpec.ofChange fnAgesComparedSpec)) fnAgesComparedCard

/-- THE SECOND FORM's CARD OF 'laws.FnAgesCompared'. -/
def fnAgesComparedUptoCard : Claim7 := { stood := { row := fnAgesComparedUptoRow, standIns := [], harness := (true, "a1bfe3f17af59588cef804405034b646f3a1805f08a2a7907bde4ed9820abbbc"), looks := true }, kinds := [], alts := [], laidByText := true, laidKinds := [.data, .data, .data, .data, .sentinel, .sentinel, .pinned], laidTests := true, laidLooks := .later }
def FnAgesComparedUptoCardSaid : Prop := Claim7.holds Tryz.pinned (.plain (OpenSpec.upto fnAgesComparedSpec)) fnAgesComparedUptoCard
end Rows
end Go.Proofs.YtcfgkpifloghlaaGreatDoor
