/-
  DERIVED. GIVEN WITH THE SEED: THE CARDS: each row of YtdnbefdedopmkaaGreatDoorRows.lean that lists a variable, with what it lists TIED to the program's text (the seventh form; the later family's looks); each row that meets fmt, with fmt's text TOLD by the authors' own Lean function (tested against real Go, not proved from fmt's source: count such statements apart). THE CARD IS WHAT COUNTS. Prove the row's statement (the work); the ties are given (YtdnbefdedopmkaaGreatDoorTie.lean); close each card by the builder's one call (the guide's Derived/Test/ToyasCard.lean, 'card_holds'). Laid BY PROGRAM, IN A SANDBOX (cutbox-door.mjs). By AI agents, Wed Nov 11 2026. No macro, syntax, notation, axiom, sorry.
-/
import Derived.Test.YtdnbefdedopmkaaGreatDoorRows
import GoSem.ClaimSeven
namespace Go.Proofs.YtdnbefdedopmkaaGreatDoor
namespace Rows

/-- THE TIED CARD OF 'estuarylaw27.GossipNil'. -/
def gossipNilCard : Claim7 := { stood := { row := gossipNilRow, standIns := [], harness := (true, "3bd484fca6a8bbf7e63295c93e2cdcbea622590fdd3ad36ea5fef315d407010e"), looks := true }, kinds := [], alts := [], goes := true, laidByText := true, laidKinds := [.data, .data, .widerDeep, .widerDeep, .data, .data, .data, .data, .data, .data, .sentinel, .sentinel, .data, .data, .pinned, .pinned, .pinned], laidTests := true, laidLooks := .later }
def GossipNilCardSaid : Prop := Claim7.holds Tryz.pinned (.plain (OpenSpec.ofChange gossipNilSpec)) gossipNilCard
end Rows
end Go.Proofs.YtdnbefdedopmkaaGreatDoor
