/-
  DERIVED. GIVEN WITH THE SEED: THE CARDS: each row of YtjnpfkjplpkfjaaDoorRows.lean that lists a variable, with what it lists TIED to the program's text (the seventh form; the later family's looks); each row that meets fmt, with fmt's text TOLD by the authors' own Lean function (tested against real Go, not proved from fmt's source: count such statements apart). THE CARD IS WHAT COUNTS. Prove the row's statement (the work); the ties are given (YtjnpfkjplpkfjaaDoorTie.lean); close each card by the builder's one call (the guide's Derived/Test/ToyasCard.lean, 'card_holds'). Laid BY PROGRAM, IN A SANDBOX (cutbox-door.mjs). By AI agents, Wed Nov 11 2026. No macro, syntax, notation, axiom, sorry.
-/
import Derived.Test.YtjnpfkjplpkfjaaDoorRows
import GoSem.ClaimSeven
namespace Go.Proofs.YtjnpfkjplpkfjaaDoor
namespace Rows

/-- THE TIED CARD OF 'custodylaw06.TagsPrint'. -/
def tagsPrintCard : Claim7 := { stood := { row := tagsPrintRow, standIns := [], harness := (true, "32af8c1ce02a18657b2e270601513b6f299974ac7f97ec0f6357781f706c9ef7"), looks := true }, kinds := [], alts := [], laidByText := true, laidKinds := [.handle], laidTests := true, laidLooks := .later }
def TagsPrintCardSaid : Prop := Claim7.holds Tryd.pinned (.plain (OpenSpec.ofChange tagsPrintSpec)) tagsPrintCard

/-- THE SECOND FORM's CARD OF 'custodylaw06.TagsPrint'. -/
def tagsPrintUptoCard : Claim7 := { stood := { row := tagsPrintUptoRow, standIns := [], harness := (true, "32af8c1ce02a18657b2e270601513b6f299974ac7f97ec0f6357781f706c9ef7"), looks := true }, kinds := [], alts := [], laidByText := true, laidKinds := [.handle], laidTests := true, laidLooks := .later }
def TagsPrintUptoCardSaid : Prop := Claim7.holds Tryd.pinned (.plain (OpenSpec.upto tagsPrintSpec)) tagsPrintUptoCard
end Rows
end Go.Proofs.YtjnpfkjplpkfjaaDoor
