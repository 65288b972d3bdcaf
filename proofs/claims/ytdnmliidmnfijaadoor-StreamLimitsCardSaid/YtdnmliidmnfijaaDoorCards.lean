/-
  DERIVED. GIVEN WITH THE SEED: THE CARDS: each row of YtdnmliidmnfijaaDoorRows.lean that lists a variable, with what it lists TIED to the program's text (the seventh form; the later family's looks); each row that meets fmt, with fmt's text TOLD by the authors' own Lean function (tested against real Go, not proved from fmt's source: count such statements apart). THE CARD IS WHAT COUNTS. Prove the row's statement (the work); the ties are given (YtdnmliidmnfijaaDoorTie.lean); close each card by the builder's one call (the guide's Derived/Test/ToyasCard.lean, 'card_holds'). Laid BY PROGRAM, IN A SANDBOX (cutbox-door.mjs). By AI agents, Wed Nov 11 2026. No macro, syntax, notation, axiom, sorry.
-/
import Derived.Test.YtdnmliidmnfijaaDoorRows
import GoSem.ClaimSeven
namespace Go.Proofs.YtdnmliidmnfijaaDoor
namespace Rows

/-- THE TIED CARD OF 'dovecotelaw5.StreamLimits'. -/
def streamLimitsCard : Claim7 := { stood := { row := streamLimitsRow, standIns := [], harness := (true, "c4f6cad9c071828d481cf0c0a40b782c4f89cf443010018fdead8155e3a83c29"), looks := true }, kinds := [], alts := [], laidByText := true, laidKinds := [.data, .handle, .pinned], laidTests := true, laidLooks := .later }
def StreamLimitsCardSaid : Prop := Claim7.holds Tryd.pinned (.plain (OpenSpec.ofChange streamLimitsSpec)) streamLimitsCard

/-- THE SECOND FORM's CARD OF 'dovecotelaw5.StreamLimits'. -/
def streamLimitsUptoCard : Claim7 := { stood := { row := streamLimitsUptoRow, standIns := [], harness := (true, "c4f6cad9c071828d481cf0c0a40b782c4f89cf443010018fdead8155e3a83c29"), looks := true }, kinds := [], alts := [], laidByText := true, laidKinds := [.data, .handle, .pinned], laidTests := true, laidLooks := .later }
def StreamLimitsUptoCardSaid : Prop := Claim7.holds Tryd.pinned (.plain (OpenSpec.upto streamLimitsSpec)) streamLimitsUptoCard
end Rows
end Go.Proofs.YtdnmliidmnfijaaDoor
