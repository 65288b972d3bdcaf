/-
  DERIVED. GIVEN WITH THE SEED: THE CARDS: each row of YtondmmoabmhpfaaDoorRows.lean that lists a variable, with what it lists TIED to the program's text (the seventh form; the later family's looks); each row that meets fmt, with fmt's text TOLD by the authors' own Lean function (tested against real Go, not proved from fmt's source: count such statements apart). THE CARD IS WHAT COUNTS. Prove the row's statement (the work); the ties are given (YtondmmoabmhpfaaDoorTie.lean); close each card by the builder's one call (the guide's Derived/Test/ToyasCard.lean, 'card_holds'). Laid BY PROGRAM, IN A SANDBOX (cutbox-door.mjs). By AI agents, Wed Nov 11 2026. No macro, syntax, notation, axiom, sorry.
-/
import Derived.Test.YtondmmoabmhpfaaDoorRows
import GoSem.ClaimSeven
namespace Go.Proofs.YtondmmoabmhpfaaDoor
namespace Rows

/-- THE TIED CARD OF 'dovecotelaw3.PropPlaces'. -/
def propPlacesCard : Claim7 := { stood := { row := propPlacesRow, standIns := [], harness := (true, "01f8773196ab06baf79a4e0f0e5ad70f7942f29a5418a04967f1058825dda6ce"), looks := true }, kinds := [], alts := [], laidByText := true, laidKinds := [.data, .handle, .pinned], laidTests := true, laidLooks := .later }
def PropPlacesCardSaid : Prop := Claim7.holds Tryd.pinned (.plain (OpenSpec.ofChange propPlacesSpec)) propPlacesCard

/-- THE TIED CARD OF 'dovecotelaw3.PropNumbers'. -/
def propNumbersCard : Claim7 := { stood := { row := propNumbersRow, standIns := [], harness := (true, "01f8773196ab06baf79a4e0f0e5ad70f7942f29a5418a04967f1058825dda6ce"), looks := true }, kinds := [], alts := [], laidByText := true, laidKinds := [.data, .handle, .pinned], laidTests := true, laidLooks := .later }
def PropNumbersCardSaid : Prop := Claim7.holds Tryd.pinned (.plain (OpenSpec.ofChange propNumbersSpec)) propNumbersCard

/-- THE TIED CARD OF 'dovecotelaw3.PropGets'. -/
def propGetsCard : Claim7 := { stood := { row := propGetsRow, standIns := [], harness := (true, "01f8773196ab06baf79a4e0f0e5ad70f7942f29a5418a04967f1058825dda6ce"), looks := true }, kinds := [], alts := [], laidByText := true, laidKinds := [.data, .handle, .pinned], laidTests := true, laidLooks := .later }
def PropGetsCardSaid : Prop := Claim7.holds Tryd.pinned (.plain (OpenSpec.ofChange propGetsSpec)) propGetsCard

/-- THE TIED CARD OF 'dovecotelaw3.PropBack'. -/
def propBackCard : Claim7 := { stood := { row := propBackRow, standIns := [], harness := (true, "01f8773196ab06baf79a4e0f0e5ad70f7942f29a5418a04967f1058825dda6ce"), looks := true }, kinds := [], alts := [], laidByText := true, laidKinds := [.data, .handle, .pinned], laidTests := true, laidLooks := .later }
def PropBackCardSaid : Prop := Claim7.holds Tryd.pinned (.plain (OpenSpec.ofChange propBackSpec)) propBackCard

/-- THE TIED CARD OF 'dovecotelaw3.PropUsers'. -/
def propUsersCard : Claim7 := { stood := { row := propUsersRow, standIns := [], harness := (true, "01f8773196ab06baf79a4e0f0e5ad70f7942f29a5418a04967f1058825dda6ce"), looks := true }, kinds := [], alts := [], laidByText := true, laidKinds := [.data, .handle, .pinned], laidTests := true, laidLooks := .later }
def PropUsersCardSaid : Prop := Claim7.holds Tryd.pinned (.plain (OpenSpec.ofChange propUsersSpec)) propUsersCard

/-- THE SECOND FORM's CARD OF 'dovecotelaw3.PropPlaces'. -/
def propPlacesUptoCard : Claim7 := { stood := { row := propPlacesUptoRow, standIns := [], harness := (true, "01f8773196ab06baf79a4e0f0e5ad70f7942f29a5418a04967f1058825dda6ce"), looks := true }, kinds := [], alts := [], laidByText := true, laidKinds := [.data, .handle, .pinned], laidTests := true, laidLooks := .later }
def PropPlacesUptoCardSaid : Prop := Claim7.holds Tryd.pinned (.plain (OpenSpec.upto propPlacesSpec)) propPlacesUptoCard

/-- THE SECOND FORM's CARD OF 'dovecotelaw3.PropNumbers'. -/
def propNumbersUptoCard : Claim7 := { stood := { row := propNumbersUptoRow, standIns := [], harness := (true, "01f8773196ab06baf79a4e0f0e5ad70f7942f29a5418a04967f1058825dda6ce"), looks := true }, kinds := [], alts := [], laidByText := true, laidKinds := [.data, .handle, .pinned], laidTests := true, laidLooks := .later }
def PropNumbersUptoCardSaid : Prop := Claim7.holds Tryd.pinned (.plain (OpenSpec.upto propNumbersSpec)) propNumbersUptoCard

/-- THE SECOND FORM's CARD OF 'dovecotelaw3.PropGets'. -/
def propGetsUptoCard : Claim7 := { stood := { row := propGetsUptoRow, standIns := [], harness := (true, "01f8773196ab06baf79a4e0f0e5ad70f7942f29a5418a04967f1058825dda6ce"), looks := true }, kinds := [], alts := [], laidByText := true, laidKinds := [.data, .handle, .pinned], laidTests := true, laidLooks := .later }
def PropGetsUptoCardSaid : Prop := Claim7.holds Tryd.pinned (.plain (OpenSpec.upto propGetsSpec)) propGetsUptoCard

/-- THE SECOND FORM's CARD OF 'dovecotelaw3.PropBack'. -/
def propBackUptoCard : Claim7 := { stood := { row := propBackUptoRow, standIns := [], harness := (true, "01f8773196ab06baf79a4e0f0e5ad70f7942f29a5418a04967f1058825dda6ce"), looks := true }, kinds := [], alts := [], laidByText := true, laidKinds := [.data, .handle, .pinned], laidTests := true, laidLooks := .later }
def PropBackUptoCardSaid : Prop := Claim7.holds Tryd.pinned (.plain (OpenSpec.upto propBackSpec)) propBackUptoCard

/-- THE SECOND FORM's CARD OF 'dovecotelaw3.PropUsers'. -/
def propUsersUptoCard : Claim7 := { stood := { row := propUsersUptoRow, standIns := [], harness := (true, "01f8773196ab06baf79a4e0f0e5ad70f7942f29a5418a04967f1058825dda6ce"), looks := true }, kinds := [], alts := [], laidByText := true, laidKinds := [.data, .handle, .pinned], laidTests := true, laidLooks := .later }
def PropUsersUptoCardSaid : Prop := Claim7.holds Tryd.pinned (.plain (OpenSpec.upto propUsersSpec)) propUsersUptoCard
end Rows
end Go.Proofs.YtondmmoabmhpfaaDoor
