/-
  DERIVED. GIVEN WITH THE SEED: THE CARDS: each row of YtelfiegocdjnoaaDoorRows.lean that lists a variable, with what it lists TIED to the program's text (the seventh form; the later family's looks); each row that meets fmt, with fmt's text TOLD by the authors' own Lean function (tested against real Go, not proved from fmt's source: count such statements apart). THE CARD IS WHAT COUNTS. Prove the row's statement (the work); the ties are given (YtelfiegocdjnoaaDoorTie.lean); close each card by the builder's one call (the guide's Derived/Test/ToyasCard.lean, 'card_holds'). Laid BY PROGRAM, IN A SANDBOX (cutbox-door.mjs). By AI agents, Wed Nov 11 2026. No macro, syntax, notation, axiom, sorry.
-/
import Derived.Test.YtelfiegocdjnoaaDoorRows
import GoSem.ClaimSeven
namespace Go.Proofs.YtelfiegocdjnoaaDoor
namespace Rows

/-- THE TIED CARD OF 'windrowlaw11.ObjectsLast'. -/
def objectsLastCard : Claim7 := { stood := { row := objectsLastRow, standIns := [], harness := (true, "5fc32177c0aefb22ca0d7e37e0f23ae4a4aad0435b38d9dfb33da2bbdb69ab1b"), looks := false }, kinds := [], alts := [], laidByText := true, laidKinds := [.data], laidTests := true, laidLooks := .later }
def ObjectsLastCardSaid : Prop := Claim7.holds Tryd.pinned (.plain (OpenSpec.ofChange objectsLastSpec)) objectsLastCard

/-- THE TIED CARD OF 'windrowlaw11.ObjectsLooks'. -/
def objectsLooksCard : Claim7 := { stood := { row := objectsLooksRow, standIns := [], harness := (true, "5fc32177c0aefb22ca0d7e37e0f23ae4a4aad0435b38d9dfb33da2bbdb69ab1b"), looks := false }, kinds := [], alts := [], laidByText := true, laidKinds := [.data], laidTests := true, laidLooks := .later }
def ObjectsLooksCardSaid : Prop := Claim7.holds Tryd.pinned (.plain (OpenSpec.ofChange objectsLooksSpec)) objectsLooksCard

/-- THE TIED CARD OF 'windrowlaw11.ObjectsField'. -/
def objectsFieldCard : Claim7 := { stood := { row := objectsFieldRow, standIns := [], harness := (true, "5fc32177c0aefb22ca0d7e37e0f23ae4a4aad0435b38d9dfb33da2bbdb69ab1b"), looks := false }, kinds := [], alts := [], laidByText := true, laidKinds := [.data], laidTests := true, laidLooks := .later }
def ObjectsFieldCardSaid : Prop := Claim7.holds Tryd.pinned (.plain (OpenSpec.ofChange objectsFieldSpec)) objectsFieldCard

/-- THE TIED CARD OF 'windrowlaw11.ObjectsBack'. -/
def objectsBackCard : Claim7 := { stood := { row := objectsBackRow, standIns := [], harness := (true, "5fc32177c0aefb22ca0d7e37e0f23ae4a4aad0435b38d9dfb33da2bbdb69ab1b"), looks := false }, kinds := [], alts := [], laidByText := true, laidKinds := [.data], laidTests := true, laidLooks := .later }
def ObjectsBackCardSaid : Prop := Claim7.holds Tryd.pinned (.plain (OpenSpec.ofChange objectsBackSpec)) objectsBackCard

/-- THE TIED CARD OF 'windrowlaw11.ObjectsBuilds'. -/
def objectsBuildsCard : Claim7 := { stood := { row := objectsBuildsRow, standIns := [], harness := (true, "5fc32177c0aefb22ca0d7e37e0f23ae4a4aad0435b38d9dfb33da2bbdb69ab1b"), looks := false }, kinds := [], alts := [], laidByText := true, laidKinds := [.data], laidTests := true, laidLooks := .later }
def ObjectsBuildsCardSaid : Prop := Claim7.holds Tryd.pinned (.plain (OpenSpec.ofChange objectsBuildsSpec)) objectsBuildsCard

/-- THE TIED CARD OF 'windrowlaw11.ObjectsAll'. -/
def objectsAllCard : Claim7 := { stood := { row := objectsAllRow, standIns := [], harness := (true, "5fc32177c0aefb22ca0d7e37e0f23ae4a4aad0435b38d9dfb33da2bbdb69ab1b"), looks := false }, kinds := [], alts := [], laidByText := true, laidKinds := [.data, .data], laidTests := true, laidLooks := .later }
def ObjectsAllCardSaid : Prop := Claim7.holds Tryd.pinned (.plain (OpenSpec.ofChange objectsAllSpec)) objectsAllCard

/-- THE TIED CARD OF 'windrowlaw09.PagesNone'. -/
def pagesNoneCard : Claim7 := { stood := { row := pagesNoneRow, standIns := [], harness := (true, "5fc32177c0aefb22ca0d7e37e0f23ae4a4aad0435b38d9dfb33da2bbdb69ab1b"), looks := false }, kinds := [], alts := [], laidByText := true, laidKinds := [.data], laidTests := true, laidLooks := .later }
def PagesNoneCardSaid : Prop := Claim7.holds Tryd.pinned (.plain (OpenSpec.ofChange pagesNoneSpec)) pagesNoneCard

/-- THE TIED CARD OF 'windrowlaw11.ObjectsRefs'. -/
def objectsRefsCard : Claim7 := { stood := { row := objectsRefsRow, standIns := [], harness := (true, "5fc32177c0aefb22ca0d7e37e0f23ae4a4aad0435b38d9dfb33da2bbdb69ab1b"), looks := false }, kinds := [], alts := [], laidByText := true, laidKinds := [.data], laidTests := true, laidLooks := .later }
def ObjectsRefsCardSaid : Prop := Claim7.holds Tryd.pinned (.plain (OpenSpec.ofChange objectsRefsSpec)) objectsRefsCard

/-- THE SECOND FORM's CARD OF 'windrowlaw11.ObjectsLast'. -/
def objectsLastUptoCard : Claim7 := { stood := { row := objectsLastUptoRow, standIns := [], harness := (true, "5fc32177c0aefb22ca0d7e37e0f23ae4a4aad0435b38d9dfb33da2bbdb69ab1b"), looks := false }, kinds := [], alts := [], laidByText := true, laidKinds := [.data], laidTests := true, laidLooks := .later }
def ObjectsLastUptoCardSaid : Prop := Claim7.holds Tryd.pinned (.plain (OpenSpec.upto objectsLastSpec)) objectsLastUptoCard

/-- THE SECOND FORM's CARD OF 'windrowlaw11.ObjectsLooks'. -/
def objectsLooksUptoCard : Claim7 := { stood := { row := objectsLooksUptoRow, standIns := [], harness := (true, "5fc32177c0aefb22ca0d7e37e0f23ae4a4aad0435b38d9dfb33da2bbdb69ab1b"), looks := false }, kinds := [], alts := [], laidByText := true, laidKinds := [.data], laidTests := true, laidLooks := .later }
def ObjectsLooksUptoCardSaid : Prop := Claim7.holds Tryd.pinned (.plain (OpenSpec.upto objectsLooksSpec)) objectsLooksUptoCard

/-- THE SECOND FORM's CARD OF 'windrowlaw11.ObjectsField'. -/
def objectsFieldUptoCard : Claim7 := { stood := { row := objectsFieldUptoRow, standIns := [], harness := (true, "5fc32177c0aefb22ca0d7e37e0f23ae4a4aad0435b38d9dfb33da2bbdb69ab1b"), looks := false }, kinds := [], alts := [], laidByText := true, laidKinds := [.data], laidTests := true, laidLooks := .later }
def ObjectsFieldUptoCardSaid : Prop := Claim7.holds Tryd.pinned (.plain (OpenSpec.upto objectsFieldSpec)) objectsFieldUptoCard

/-- THE SECOND FORM's CARD OF 'windrowlaw11.ObjectsBack'. -/
def objectsBackUptoCard : Claim7 := { stood := { row := objectsBackUptoRow, standIns := [], harness := (true, "5fc32177c0aefb22ca0d7e37e0f23ae4a4aad0435b38d9dfb33da2bbdb69ab1b"), looks := false }, kinds := [], alts := [], laidByText := true, laidKinds := [.data], laidTests := true, laidLooks := .later }
def ObjectsBackUptoCardSaid : Prop := Claim7.holds Tryd.pinned (.plain (OpenSpec.upto objectsBackSpec)) objectsBackUptoCard

/-- THE SECOND FORM's CARD OF 'windrowlaw11.ObjectsBuilds'. -/
def objectsBuildsUptoCard : Claim7 := { stood := { row := objectsBuildsUptoRow, standIns := [], harness := (true, "5fc32177c0aefb22ca0d7e37e0f23ae4a4aad0435b38d9dfb33da2bbdb69ab1b"), looks := false }, kinds := [], alts := [], laidByText := true, laidKinds := [.data], laidTests := true, laidLooks := .later }
def ObjectsBuildsUptoCardSaid : Prop := Claim7.holds Tryd.pinned (.plain (OpenSpec.upto objectsBuildsSpec)) objectsBuildsUptoCard

/-- THE SECOND FORM's CARD OF 'windrowlaw11.ObjectsAll'. -/
def objectsAllUptoCard : Claim7 := { stood := { row := objectsAllUptoRow, standIns := [], harness := (true, "5fc32177c0aefb22ca0d7e37e0f23ae4a4aad0435b38d9dfb33da2bbdb69ab1b"), looks := false }, kinds := [], alts := [], laidByText := true, laidKinds := [.data, .data], laidTests := true, laidLooks := .later }
def ObjectsAllUptoCardSaid : Prop := Claim7.holds Tryd.pinned (.plain (OpenSpec.upto objectsAllSpec)) objectsAllUptoCard

/-- THE SECOND FORM's CARD OF 'windrowlaw09.PagesNone'. -/
def pagesNoneUptoCard : Claim7 := { stood := { row := pagesNoneUptoRow, standIns := [], harness := (true, "5fc32177c0aefb22ca0d7e37e0f23ae4a4aad0435b38d9dfb33da2bbdb69ab1b"), looks := false }, kinds := [], alts := [], laidByText := true, laidKinds := [.data], laidTests := true, laidLooks := .later }
def PagesNoneUptoCardSaid : Prop := Claim7.holds Tryd.pinned (.plain (OpenSpec.upto pagesNoneSpec)) pagesNoneUptoCard

/-- THE SECOND FORM's CARD OF 'windrowlaw11.ObjectsRefs'. -/
def objectsRefsUptoCard : Claim7 := { stood := { row := objectsRefsUptoRow, standIns := [], harness := (true, "5fc32177c0aefb22ca0d7e37e0f23ae4a4aad0435b38d9dfb33da2bbdb69ab1b"), looks := false }, kinds := [], alts := [], laidByText := true, laidKinds := [.data], laidTests := true, laidLooks := .later }
def ObjectsRefsUptoCardSaid : Prop := Claim7.holds Tryd.pinned (.plain (OpenSpec.upto objectsRefsSpec)) objectsRefsUptoCard
end Rows
end Go.Proofs.YtelfiegocdjnoaaDoor
