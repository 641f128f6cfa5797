/-
  DERIVED. GIVEN WITH THE SEED: THE CARDS: each row of YtimkedfdeghmnaaDoorRows.lean that lists a variable, with what it lists TIED to the program's text (the seventh form; the later family's looks); each row that meets fmt, with fmt's text TOLD by the authors' own Lean function (tested against real Go, not proved from fmt's source: count such statements apart). THE CARD IS WHAT COUNTS. Prove the row's statement (the work); the ties are given (YtimkedfdeghmnaaDoorTie.lean); close each card by the builder's one call (the guide's Derived/Test/ToyasCard.lean, 'card_holds'). Laid BY PROGRAM, IN A SANDBOX (cutbox-door.mjs). By AI agents, Wed Nov 11 2026. No macro, syntax, notation, axiom, sorry.
-/
import Derived.Test.YtimkedfdeghmnaaDoorRows
import GoSem.ClaimSeven
namespace Go.Proofs.YtimkedfdeghmnaaDoor
namespace Rows

/-- THE TIED CARD OF 'overspilllaw14.DctForward'. -/
def dctForwardCard : Claim7 := { stood := { row := dctForwardRow, standIns := [], harness := (true, "d6d73131441fe1d2068efb9938f1c5b635b19ebce847061c7532d0a1dad3a947"), looks := false }, kinds := [], alts := [], laidByText := true, laidKinds := [.data], laidTests := true, laidLooks := .later }
def DctForwardCardSaid : Prop := Claim7.holds Tryd.pinned (.plain (OpenSpec.ofChange dctForwardSpec)) dctForwardCard

/-- THE TIED CARD OF 'overspilllaw14.DctInverse'. -/
def dctInverseCard : Claim7 := { stood := { row := dctInverseRow, standIns := [], harness := (true, "d6d73131441fe1d2068efb9938f1c5b635b19ebce847061c7532d0a1dad3a947"), looks := false }, kinds := [], alts := [], laidByText := true, laidKinds := [.data], laidTests := true, laidLooks := .later }
def DctInverseCardSaid : Prop := Claim7.holds Tryd.pinned (.plain (OpenSpec.ofChange dctInverseSpec)) dctInverseCard

/-- THE TIED CARD OF 'overspilllaw14.DctTurns'. -/
def dctTurnsCard : Claim7 := { stood := { row := dctTurnsRow, standIns := [], harness := (true, "d6d73131441fe1d2068efb9938f1c5b635b19ebce847061c7532d0a1dad3a947"), looks := false }, kinds := [], alts := [], laidByText := true, laidKinds := [.data], laidTests := true, laidLooks := .later }
def DctTurnsCardSaid : Prop := Claim7.holds Tryd.pinned (.plain (OpenSpec.ofChange dctTurnsSpec)) dctTurnsCard

/-- THE TIED CARD OF 'overspilllaw14.DctFlat'. -/
def dctFlatCard : Claim7 := { stood := { row := dctFlatRow, standIns := [], harness := (true, "d6d73131441fe1d2068efb9938f1c5b635b19ebce847061c7532d0a1dad3a947"), looks := false }, kinds := [], alts := [], laidByText := true, laidKinds := [.data], laidTests := true, laidLooks := .later }
def DctFlatCardSaid : Prop := Claim7.holds Tryd.pinned (.plain (OpenSpec.ofChange dctFlatSpec)) dctFlatCard

/-- THE SECOND FORM's CARD OF 'overspilllaw14.DctForward'. -/
def dctForwardUptoCard : Claim7 := { stood := { row := dctForwardUptoRow, standIns := [], harness := (true, "d6d73131441fe1d2068efb9938f1c5b635b19ebce847061c7532d0a1dad3a947"), looks := false }, kinds := [], alts := [], laidByText := true, laidKinds := [.data], laidTests := true, laidLooks := .later }
def DctForwardUptoCardSaid : Prop := Claim7.holds Tryd.pinned (.plain (OpenSpec.upto dctForwardSpec)) dctForwardUptoCard

/-- THE SECOND FORM's CARD OF 'overspilllaw14.DctInverse'. -/
def dctInverseUptoCard : Claim7 := { stood := { row := dctInverseUptoRow, standIns := [], harness := (true, "d6d73131441fe1d2068efb9938f1c5b635b19ebce847061c7532d0a1dad3a947"), looks := false }, kinds := [], alts := [], laidByText := true, laidKinds := [.data], laidTests := true, laidLooks := .later }
def DctInverseUptoCardSaid : Prop := Claim7.holds Tryd.pinned (.plain (OpenSpec.upto dctInverseSpec)) dctInverseUptoCard

/-- THE SECOND FORM's CARD OF 'overspilllaw14.DctTurns'. -/
def dctTurnsUptoCard : Claim7 := { stood := { row := dctTurnsUptoRow, standIns := [], harness := (true, "d6d73131441fe1d2068efb9938f1c5b635b19ebce847061c7532d0a1dad3a947"), looks := false }, kinds := [], alts := [], laidByText := true, laidKinds := [.data], laidTests := true, laidLooks := .later }
def DctTurnsUptoCardSaid : Prop := Claim7.holds Tryd.pinned (.plain (OpenSpec.upto dctTurnsSpec)) dctTurnsUptoCard

/-- THE SECOND FORM's CARD OF 'overspilllaw14.DctFlat'. -/
def dctFlatUptoCard : Claim7 := { stood := { row := dctFlatUptoRow, standIns := [], harness := (true, "d6d73131441fe1d2068efb9938f1c5b635b19ebce847061c7532d0a1dad3a947"), looks := false }, kinds := [], alts := [], laidByText := true, laidKinds := [.data], laidTests := true, laidLooks := .later }
def DctFlatUptoCardSaid : Prop := Claim7.holds Tryd.pinned (.plain (OpenSpec.upto dctFlatSpec)) dctFlatUptoCard
end Rows
end Go.Proofs.YtimkedfdeghmnaaDoor
