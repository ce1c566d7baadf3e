/-
  DERIVED. GIVEN WITH THE SEED: THE CARDS: each row of YticclennllklpaaDoorRows.lean that lists a variable, with what it lists TIED to the program's text (the seventh form; the later family's looks); each row that meets fmt, with fmt's text TOLD by the authors' own Lean function (tested against real Go, not proved from fmt's source: count such statements apart). THE CARD IS WHAT COUNTS. Prove the row's statement (the work); the ties are given (YticclennllklpaaDoorTie.lean); close each card by the builder's one call (the guide's Derived/Test/ToyasCard.lean, 'card_holds'). Laid BY PROGRAM, IN A SANDBOX (cutbox-door.mjs). By AI agents, Wed Nov 11 2026. No macro, syntax, notation, axiom, sorry.
-/
import Derived.Test.YticclennllklpaaDoorRows
import GoSem.ClaimSeven
namespace Go.Proofs.YticclennllklpaaDoor
namespace Rows

/-- THE TIED CARD OF 'vestibulelaw09.MethodTurns'. -/
def methodTurnsCard : Claim7 := { stood := { row := methodTurnsRow, standIns := [], harness := (true, "3ff3a3056649b89675f90d34c4f6a25e447e974a34056d675bd6f45bd65bed18"), looks := true }, kinds := [], alts := [], laidByText := true, laidKinds := [.data, .pinned], laidTests := true, laidLooks := .later }
def MethodTurnsCardSaid : Prop := Claim7.holds Tryd.pinned (.plain (OpenSpec.ofChange methodTurnsSpec)) methodTurnsCard

/-- THE TIED CARD OF 'vestibulelaw09.MethodAbilities'. -/
def methodAbilitiesCard : Claim7 := { stood := { row := methodAbilitiesRow, standIns := [], harness := (true, "3ff3a3056649b89675f90d34c4f6a25e447e974a34056d675bd6f45bd65bed18"), looks := true }, kinds := [], alts := [], laidByText := true, laidKinds := [.data, .pinned], laidTests := true, laidLooks := .later }
def MethodAbilitiesCardSaid : Prop := Claim7.holds Tryd.pinned (.plain (OpenSpec.ofChange methodAbilitiesSpec)) methodAbilitiesCard

/-- THE TIED CARD OF 'vestibulelaw09.MethodPlays'. -/
def methodPlaysCard : Claim7 := { stood := { row := methodPlaysRow, standIns := [], harness := (true, "3ff3a3056649b89675f90d34c4f6a25e447e974a34056d675bd6f45bd65bed18"), looks := true }, kinds := [], alts := [], laidByText := true, laidKinds := [.data, .pinned], laidTests := true, laidLooks := .later }
def MethodPlaysCardSaid : Prop := Claim7.holds Tryd.pinned (.plain (OpenSpec.ofChange methodPlaysSpec)) methodPlaysCard

/-- THE TIED CARD OF 'vestibulelaw09.MethodRanges'. -/
def methodRangesCard : Claim7 := { stood := { row := methodRangesRow, standIns := [], harness := (true, "3ff3a3056649b89675f90d34c4f6a25e447e974a34056d675bd6f45bd65bed18"), looks := true }, kinds := [], alts := [], laidByText := true, laidKinds := [.data, .pinned], laidTests := true, laidLooks := .later }
def MethodRangesCardSaid : Prop := Claim7.holds Tryd.pinned (.plain (OpenSpec.ofChange methodRangesSpec)) methodRangesCard

/-- THE TIED CARD OF 'vestibulelaw09.MethodHalves'. -/
def methodHalvesCard : Claim7 := { stood := { row := methodHalvesRow, standIns := [], harness := (true, "3ff3a3056649b89675f90d34c4f6a25e447e974a34056d675bd6f45bd65bed18"), looks := true }, kinds := [], alts := [], laidByText := true, laidKinds := [.data, .pinned], laidTests := true, laidLooks := .later }
def MethodHalvesCardSaid : Prop := Claim7.holds Tryd.pinned (.plain (OpenSpec.ofChange methodHalvesSpec)) methodHalvesCard

/-- THE TIED CARD OF 'vestibulelaw09.MethodNobody'. -/
def methodNobodyCard : Claim7 := { stood := { row := methodNobodyRow, standIns := [], harness := (true, "3ff3a3056649b89675f90d34c4f6a25e447e974a34056d675bd6f45bd65bed18"), looks := true }, kinds := [], alts := [], laidByText := true, laidKinds := [.data, .pinned], laidTests := true, laidLooks := .later }
def MethodNobodyCardSaid : Prop := Claim7.holds Tryd.pinned (.plain (OpenSpec.ofChange methodNobodySpec)) methodNobodyCard

/-- THE SECOND FORM's CARD OF 'vestibulelaw09.MethodTurns'. -/
def methodTurnsUptoCard : Claim7 := { stood := { row := methodTurnsUptoRow, standIns := [], harness := (true, "3ff3a3056649b89675f90d34c4f6a25e447e974a34056d675bd6f45bd65bed18"), looks := true }, kinds := [], alts := [], laidByText := true, laidKinds := [.data, .pinned], laidTests := true, laidLooks := .later }
def MethodTurnsUptoCardSaid : Prop := Claim7.holds Tryd.pinned (.plain (OpenSpec.upto methodTurnsSpec)) methodTurnsUptoCard

/-- THE SECOND FORM's CARD OF 'vestibulelaw09.MethodAbilities'. -/
def methodAbilitiesUptoCard : Claim7 := { stood := { row := methodAbilitiesUptoRow, standIns := [], harness := (true, "3ff3a3056649b89675f90d34c4f6a25e447e974a34056d675bd6f45bd65bed18"), looks := true }, kinds := [], alts := [], laidByText := true, laidKinds := [.data, .pinned], laidTests := true, laidLooks := .later }
def MethodAbilitiesUptoCardSaid : Prop := Claim7.holds Tryd.pinned (.plain (OpenSpec.upto methodAbilitiesSpec)) methodAbilitiesUptoCard

/-- THE SECOND FORM's CARD OF 'vestibulelaw09.MethodPlays'. -/
def methodPlaysUptoCard : Claim7 := { stood := { row := methodPlaysUptoRow, standIns := [], harness := (true, "3ff3a3056649b89675f90d34c4f6a25e447e974a34056d675bd6f45bd65bed18"), looks := true }, kinds := [], alts := [], laidByText := true, laidKinds := [.data, .pinned], laidTests := true, laidLooks := .later }
def MethodPlaysUptoCardSaid : Prop := Claim7.holds Tryd.pinned (.plain (OpenSpec.upto methodPlaysSpec)) methodPlaysUptoCard

/-- THE SECOND FORM's CARD OF 'vestibulelaw09.MethodRanges'. -/
def methodRangesUptoCard : Claim7 := { stood := { row := methodRangesUptoRow, standIns := [], harness := (true, "3ff3a3056649b89675f90d34c4f6a25e447e974a34056d675bd6f45bd65bed18"), looks := true }, kinds := [], alts := [], laidByText := true, laidKinds := [.data, .pinned], laidTests := true, laidLooks := .later }
def MethodRangesUptoCardSaid : Prop := Claim7.holds Tryd.pinned (.plain (OpenSpec.upto methodRangesSpec)) methodRangesUptoCard

/-- THE SECOND FORM's CARD OF 'vestibulelaw09.MethodHalves'. -/
def methodHalvesUptoCard : Claim7 := { stood := { row := methodHalvesUptoRow, standIns := [], harness := (true, "3ff3a3056649b89675f90d34c4f6a25e447e974a34056d675bd6f45bd65bed18"), looks := true }, kinds := [], alts := [], laidByText := true, laidKinds := [.data, .pinned], laidTests := true, laidLooks := .later }
def MethodHalvesUptoCardSaid : Prop := Claim7.holds Tryd.pinned (.plain (OpenSpec.upto methodHalvesSpec)) methodHalvesUptoCard

/-- THE SECOND FORM's CARD OF 'vestibulelaw09.MethodNobody'. -/
def methodNobodyUptoCard : Claim7 := { stood := { row := methodNobodyUptoRow, standIns := [], harness := (true, "3ff3a3056649b89675f90d34c4f6a25e447e974a34056d675bd6f45bd65bed18"), looks := true }, kinds := [], alts := [], laidByText := true, laidKinds := [.data, .pinned], laidTests := true, laidLooks := .later }
def MethodNobodyUptoCardSaid : Prop := Claim7.holds Tryd.pinned (.plain (OpenSpec.upto methodNobodySpec)) methodNobodyUptoCard
end Rows
end Go.Proofs.YticclennllklpaaDoor
