/-
  DERIVED. GIVEN WITH THE SEED: THE CARDS: each row of YtfnekpgbfdhnmaaDoorRows.lean that lists a variable, with what it lists TIED to the program's text (the seventh form; the later family's looks); each row that meets fmt, with fmt's text TOLD by the authors' own Lean function (tested against real Go, not proved from fmt's source: count such statements apart). THE CARD IS WHAT COUNTS. Prove the row's statement (the work); the ties are given (YtfnekpgbfdhnmaaDoorTie.lean); close each card by the builder's one call (the guide's Derived/Test/ToyasCard.lean, 'card_holds'). Laid BY PROGRAM, IN A SANDBOX (cutbox-door.mjs). By AI agents, Wed Nov 11 2026. No macro, syntax, notation, axiom, sorry.
-/
import Derived.Test.YtfnekpgbfdhnmaaDoorRows
import GoSem.ClaimSeven
namespace Go.Proofs.YtfnekpgbfdhnmaaDoor
namespace Rows

/-- THE TIED CARD OF 'betrothallaw05.ValtextParses'. -/
def valtextParsesCard : Claim7 := { stood := { row := valtextParsesRow, standIns := [], harness := (true, "6798a678d2991a77924bcd93963b12916f6b0937cf6ff59dcec2d0122b443322"), looks := true }, kinds := [], alts := [], laidByText := true, laidKinds := [.data, .data, .data], laidTests := true, laidLooks := .later }
def ValtextParsesCardSaid : Prop := Claim7.holds Tryd.pinned (.plain (OpenSpec.ofChange valtextParsesSpec)) valtextParsesCard

/-- THE TIED CARD OF 'betrothallaw05.ValtextWords'. -/
def valtextWordsCard : Claim7 := { stood := { row := valtextWordsRow, standIns := [], harness := (true, "6798a678d2991a77924bcd93963b12916f6b0937cf6ff59dcec2d0122b443322"), looks := true }, kinds := [], alts := [], laidByText := true, laidKinds := [.data, .data, .data], laidTests := true, laidLooks := .later }
def ValtextWordsCardSaid : Prop := Claim7.holds Tryd.pinned (.plain (OpenSpec.ofChange valtextWordsSpec)) valtextWordsCard

/-- THE TIED CARD OF 'betrothallaw05.ValtextTells'. -/
def valtextTellsCard : Claim7 := { stood := { row := valtextTellsRow, standIns := [], harness := (true, "6798a678d2991a77924bcd93963b12916f6b0937cf6ff59dcec2d0122b443322"), looks := true }, kinds := [], alts := [], laidByText := true, laidKinds := [.data, .data, .data], laidTests := true, laidLooks := .later }
def ValtextTellsCardSaid : Prop := Claim7.holds Tryd.pinned (.plain (OpenSpec.ofChange valtextTellsSpec)) valtextTellsCard

/-- THE TIED CARD OF 'betrothallaw05.ValtextHolds'. -/
def valtextHoldsCard : Claim7 := { stood := { row := valtextHoldsRow, standIns := [], harness := (true, "6798a678d2991a77924bcd93963b12916f6b0937cf6ff59dcec2d0122b443322"), looks := true }, kinds := [], alts := [], laidByText := true, laidKinds := [.data, .data, .data], laidTests := true, laidLooks := .later }
def ValtextHoldsCardSaid : Prop := Claim7.holds Tryd.pinned (.plain (OpenSpec.ofChange valtextHoldsSpec)) valtextHoldsCard

/-- THE SECOND FORM's CARD OF 'betrothallaw05.ValtextParses'. -/
def valtextParsesUptoCard : Claim7 := { stood := { row := valtextParsesUptoRow, standIns := [], harness := (true, "6798a678d2991a77924bcd93963b12916f6b0937cf6ff59dcec2d0122b443322"), looks := true }, kinds := [], alts := [], laidByText := true, laidKinds := [.data, .data, .data], laidTests := true, laidLooks := .later }
def ValtextParsesUptoCardSaid : Prop := Claim7.holds Tryd.pinned (.plain (OpenSpec.upto valtextParsesSpec)) valtextParsesUptoCard

/-- THE SECOND FORM's CARD OF 'betrothallaw05.ValtextWords'. -/
def valtextWordsUptoCard : Claim7 := { stood := { row := valtextWordsUptoRow, standIns := [], harness := (true, "6798a678d2991a77924bcd93963b12916f6b0937cf6ff59dcec2d0122b443322"), looks := true }, kinds := [], alts := [], laidByText := true, laidKinds := [.data, .data, .data], laidTests := true, laidLooks := .later }
def ValtextWordsUptoCardSaid : Prop := Claim7.holds Tryd.pinned (.plain (OpenSpec.upto valtextWordsSpec)) valtextWordsUptoCard

/-- THE SECOND FORM's CARD OF 'betrothallaw05.ValtextTells'. -/
def valtextTellsUptoCard : Claim7 := { stood := { row := valtextTellsUptoRow, standIns := [], harness := (true, "6798a678d2991a77924bcd93963b12916f6b0937cf6ff59dcec2d0122b443322"), looks := true }, kinds := [], alts := [], laidByText := true, laidKinds := [.data, .data, .data], laidTests := true, laidLooks := .later }
def ValtextTellsUptoCardSaid : Prop := Claim7.holds Tryd.pinned (.plain (OpenSpec.upto valtextTellsSpec)) valtextTellsUptoCard

/-- THE SECOND FORM's CARD OF 'betrothallaw05.ValtextHolds'. -/
def valtextHoldsUptoCard : Claim7 := { stood := { row := valtextHoldsUptoRow, standIns := [], harness := (true, "6798a678d2991a77924bcd93963b12916f6b0937cf6ff59dcec2d0122b443322"), looks := true }, kinds := [], alts := [], laidByText := true, laidKinds := [.data, .data, .data], laidTests := true, laidLooks := .later }
def ValtextHoldsUptoCardSaid : Prop := Claim7.holds Tryd.pinned (.plain (OpenSpec.upto valtextHoldsSpec)) valtextHoldsUptoCard
end Rows
end Go.Proofs.YtfnekpgbfdhnmaaDoor
