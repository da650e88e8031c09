/-
  DERIVED. GIVEN WITH THE SEED: THE CARDS: each row of YtmilkkingeeblaaDoorRows.lean that lists a variable, with what it lists TIED to the program's text (the seventh form; the later family's looks); each row that meets fmt, with fmt's text TOLD by the authors' own Lean function (tested against real Go, not proved from fmt's source: count such statements apart). THE CARD IS WHAT COUNTS. Prove the row's statement (the work); the ties are given (YtmilkkingeeblaaDoorTie.lean); close each card by the builder's one call (the guide's Derived/Test/ToyasCard.lean, 'card_holds'). Laid BY PROGRAM, IN A SANDBOX (cutbox-door.mjs). By AI agents, Wed Nov 11 2026. No macro, syntax, notation, axiom, sorry.
-/
import Derived.Test.YtmilkkingeeblaaDoorRows
import GoSem.ClaimSeven
namespace Go.Proofs.YtmilkkingeeblaaDoor
namespace Rows

/-- THE TIED CARD OF 'laws.FnExactReadFixed'. -/
def fnExactReadFixedCard : Claim7 := { stood := { row := fnExactReadFixedRow, standIns := [], harness := (true, "2e773803bfa5530599432d876bc69cf27d42a8dd7e83795ce349902a948b2fc2"), looks := false }, kinds := [], alts := [], laidByText := true, laidKinds := [.data, .data, .data, .data, .pinned], laidTests := true, laidLooks := .later }
def FnExactReadFixedCardSaid : Prop := Claim7.holds Tryd.pinned (.plain (OpenSpec.ofChange fnExactReadFixedSpec)) fnExactReadFixedCard

/-- THE TIED CARD OF 'laws.FnFixedText'. -/
def fnFixedTextCard : Claim7 := { stood := { row := fnFixedTextRow, standIns := [], harness := (true, "2e773803bfa5530599432d876bc69cf27d42a8dd7e83795ce349902a948b2fc2"), looks := false }, kinds := [], alts := [], laidByText := true, laidKinds := [.data, .data, .data, .data, .pinned], laidTests := true, laidLooks := .later }
def FnFixedTextCardSaid : Prop := Claim7.holds Tryd.pinned (.plain (OpenSpec.ofChange fnFixedTextSpec)) fnFixedTextCard

/-- THE TIED CARD OF 'laws.FnReadFixed'. -/
def fnReadFixedCard : Claim7 := { stood := { row := fnReadFixedRow, standIns := [], harness := (true, "2e773803bfa5530599432d876bc69cf27d42a8dd7e83795ce349902a948b2fc2"), looks := false }, kinds := [], alts := [], laidByText := true, laidKinds := [.data, .data, .data, .data, .pinned], laidTests := true, laidLooks := .later }
def FnReadFixedCardSaid : Prop := Claim7.holds Tryd.pinned (.plain (OpenSpec.ofChange fnReadFixedSpec)) fnReadFixedCard

/-- THE TIED CARD OF 'laws.FnExactFixedText'. -/
def fnExactFixedTextCard : Claim7 := { stood := { row := fnExactFixedTextRow, standIns := [], harness := (true, "2e773803bfa5530599432d876bc69cf27d42a8dd7e83795ce349902a948b2fc2"), looks := false }, kinds := [], alts := [], laidByText := true, laidKinds := [.data, .data, .data, .data, .pinned], laidTests := true, laidLooks := .later }
def FnExactFixedTextCardSaid : Prop := Claim7.holds Tryd.pinned (.plain (OpenSpec.ofChange fnExactFixedTextSpec)) fnExactFixedTextCard

/-- THE SECOND FORM's CARD OF 'laws.FnExactReadFixed'. -/
def fnExactReadFixedUptoCard : Claim7 := { stood := { row := fnExactReadFixedUptoRow, standIns := [], harness := (true, "2e773803bfa5530599432d876bc69cf27d42a8dd7e83795ce349902a948b2fc2"), looks := false }, kinds := [], alts := [], laidByText := true, laidKinds := [.data, .data, .data, .data, .pinned], laidTests := true, laidLooks := .later }
def FnExactReadFixedUptoCardSaid : Prop := Claim7.holds Tryd.pinned (.plain (OpenSpec.upto fnExactReadFixedSpec)) fnExactReadFixedUptoCard

/-- THE SECOND FORM's CARD OF 'laws.FnFixedText'. -/
def fnFixedTextUptoCard : Claim7 := { stood := { row := fnFixedTextUptoRow, standIns := [], harness := (true, "2e773803bfa5530599432d876bc69cf27d42a8dd7e83795ce349902a948b2fc2"), looks := false }, kinds := [], alts := [], laidByText := true, laidKinds := [.data, .data, .data, .data, .pinned], laidTests := true, laidLooks := .later }
def FnFixedTextUptoCardSaid : Prop := Claim7.holds Tryd.pinned (.plain (OpenSpec.upto fnFixedTextSpec)) fnFixedTextUptoCard

/-- THE SECOND FORM's CARD OF 'laws.FnReadFixed'. -/
def fnReadFixedUptoCard : Claim7 := { stood := { row := fnReadFixedUptoRow, standIns := [], harness := (true, "2e773803bfa5530599432d876bc69cf27d42a8dd7e83795ce349902a948b2fc2"), looks := false }, kinds := [], alts := [], laidByText := true, laidKinds := [.data, .data, .data, .data, .pinned], laidTests := true, laidLooks := .later }
def FnReadFixedUptoCardSaid : Prop := Claim7.holds Tryd.pinned (.plain (OpenSpec.upto fnReadFixedSpec)) fnReadFixedUptoCard

/-- THE SECOND FORM's CARD OF 'laws.FnExactFixedText'. -/
def fnExactFixedTextUptoCard : Claim7 := { stood := { row := fnExactFixedTextUptoRow, standIns := [], harness := (true, "2e773803bfa5530599432d876bc69cf27d42a8dd7e83795ce349902a948b2fc2"), looks := false }, kinds := [], alts := [], laidByText := true, laidKinds := [.data, .data, .data, .data, .pinned], laidTests := true, laidLooks := .later }
def FnExactFixedTextUptoCardSaid : Prop := Claim7.holds Tryd.pinned (.plain (OpenSpec.upto fnExactFixedTextSpec)) fnExactFixedTextUptoCard
end Rows
end Go.Proofs.YtmilkkingeeblaaDoor
