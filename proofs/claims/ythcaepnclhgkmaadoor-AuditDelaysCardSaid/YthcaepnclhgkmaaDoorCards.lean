/-
  DERIVED. GIVEN WITH THE SEED: THE CARDS: each row of YthcaepnclhgkmaaDoorRows.lean that lists a variable, with what it lists TIED to the program's text (the seventh form; the later family's looks); each row that meets fmt, with fmt's text TOLD by the authors' own Lean function (tested against real Go, not proved from fmt's source: count such statements apart). THE CARD IS WHAT COUNTS. Prove the row's statement (the work); the ties are given (YthcaepnclhgkmaaDoorTie.lean); close each card by the builder's one call (the guide's Derived/Test/ToyasCard.lean, 'card_holds'). Laid BY PROGRAM, IN A SANDBOX (cutbox-door.mjs). By AI agents, Wed Nov 11 2026. No macro, syntax, notation, axiom, sorry.
-/
import Derived.Test.YthcaepnclhgkmaaDoorRows
import GoSem.ClaimSeven
namespace Go.Proofs.YthcaepnclhgkmaaDoor
namespace Rows

/-- THE TIED CARD OF 'isochronlaw44.AuditFinds'. -/
def auditFindsCard : Claim7 := { stood := { row := auditFindsRow, standIns := [], harness := (true, "4873fb7bdc8967dd71caf1409d2d5d19ea96ab8e8d3cd2da7f34038e9d9447a9"), looks := false }, kinds := [], alts := [], laidByText := true, laidKinds := [.data, .data, .data, .data], laidTests := true, laidLooks := .later }
def AuditFindsCardSaid : Prop := Claim7.holds Tryd.pinned (.plain (OpenSpec.ofChange auditFindsSpec)) auditFindsCard

/-- THE TIED CARD OF 'isochronlaw44.AuditDelays'. -/
def auditDelaysCard : Claim7 := { stood := { row := auditDelaysRow, standIns := [], harness := (true, "4873fb7bdc8967dd71caf1409d2d5d19ea96ab8e8d3cd2da7f34038e9d9447a9"), looks := false }, kinds := [], alts := [], laidByText := true, laidKinds := [.data, .data, .data, .data], laidTests := true, laidLooks := .later }
def AuditDelaysCardSaid : Prop := Claim7.holds Tryd.pinned (.plain (OpenSpec.ofChange auditDelaysSpec)) auditDelaysCard

/-- THE TIED CARD OF 'isochronlaw44.AuditSound'. -/
def auditSoundCard : Claim7 := { stood := { row := auditSoundRow, standIns := [], harness := (true, "4873fb7bdc8967dd71caf1409d2d5d19ea96ab8e8d3cd2da7f34038e9d9447a9"), looks := false }, kinds := [], alts := [], laidByText := true, laidKinds := [.data, .data, .data, .data], laidTests := true, laidLooks := .later }
def AuditSoundCardSaid : Prop := Claim7.holds Tryd.pinned (.plain (OpenSpec.ofChange auditSoundSpec)) auditSoundCard

/-- THE TIED CARD OF 'isochronlaw44.AuditFirst'. -/
def auditFirstCard : Claim7 := { stood := { row := auditFirstRow, standIns := [], harness := (true, "4873fb7bdc8967dd71caf1409d2d5d19ea96ab8e8d3cd2da7f34038e9d9447a9"), looks := false }, kinds := [], alts := [], laidByText := true, laidKinds := [.data, .data, .data, .data], laidTests := true, laidLooks := .later }
def AuditFirstCardSaid : Prop := Claim7.holds Tryd.pinned (.plain (OpenSpec.ofChange auditFirstSpec)) auditFirstCard

/-- THE TIED CARD OF 'isochronlaw44.AuditKnown'. -/
def auditKnownCard : Claim7 := { stood := { row := auditKnownRow, standIns := [], harness := (true, "4873fb7bdc8967dd71caf1409d2d5d19ea96ab8e8d3cd2da7f34038e9d9447a9"), looks := false }, kinds := [], alts := [], laidByText := true, laidKinds := [.data, .data, .data, .data], laidTests := true, laidLooks := .later }
def AuditKnownCardSaid : Prop := Claim7.holds Tryd.pinned (.plain (OpenSpec.ofChange auditKnownSpec)) auditKnownCard

/-- THE TIED CARD OF 'isochronlaw44.AuditChecks'. -/
def auditChecksCard : Claim7 := { stood := { row := auditChecksRow, standIns := [], harness := (true, "4873fb7bdc8967dd71caf1409d2d5d19ea96ab8e8d3cd2da7f34038e9d9447a9"), looks := false }, kinds := [], alts := [], laidByText := true, laidKinds := [.data, .data, .data, .data], laidTests := true, laidLooks := .later }
def AuditChecksCardSaid : Prop := Claim7.holds Tryd.pinned (.plain (OpenSpec.ofChange auditChecksSpec)) auditChecksCard

/-- THE SECOND FORM's CARD OF 'isochronlaw44.AuditFinds'. -/
def auditFindsUptoCard : Claim7 := { stood := { row := auditFindsUptoRow, standIns := [], harness := (true, "4873fb7bdc8967dd71caf1409d2d5d19ea96ab8e8d3cd2da7f34038e9d9447a9"), looks := false }, kinds := [], alts := [], laidByText := true, laidKinds := [.data, .data, .data, .data], laidTests := true, laidLooks := .later }
def AuditFindsUptoCardSaid : Prop := Claim7.holds Tryd.pinned (.plain (OpenSpec.upto auditFindsSpec)) auditFindsUptoCard

/-- THE SECOND FORM's CARD OF 'isochronlaw44.AuditDelays'. -/
def auditDelaysUptoCard : Claim7 := { stood := { row := auditDelaysUptoRow, standIns := [], harness := (true, "4873fb7bdc8967dd71caf1409d2d5d19ea96ab8e8d3cd2da7f34038e9d9447a9"), looks := false }, kinds := [], alts := [], laidByText := true, laidKinds := [.data, .data, .data, .data], laidTests := true, laidLooks := .later }
def AuditDelaysUptoCardSaid : Prop := Claim7.holds Tryd.pinned (.plain (OpenSpec.upto auditDelaysSpec)) auditDelaysUptoCard

/-- THE SECOND FORM's CARD OF 'isochronlaw44.AuditSound'. -/
def auditSoundUptoCard : Claim7 := { stood := { row := auditSoundUptoRow, standIns := [], harness := (true, "4873fb7bdc8967dd71caf1409d2d5d19ea96ab8e8d3cd2da7f34038e9d9447a9"), looks := false }, kinds := [], alts := [], laidByText := true, laidKinds := [.data, .data, .data, .data], laidTests := true, laidLooks := .later }
def AuditSoundUptoCardSaid : Prop := Claim7.holds Tryd.pinned (.plain (OpenSpec.upto auditSoundSpec)) auditSoundUptoCard

/-- THE SECOND FORM's CARD OF 'isochronlaw44.AuditFirst'. -/
def auditFirstUptoCard : Claim7 := { stood := { row := auditFirstUptoRow, standIns := [], harness := (true, "4873fb7bdc8967dd71caf1409d2d5d19ea96ab8e8d3cd2da7f34038e9d9447a9"), looks := false }, kinds := [], alts := [], laidByText := true, laidKinds := [.data, .data, .data, .data], laidTests := true, laidLooks := .later }
def AuditFirstUptoCardSaid : Prop := Claim7.holds Tryd.pinned (.plain (OpenSpec.upto auditFirstSpec)) auditFirstUptoCard

/-- THE SECOND FORM's CARD OF 'isochronlaw44.AuditKnown'. -/
def auditKnownUptoCard : Claim7 := { stood := { row := auditKnownUptoRow, standIns := [], harness := (true, "4873fb7bdc8967dd71caf1409d2d5d19ea96ab8e8d3cd2da7f34038e9d9447a9"), looks := false }, kinds := [], alts := [], laidByText := true, laidKinds := [.data, .data, .data, .data], laidTests := true, laidLooks := .later }
def AuditKnownUptoCardSaid : Prop := Claim7.holds Tryd.pinned (.plain (OpenSpec.upto auditKnownSpec)) auditKnownUptoCard

/-- THE SECOND FORM's CARD OF 'isochronlaw44.AuditChecks'. -/
def auditChecksUptoCard : Claim7 := { stood := { row := auditChecksUptoRow, standIns := [], harness := (true, "4873fb7bdc8967dd71caf1409d2d5d19ea96ab8e8d3cd2da7f34038e9d9447a9"), looks := false }, kinds := [], alts := [], laidByText := true, laidKinds := [.data, .data, .data, .data], laidTests := true, laidLooks := .later }
def AuditChecksUptoCardSaid : Prop := Claim7.holds Tryd.pinned (.plain (OpenSpec.upto auditChecksSpec)) auditChecksUptoCard
end Rows
end Go.Proofs.YthcaepnclhgkmaaDoor
