/-
  DERIVED. GIVEN WITH THE SEED: THE CARDS: each row of YtgjljbaadglpnaaDoorRows.lean that lists a variable, with what it lists TIED to the program's text (the seventh form; the later family's looks); each row that meets fmt, with fmt's text TOLD by the authors' own Lean function (tested against real Go, not proved from fmt's source: count such statements apart). THE CARD IS WHAT COUNTS. Prove the row's statement (the work); the ties are given (YtgjljbaadglpnaaDoorTie.lean); close each card by the builder's one call (the guide's Derived/Test/ToyasCard.lean, 'card_holds'). Laid BY PROGRAM, IN A SANDBOX (cutbox-door.mjs). By AI agents, Wed Nov 11 2026. No macro, syntax, notation, axiom, sorry.
-/
import Derived.Test.YtgjljbaadglpnaaDoorRows
import GoSem.ClaimSeven
namespace Go.Proofs.YtgjljbaadglpnaaDoor
namespace Rows

/-- THE TIED CARD OF 'laws.FnExactPaidGet'. -/
def fnExactPaidGetCard : Claim7 := { stood := { row := fnExactPaidGetRow, standIns := [], harness := (true, "507b5fa9deaf9a048885e8317081646d4e6a00f461d48baa5c155f3ea1c8892a"), looks := false }, kinds := [], alts := [], laidByText := true, laidKinds := [.data, .data, .data, .data, .pinned], laidTests := true, laidLooks := .later }
def FnExactPaidGetCardSaid : Prop := Claim7.holds Tryd.pinned (.plain (OpenSpec.ofChange fnExactPaidGetSpec)) fnExactPaidGetCard

/-- THE TIED CARD OF 'laws.FnExactHeadPut'. -/
def fnExactHeadPutCard : Claim7 := { stood := { row := fnExactHeadPutRow, standIns := [], harness := (true, "507b5fa9deaf9a048885e8317081646d4e6a00f461d48baa5c155f3ea1c8892a"), looks := false }, kinds := [], alts := [], laidByText := true, laidKinds := [.data, .data, .data], laidTests := true, laidLooks := .later }
def FnExactHeadPutCardSaid : Prop := Claim7.holds Tryd.pinned (.plain (OpenSpec.ofChange fnExactHeadPutSpec)) fnExactHeadPutCard

/-- THE TIED CARD OF 'laws.FnExactHeadGet'. -/
def fnExactHeadGetCard : Claim7 := { stood := { row := fnExactHeadGetRow, standIns := [], harness := (true, "507b5fa9deaf9a048885e8317081646d4e6a00f461d48baa5c155f3ea1c8892a"), looks := false }, kinds := [], alts := [], laidByText := true, laidKinds := [.data, .pinned], laidTests := true, laidLooks := .later }
def FnExactHeadGetCardSaid : Prop := Claim7.holds Tryd.pinned (.plain (OpenSpec.ofChange fnExactHeadGetSpec)) fnExactHeadGetCard

/-- THE TIED CARD OF 'laws.FnExactPaidPut'. -/
def fnExactPaidPutCard : Claim7 := { stood := { row := fnExactPaidPutRow, standIns := [], harness := (true, "507b5fa9deaf9a048885e8317081646d4e6a00f461d48baa5c155f3ea1c8892a"), looks := false }, kinds := [], alts := [], laidByText := true, laidKinds := [.data, .data, .data], laidTests := true, laidLooks := .later }
def FnExactPaidPutCardSaid : Prop := Claim7.holds Tryd.pinned (.plain (OpenSpec.ofChange fnExactPaidPutSpec)) fnExactPaidPutCard

/-- THE TIED CARD OF 'laws.FnHeadGet'. -/
def fnHeadGetCard : Claim7 := { stood := { row := fnHeadGetRow, standIns := [], harness := (true, "507b5fa9deaf9a048885e8317081646d4e6a00f461d48baa5c155f3ea1c8892a"), looks := false }, kinds := [], alts := [], laidByText := true, laidKinds := [.data, .data, .data, .data, .pinned], laidTests := true, laidLooks := .later }
def FnHeadGetCardSaid : Prop := Claim7.holds Tryd.pinned (.plain (OpenSpec.ofChange fnHeadGetSpec)) fnHeadGetCard

/-- THE SECOND FORM's CARD OF 'laws.FnExactPaidGet'. -/
def fnExactPaidGetUptoCard : Claim7 := { stood := { row := fnExactPaidGetUptoRow, standIns := [], harness := (true, "507b5fa9deaf9a048885e8317081646d4e6a00f461d48baa5c155f3ea1c8892a"), looks := false }, kinds := [], alts := [], laidByText := true, laidKinds := [.data, .data, .data, .data, .pinned], laidTests := true, laidLooks := .later }
def FnExactPaidGetUptoCardSaid : Prop := Claim7.holds Tryd.pinned (.plain (OpenSpec.upto fnExactPaidGetSpec)) fnExactPaidGetUptoCard

/-- THE SECOND FORM's CARD OF 'laws.FnExactHeadPut'. -/
def fnExactHeadPutUptoCard : Claim7 := { stood := { row := fnExactHeadPutUptoRow, standIns := [], harness := (true, "507b5fa9deaf9a048885e8317081646d4e6a00f461d48baa5c155f3ea1c8892a"), looks := false }, kinds := [], alts := [], laidByText := true, laidKinds := [.data, .data, .data], laidTests := true, laidLooks := .later }
def FnExactHeadPutUptoCardSaid : Prop := Claim7.holds Tryd.pinned (.plain (OpenSpec.upto fnExactHeadPutSpec)) fnExactHeadPutUptoCard

/-- THE SECOND FORM's CARD OF 'laws.FnExactHeadGet'. -/
def fnExactHeadGetUptoCard : Claim7 := { stood := { row := fnExactHeadGetUptoRow, standIns := [], harness := (true, "507b5fa9deaf9a048885e8317081646d4e6a00f461d48baa5c155f3ea1c8892a"), looks := false }, kinds := [], alts := [], laidByText := true, laidKinds := [.data, .pinned], laidTests := true, laidLooks := .later }
def FnExactHeadGetUptoCardSaid : Prop := Claim7.holds Tryd.pinned (.plain (OpenSpec.upto fnExactHeadGetSpec)) fnExactHeadGetUptoCard

/-- THE SECOND FORM's CARD OF 'laws.FnExactPaidPut'. -/
def fnExactPaidPutUptoCard : Claim7 := { stood := { row := fnExactPaidPutUptoRow, standIns := [], harness := (true, "507b5fa9deaf9a048885e8317081646d4e6a00f461d48baa5c155f3ea1c8892a"), looks := false }, kinds := [], alts := [], laidByText := true, laidKinds := [.data, .data, .data], laidTests := true, laidLooks := .later }
def FnExactPaidPutUptoCardSaid : Prop := Claim7.holds Tryd.pinned (.plain (OpenSpec.upto fnExactPaidPutSpec)) fnExactPaidPutUptoCard

/-- THE SECOND FORM's CARD OF 'laws.FnHeadGet'. -/
def fnHeadGetUptoCard : Claim7 := { stood := { row := fnHeadGetUptoRow, standIns := [], harness := (true, "507b5fa9deaf9a048885e8317081646d4e6a00f461d48baa5c155f3ea1c8892a"), looks := false }, kinds := [], alts := [], laidByText := true, laidKinds := [.data, .data, .data, .data, .pinned], laidTests := true, laidLooks := .later }
def FnHeadGetUptoCardSaid : Prop := Claim7.holds Tryd.pinned (.plain (OpenSpec.upto fnHeadGetSpec)) fnHeadGetUptoCard
end Rows
end Go.Proofs.YtgjljbaadglpnaaDoor
