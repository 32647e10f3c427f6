/-
  DERIVED. GIVEN WITH THE SEED: THE CARDS: each row of YtgjljbaadglpnaaGreatDoorRows.lean that lists a variable, with what it lists TIED to the program's text (the seventh form; the later family's looks); each row that meets fmt, with fmt's text TOLD by the authors' own Lean function (tested against real Go, not proved from fmt's source: count such statements apart). THE CARD IS WHAT COUNTS. Prove the row's statement (the work); the ties are given (YtgjljbaadglpnaaGreatDoorTie.lean); close each card by the builder's one call (the guide's Derived/Test/ToyasCard.lean, 'card_holds'). Laid BY PROGRAM, IN A SANDBOX (cutbox-door.mjs). By AI agents, Wed Nov 11 2026. No macro, syntax, notation, axiom, sorry.
-/
import Derived.Test.YtgjljbaadglpnaaGreatDoorRows
import GoSem.ClaimSeven
namespace Go.Proofs.YtgjljbaadglpnaaGreatDoor
namespace Rows

/-- THE TIED CARD OF 'laws.FnPaidPut'. -/
def fnPaidPutCard : Claim7 := { stood := { row := fnPaidPutRow, standIns := [], harness := (true, "ba210ea03cf8b7de2770852b9e9793b88631dab450a5709434f3fb6a27501d1d"), looks := false }, kinds := [], alts := [], laidByText := true, laidKinds := [.data, .data, .data, .data, .pinned], laidTests := true, laidLooks := .later }
def FnPaidPutCardSaid : Prop := Claim7.holds Tryz.pinned (.plain (OpenSpec.ofChange fnPaidPutSpec)) fnPaidPutCard

/-- THE TIED CARD OF 'laws.FnPaidGet'. -/
def fnPaidGetCard : Claim7 := { stood := { row := fnPaidGetRow, standIns := [], harness := (true, "ba210ea03cf8b7de2770852b9e9793b88631dab450a5709434f3fb6a27501d1d"), looks := false }, kinds := [], alts := [], laidByText := true, laidKinds := [.data, .data, .data, .data, .pinned], laidTests := true, laidLooks := .later }
def FnPaidGetCardSaid : Prop := Claim7.holds Tryz.pinned (.plain (OpenSpec.ofChange fnPaidGetSpec)) fnPaidGetCard

/-- THE SECOND FORM's CARD OF 'laws.FnPaidPut'. -/
def fnPaidPutUptoCard : Claim7 := { stood := { row := fnPaidPutUptoRow, standIns := [], harness := (true, "ba210ea03cf8b7de2770852b9e9793b88631dab450a5709434f3fb6a27501d1d"), looks := false }, kinds := [], alts := [], laidByText := true, laidKinds := [.data, .data, .data, .data, .pinned], laidTests := true, laidLooks := .later }
def FnPaidPutUptoCardSaid : Prop := Claim7.holds Tryz.pinned (.plain (OpenSpec.upto fnPaidPutSpec)) fnPaidPutUptoCard

/-- THE SECOND FORM's CARD OF 'laws.FnPaidGet'. -/
def fnPaidGetUptoCard : Claim7 := { stood := { row := fnPaidGetUptoRow, standIns := [], harness := (true, "ba210ea03cf8b7de2770852b9e9793b88631dab450a5709434f3fb6a27501d1d"), looks := false }, kinds := [], alts := [], laidByText := true, laidKinds := [.data, .data, .data, .data, .pinned], laidTests := true, laidLooks := .later }
def FnPaidGetUptoCardSaid : Prop := Claim7.holds Tryz.pinned (.plain (OpenSpec.upto fnPaidGetSpec)) fnPaidGetUptoCard
end Rows
end Go.Proofs.YtgjljbaadglpnaaGreatDoor
