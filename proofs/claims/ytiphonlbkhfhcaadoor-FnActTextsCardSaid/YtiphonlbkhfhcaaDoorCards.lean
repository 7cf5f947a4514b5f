/-
  DERIVED. GIVEN WITH THE SEED: THE CARDS: each row of YtiphonlbkhfhcaaDoorRows.lean that lists a variable, with what it lists TIED to the program's text (the seventh form; the later family's looks); each row that meets fmt, with fmt's text TOLD by the authors' own Lean function (tested against real Go, not proved from fmt's source: count such statements apart). THE CARD IS WHAT COUNTS. Prove the row's statement (the work); the ties are given (YtiphonlbkhfhcaaDoorTie.lean); close each card by the builder's one call (the guide's Derived/Test/ToyasCard.lean, 'card_holds'). Laid BY PROGRAM, IN A SANDBOX (cutbox-door.mjs). By AI agents, Wed Nov 11 2026. No macro, syntax, notation, axiom, sorry.
-/
import Derived.Test.YtiphonlbkhfhcaaDoorRows
import GoSem.ClaimSeven
namespace Go.Proofs.YtiphonlbkhfhcaaDoor
namespace Rows

/-- THE TIED CARD OF 'laws.FnExactReadAct'. -/
def fnExactReadActCard : Claim7 := { stood := { row := fnExactReadActRow, standIns := [], harness := (true, "e9f53b186dfdabf40ec3d05d02bdf8eaeafeb771df09b470ba1bb20675812bc2"), looks := true }, kinds := [], alts := [], laidByText := true, laidKinds := [.data, .data, .data, .data, .sentinel, .sentinel, .pinned], laidTests := true, laidLooks := .later }
def FnExactReadActCardSaid : Prop := Claim7.holds Tryd.pinned (.plain (OpenSpec.ofChange fnExactReadActSpec)) fnExactReadActCard

/-- THE TIED CARD OF 'laws.FnActTexts'. -/
def fnActTextsCard : Claim7 := { stood := { row := fnActTextsRow, standIns := [], harness := (true, "e9f53b186dfdabf40ec3d05d02bdf8eaeafeb771df09b470ba1bb20675812bc2"), looks := true }, kinds := [], alts := [], laidByText := true, laidKinds := [.data, .data, .data, .data, .sentinel, .sentinel, .pinned], laidTests := true, laidLooks := .later }
def FnActTextsCardSaid : Prop := Claim7.holds Tryd.pinned (.plain (OpenSpec.ofChange fnActTextsSpec)) fnActTextsCard

/-- THE SECOND FORM's CARD OF 'laws.FnExactReadAct'. -/
def fnExactReadActUptoCard : Claim7 := { stood := { row := fnExactReadActUptoRow, standIns := [], harness := (true, "e9f53b186dfdabf40ec3d05d02bdf8eaeafeb771df09b470ba1bb20675812bc2"), looks := true }, kinds := [], alts := [], laidByText := true, laidKinds := [.data, .data, .data, .data, .sentinel, .sentinel, .pinned], laidTests := true, laidLooks := .later }
def FnExactReadActUptoCardSaid : Prop := Claim7.holds Tryd.pinned (.plain (OpenSpec.upto fnExactReadActSpec)) fnExactReadActUptoCard

/-- THE SECOND FORM's CARD OF 'laws.FnActTexts'. -/
def fnActTextsUptoCard : Claim7 := { stood := { row := fnActTextsUptoRow, standIns := [], harness := (true, "e9f53b186dfdabf40ec3d05d02bdf8eaeafeb771df09b470ba1bb20675812bc2"), looks := true }, kinds := [], alts := [], laidByText := true, laidKinds := [.data, .data, .data, .data, .sentinel, .sentinel, .pinned], laidTests := true, laidLooks := .later }
def FnActTextsUptoCardSaid : Prop := Claim7.holds Tryd.pinned (.plain (OpenSpec.upto fnActTextsSpec)) fnActTextsUptoCard
end Rows
end Go.Proofs.YtiphonlbkhfhcaaDoor
