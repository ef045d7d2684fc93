/-
  DERIVED. GIVEN WITH THE SEED: THE CARDS: each row of YtndkcflepjinaaaDoorRows.lean that lists a variable, with what it lists TIED to the program's text (the seventh form; the later family's looks); each row that meets fmt, with fmt's text TOLD by the authors' own Lean function (tested against real Go, not proved from fmt's source: count such statements apart). THE CARD IS WHAT COUNTS. Prove the row's statement (the work); the ties are given (YtndkcflepjinaaaDoorTie.lean); close each card by the builder's one call (the guide's Derived/Test/ToyasCard.lean, 'card_holds'). Laid BY PROGRAM, IN A SANDBOX (cutbox-door.mjs). By AI agents, Wed Nov 11 2026. No macro, syntax, notation, axiom, sorry.
-/
import Derived.Test.YtndkcflepjinaaaDoorRows
import GoSem.ClaimSeven
namespace Go.Proofs.YtndkcflepjinaaaDoor
namespace Rows

/-- THE TIED CARD OF 'laws.FnExactActLine'. -/
def fnExactActLineCard : Claim7 := { stood := { row := fnExactActLineRow, standIns := [], harness := (true, "da58f19c5b0c7411b8f6d128ced4bc0e3c860085103aa839fd04d047b8683c5e"), looks := false }, kinds := [], alts := [], laidByText := true, laidKinds := [.data], laidTests := true, laidLooks := .later }
def FnExactActLineCardSaid : Prop := Claim7.holds Tryd.pinned (.plain (OpenSpec.ofChange fnExactActLineSpec)) fnExactActLineCard

/-- THE TIED CARD OF 'laws.FnExactReadAct'. -/
def fnExactReadActCard : Claim7 := { stood := { row := fnExactReadActRow, standIns := [], harness := (true, "da58f19c5b0c7411b8f6d128ced4bc0e3c860085103aa839fd04d047b8683c5e"), looks := false }, kinds := [], alts := [], laidByText := true, laidKinds := [.data], laidTests := true, laidLooks := .later }
def FnExactReadActCardSaid : Prop := Claim7.holds Tryd.pinned (.plain (OpenSpec.ofChange fnExactReadActSpec)) fnExactReadActCard

/-- THE TIED CARD OF 'laws.FnWords'. -/
def fnWordsCard : Claim7 := { stood := { row := fnWordsRow, standIns := [], harness := (true, "da58f19c5b0c7411b8f6d128ced4bc0e3c860085103aa839fd04d047b8683c5e"), looks := false }, kinds := [], alts := [], laidByText := true, laidKinds := [.data], laidTests := true, laidLooks := .later }
def FnWordsCardSaid : Prop := Claim7.holds Tryd.pinned (.plain (OpenSpec.ofChange fnWordsSpec)) fnWordsCard

/-- THE SECOND FORM's CARD OF 'laws.FnExactActLine'. -/
def fnExactActLineUptoCard : Claim7 := { stood := { row := fnExactActLineUptoRow, standIns := [], harness := (true, "da58f19c5b0c7411b8f6d128ced4bc0e3c860085103aa839fd04d047b8683c5e"), looks := false }, kinds := [], alts := [], laidByText := true, laidKinds := [.data], laidTests := true, laidLooks := .later }
def FnExactActLineUptoCardSaid : Prop := Claim7.holds Tryd.pinned (.plain (OpenSpec.upto fnExactActLineSpec)) fnExactActLineUptoCard

/-- THE SECOND FORM's CARD OF 'laws.FnExactReadAct'. -/
def fnExactReadActUptoCard : Claim7 := { stood := { row := fnExactReadActUptoRow, standIns := [], harness := (true, "da58f19c5b0c7411b8f6d128ced4bc0e3c860085103aa839fd04d047b8683c5e"), looks := false }, kinds := [], alts := [], laidByText := true, laidKinds := [.data], laidTests := true, laidLooks := .later }
def FnExactReadActUptoCardSaid : Prop := Claim7.holds Tryd.pinned (.plain (OpenSpec.upto fnExactReadActSpec)) fnExactReadActUptoCard

/-- THE SECOND FORM's CARD OF 'laws.FnWords'. -/
def fnWordsUptoCard : Claim7 := { stood := { row := fnWordsUptoRow, standIns := [], harness := (true, "da58f19c5b0c7411b8f6d128ced4bc0e3c860085103aa839fd04d047b8683c5e"), looks := false }, kinds := [], alts := [], laidByText := true, laidKinds := [.data], laidTests := true, laidLooks := .later }
def FnWordsUptoCardSaid : Prop := Claim7.holds Tryd.pinned (.plain (OpenSpec.upto fnWordsSpec)) fnWordsUptoCard
end Rows
end Go.Proofs.YtndkcflepjinaaaDoor
