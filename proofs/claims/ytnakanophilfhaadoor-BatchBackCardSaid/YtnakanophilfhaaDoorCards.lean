/-
  DERIVED. GIVEN WITH THE SEED: THE CARDS: each row of YtnakanophilfhaaDoorRows.lean that lists a variable, with what it lists TIED to the program's text (the seventh form; the later family's looks); each row that meets fmt, with fmt's text TOLD by the authors' own Lean function (tested against real Go, not proved from fmt's source: count such statements apart). THE CARD IS WHAT COUNTS. Prove the row's statement (the work); the ties are given (YtnakanophilfhaaDoorTie.lean); close each card by the builder's one call (the guide's Derived/Test/ToyasCard.lean, 'card_holds'). Laid BY PROGRAM, IN A SANDBOX (cutbox-door.mjs). By AI agents, Wed Nov 11 2026. No macro, syntax, notation, axiom, sorry.
-/
import Derived.Test.YtnakanophilfhaaDoorRows
import GoSem.ClaimSeven
namespace Go.Proofs.YtnakanophilfhaaDoor
namespace Rows

/-- THE TIED CARD OF 'dioramalaw07.OpOne'. -/
def opOneCard : Claim7 := { stood := { row := opOneRow, standIns := [], harness := (true, "f9e3563e4051185c069f5b7873f908ad17e36b595bc7f1a5c3954d33ff274195"), looks := false }, kinds := [], alts := [], laidByText := true, laidKinds := [.data, .data], laidTests := true, laidLooks := .later }
def OpOneCardSaid : Prop := Claim7.holds Tryd.pinned (.plain (OpenSpec.ofChange opOneSpec)) opOneCard

/-- THE TIED CARD OF 'dioramalaw07.OpForms'. -/
def opFormsCard : Claim7 := { stood := { row := opFormsRow, standIns := [], harness := (true, "f9e3563e4051185c069f5b7873f908ad17e36b595bc7f1a5c3954d33ff274195"), looks := false }, kinds := [], alts := [], laidByText := true, laidKinds := [.data, .data], laidTests := true, laidLooks := .later }
def OpFormsCardSaid : Prop := Claim7.holds Tryd.pinned (.plain (OpenSpec.ofChange opFormsSpec)) opFormsCard

/-- THE TIED CARD OF 'dioramalaw07.OpReads'. -/
def opReadsCard : Claim7 := { stood := { row := opReadsRow, standIns := [], harness := (true, "f9e3563e4051185c069f5b7873f908ad17e36b595bc7f1a5c3954d33ff274195"), looks := false }, kinds := [], alts := [], laidByText := true, laidKinds := [.data, .data], laidTests := true, laidLooks := .later }
def OpReadsCardSaid : Prop := Claim7.holds Tryd.pinned (.plain (OpenSpec.ofChange opReadsSpec)) opReadsCard

/-- THE TIED CARD OF 'dioramalaw07.OpBack'. -/
def opBackCard : Claim7 := { stood := { row := opBackRow, standIns := [], harness := (true, "f9e3563e4051185c069f5b7873f908ad17e36b595bc7f1a5c3954d33ff274195"), looks := false }, kinds := [], alts := [], laidByText := true, laidKinds := [.data, .data], laidTests := true, laidLooks := .later }
def OpBackCardSaid : Prop := Claim7.holds Tryd.pinned (.plain (OpenSpec.ofChange opBackSpec)) opBackCard

/-- THE TIED CARD OF 'dioramalaw08.BatchBack'. -/
def batchBackCard : Claim7 := { stood := { row := batchBackRow, standIns := [], harness := (true, "f9e3563e4051185c069f5b7873f908ad17e36b595bc7f1a5c3954d33ff274195"), looks := false }, kinds := [], alts := [], laidByText := true, laidKinds := [.data, .data], laidTests := true, laidLooks := .later }
def BatchBackCardSaid : Prop := Claim7.holds Tryd.pinned (.plain (OpenSpec.ofChange batchBackSpec)) batchBackCard

/-- THE TIED CARD OF 'dioramalaw08.BatchStamps'. -/
def batchStampsCard : Claim7 := { stood := { row := batchStampsRow, standIns := [], harness := (true, "f9e3563e4051185c069f5b7873f908ad17e36b595bc7f1a5c3954d33ff274195"), looks := false }, kinds := [], alts := [], laidByText := true, laidKinds := [.data, .data], laidTests := true, laidLooks := .later }
def BatchStampsCardSaid : Prop := Claim7.holds Tryd.pinned (.plain (OpenSpec.ofChange batchStampsSpec)) batchStampsCard

/-- THE TIED CARD OF 'dioramalaw08.BatchRot'. -/
def batchRotCard : Claim7 := { stood := { row := batchRotRow, standIns := [], harness := (true, "f9e3563e4051185c069f5b7873f908ad17e36b595bc7f1a5c3954d33ff274195"), looks := false }, kinds := [], alts := [], laidByText := true, laidKinds := [.data, .data], laidTests := true, laidLooks := .later }
def BatchRotCardSaid : Prop := Claim7.holds Tryd.pinned (.plain (OpenSpec.ofChange batchRotSpec)) batchRotCard

/-- THE SECOND FORM's CARD OF 'dioramalaw07.OpOne'. -/
def opOneUptoCard : Claim7 := { stood := { row := opOneUptoRow, standIns := [], harness := (true, "f9e3563e4051185c069f5b7873f908ad17e36b595bc7f1a5c3954d33ff274195"), looks := false }, kinds := [], alts := [], laidByText := true, laidKinds := [.data, .data], laidTests := true, laidLooks := .later }
def OpOneUptoCardSaid : Prop := Claim7.holds Tryd.pinned (.plain (OpenSpec.upto opOneSpec)) opOneUptoCard

/-- THE SECOND FORM's CARD OF 'dioramalaw07.OpForms'. -/
def opFormsUptoCard : Claim7 := { stood := { row := opFormsUptoRow, standIns := [], harness := (true, "f9e3563e4051185c069f5b7873f908ad17e36b595bc7f1a5c3954d33ff274195"), looks := false }, kinds := [], alts := [], laidByText := true, laidKinds := [.data, .data], laidTests := true, laidLooks := .later }
def OpFormsUptoCardSaid : Prop := Claim7.holds Tryd.pinned (.plain (OpenSpec.upto opFormsSpec)) opFormsUptoCard

/-- THE SECOND FORM's CARD OF 'dioramalaw07.OpReads'. -/
def opReadsUptoCard : Claim7 := { stood := { row := opReadsUptoRow, standIns := [], harness := (true, "f9e3563e4051185c069f5b7873f908ad17e36b595bc7f1a5c3954d33ff274195"), looks := false }, kinds := [], alts := [], laidByText := true, laidKinds := [.data, .data], laidTests := true, laidLooks := .later }
def OpReadsUptoCardSaid : Prop := Claim7.holds Tryd.pinned (.plain (OpenSpec.upto opReadsSpec)) opReadsUptoCard

/-- THE SECOND FORM's CARD OF 'dioramalaw07.OpBack'. -/
def opBackUptoCard : Claim7 := { stood := { row := opBackUptoRow, standIns := [], harness := (true, "f9e3563e4051185c069f5b7873f908ad17e36b595bc7f1a5c3954d33ff274195"), looks := false }, kinds := [], alts := [], laidByText := true, laidKinds := [.data, .data], laidTests := true, laidLooks := .later }
def OpBackUptoCardSaid : Prop := Claim7.holds Tryd.pinned (.plain (OpenSpec.upto opBackSpec)) opBackUptoCard

/-- THE SECOND FORM's CARD OF 'dioramalaw08.BatchBack'. -/
def batchBackUptoCard : Claim7 := { stood := { row := batchBackUptoRow, standIns := [], harness := (true, "f9e3563e4051185c069f5b7873f908ad17e36b595bc7f1a5c3954d33ff274195"), looks := false }, kinds := [], alts := [], laidByText := true, laidKinds := [.data, .data], laidTests := true, laidLooks := .later }
def BatchBackUptoCardSaid : Prop := Claim7.holds Tryd.pinned (.plain (OpenSpec.upto batchBackSpec)) batchBackUptoCard

/-- THE SECOND FORM's CARD OF 'dioramalaw08.BatchStamps'. -/
def batchStampsUptoCard : Claim7 := { stood := { row := batchStampsUptoRow, standIns := [], harness := (true, "f9e3563e4051185c069f5b7873f908ad17e36b595bc7f1a5c3954d33ff274195"), looks := false }, kinds := [], alts := [], laidByText := true, laidKinds := [.data, .data], laidTests := true, laidLooks := .later }
def BatchStampsUptoCardSaid : Prop := Claim7.holds Tryd.pinned (.plain (OpenSpec.upto batchStampsSpec)) batchStampsUptoCard

/-- THE SECOND FORM's CARD OF 'dioramalaw08.BatchRot'. -/
def batchRotUptoCard : Claim7 := { stood := { row := batchRotUptoRow, standIns := [], harness := (true, "f9e3563e4051185c069f5b7873f908ad17e36b595bc7f1a5c3954d33ff274195"), looks := false }, kinds := [], alts := [], laidByText := true, laidKinds := [.data, .data], laidTests := true, laidLooks := .later }
def BatchRotUptoCardSaid : Prop := Claim7.holds Tryd.pinned (.plain (OpenSpec.upto batchRotSpec)) batchRotUptoCard
end Rows
end Go.Proofs.YtnakanophilfhaaDoor
