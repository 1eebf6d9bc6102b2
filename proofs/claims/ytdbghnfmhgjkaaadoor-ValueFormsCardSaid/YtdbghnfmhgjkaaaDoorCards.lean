/-
  DERIVED. GIVEN WITH THE SEED: THE CARDS: each row of YtdbghnfmhgjkaaaDoorRows.lean that lists a variable, with what it lists TIED to the program's text (the seventh form; the later family's looks); each row that meets fmt, with fmt's text TOLD by the authors' own Lean function (tested against real Go, not proved from fmt's source: count such statements apart). THE CARD IS WHAT COUNTS. Prove the row's statement (the work); the ties are given (YtdbghnfmhgjkaaaDoorTie.lean); close each card by the builder's one call (the guide's Derived/Test/ToyasCard.lean, 'card_holds'). Laid BY PROGRAM, IN A SANDBOX (cutbox-door.mjs). By AI agents, Wed Nov 11 2026. No macro, syntax, notation, axiom, sorry.
-/
import Derived.Test.YtdbghnfmhgjkaaaDoorRows
import GoSem.ClaimSeven
namespace Go.Proofs.YtdbghnfmhgjkaaaDoor
namespace Rows

/-- THE TIED CARD OF 'dioramalaw02.StampClocks'. -/
def stampClocksCard : Claim7 := { stood := { row := stampClocksRow, standIns := [], harness := (true, "f61d90338148c9ad1607f502a8a8672902af51660f4f269250b7a8a8cdc9338d"), looks := true }, kinds := [], alts := [], laidByText := true, laidKinds := [.data, .data, .data], laidTests := true, laidLooks := .later }
def StampClocksCardSaid : Prop := Claim7.holds Tryd.pinned (.plain (OpenSpec.ofChange stampClocksSpec)) stampClocksCard

/-- THE TIED CARD OF 'dioramalaw02.StampNil'. -/
def stampNilCard : Claim7 := { stood := { row := stampNilRow, standIns := [], harness := (true, "f61d90338148c9ad1607f502a8a8672902af51660f4f269250b7a8a8cdc9338d"), looks := true }, kinds := [], alts := [], laidByText := true, laidKinds := [.data, .data, .data], laidTests := true, laidLooks := .later }
def StampNilCardSaid : Prop := Claim7.holds Tryd.pinned (.plain (OpenSpec.ofChange stampNilSpec)) stampNilCard

/-- THE TIED CARD OF 'dioramalaw02.StampAhead'. -/
def stampAheadCard : Claim7 := { stood := { row := stampAheadRow, standIns := [], harness := (true, "f61d90338148c9ad1607f502a8a8672902af51660f4f269250b7a8a8cdc9338d"), looks := true }, kinds := [], alts := [], laidByText := true, laidKinds := [.data, .data, .data], laidTests := true, laidLooks := .later }
def StampAheadCardSaid : Prop := Claim7.holds Tryd.pinned (.plain (OpenSpec.ofChange stampAheadSpec)) stampAheadCard

/-- THE TIED CARD OF 'dioramalaw02.StampOrder'. -/
def stampOrderCard : Claim7 := { stood := { row := stampOrderRow, standIns := [], harness := (true, "f61d90338148c9ad1607f502a8a8672902af51660f4f269250b7a8a8cdc9338d"), looks := true }, kinds := [], alts := [], laidByText := true, laidKinds := [.data, .data, .data], laidTests := true, laidLooks := .later }
def StampOrderCardSaid : Prop := Claim7.holds Tryd.pinned (.plain (OpenSpec.ofChange stampOrderSpec)) stampOrderCard

/-- THE TIED CARD OF 'dioramalaw03.ValueTimes'. -/
def valueTimesCard : Claim7 := { stood := { row := valueTimesRow, standIns := [], harness := (true, "f61d90338148c9ad1607f502a8a8672902af51660f4f269250b7a8a8cdc9338d"), looks := true }, kinds := [], alts := [], laidByText := true, laidKinds := [.data, .data, .data], laidTests := true, laidLooks := .later }
def ValueTimesCardSaid : Prop := Claim7.holds Tryd.pinned (.plain (OpenSpec.ofChange valueTimesSpec)) valueTimesCard

/-- THE TIED CARD OF 'dioramalaw03.ValueSums'. -/
def valueSumsCard : Claim7 := { stood := { row := valueSumsRow, standIns := [], harness := (true, "f61d90338148c9ad1607f502a8a8672902af51660f4f269250b7a8a8cdc9338d"), looks := true }, kinds := [], alts := [], laidByText := true, laidKinds := [.data, .data, .data], laidTests := true, laidLooks := .later }
def ValueSumsCardSaid : Prop := Claim7.holds Tryd.pinned (.plain (OpenSpec.ofChange valueSumsSpec)) valueSumsCard

/-- THE TIED CARD OF 'dioramalaw03.ValueOvers'. -/
def valueOversCard : Claim7 := { stood := { row := valueOversRow, standIns := [], harness := (true, "f61d90338148c9ad1607f502a8a8672902af51660f4f269250b7a8a8cdc9338d"), looks := true }, kinds := [], alts := [], laidByText := true, laidKinds := [.data, .data, .data], laidTests := true, laidLooks := .later }
def ValueOversCardSaid : Prop := Claim7.holds Tryd.pinned (.plain (OpenSpec.ofChange valueOversSpec)) valueOversCard

/-- THE TIED CARD OF 'dioramalaw03.ValueLaws'. -/
def valueLawsCard : Claim7 := { stood := { row := valueLawsRow, standIns := [], harness := (true, "f61d90338148c9ad1607f502a8a8672902af51660f4f269250b7a8a8cdc9338d"), looks := true }, kinds := [], alts := [], laidByText := true, laidKinds := [.data, .data, .data], laidTests := true, laidLooks := .later }
def ValueLawsCardSaid : Prop := Claim7.holds Tryd.pinned (.plain (OpenSpec.ofChange valueLawsSpec)) valueLawsCard

/-- THE TIED CARD OF 'dioramalaw02.StampBack'. -/
def stampBackCard : Claim7 := { stood := { row := stampBackRow, standIns := [], harness := (true, "f61d90338148c9ad1607f502a8a8672902af51660f4f269250b7a8a8cdc9338d"), looks := true }, kinds := [], alts := [], laidByText := true, laidKinds := [.data, .data, .data, .sentinel, .sentinel], laidTests := true, laidLooks := .later }
def StampBackCardSaid : Prop := Claim7.holds Tryd.pinned (.plain (OpenSpec.ofChange stampBackSpec)) stampBackCard

/-- THE TIED CARD OF 'dioramalaw02.StampForms'. -/
def stampFormsCard : Claim7 := { stood := { row := stampFormsRow, standIns := [], harness := (true, "f61d90338148c9ad1607f502a8a8672902af51660f4f269250b7a8a8cdc9338d"), looks := true }, kinds := [], alts := [], laidByText := true, laidKinds := [.data, .data, .data, .sentinel, .sentinel], laidTests := true, laidLooks := .later }
def StampFormsCardSaid : Prop := Claim7.holds Tryd.pinned (.plain (OpenSpec.ofChange stampFormsSpec)) stampFormsCard

/-- THE TIED CARD OF 'dioramalaw03.ValueForms'. -/
def valueFormsCard : Claim7 := { stood := { row := valueFormsRow, standIns := [], harness := (true, "f61d90338148c9ad1607f502a8a8672902af51660f4f269250b7a8a8cdc9338d"), looks := true }, kinds := [], alts := [], laidByText := true, laidKinds := [.data, .data, .data, .sentinel, .sentinel], laidTests := true, laidLooks := .later }
def ValueFormsCardSaid : Prop := Claim7.holds Tryd.pinned (.plain (OpenSpec.ofChange valueFormsSpec)) valueFormsCard

/-- THE TIED CARD OF 'dioramalaw03.ValueBack'. -/
def valueBackCard : Claim7 := { stood := { row := valueBackRow, standIns := [], harness := (true, "f61d90338148c9ad1607f502a8a8672902af51660f4f269250b7a8a8cdc9338d"), looks := true }, kinds := [], alts := [], laidByText := true, laidKinds := [.data, .data, .data, .sentinel, .sentinel], laidTests := true, laidLooks := .later }
def ValueBackCardSaid : Prop := Claim7.holds Tryd.pinned (.plain (OpenSpec.ofChange valueBackSpec)) valueBackCard

/-- THE SECOND FORM's CARD OF 'dioramalaw02.StampClocks'. -/
def stampClocksUptoCard : Claim7 := { stood := { row := stampClocksUptoRow, standIns := [], harness := (true, "f61d90338148c9ad1607f502a8a8672902af51660f4f269250b7a8a8cdc9338d"), looks := true }, kinds := [], alts := [], laidByText := true, laidKinds := [.data, .data, .data], laidTests := true, laidLooks := .later }
def StampClocksUptoCardSaid : Prop := Claim7.holds Tryd.pinned (.plain (OpenSpec.upto stampClocksSpec)) stampClocksUptoCard

/-- THE SECOND FORM's CARD OF 'dioramalaw02.StampNil'. -/
def stampNilUptoCard : Claim7 := { stood := { row := stampNilUptoRow, standIns := [], harness := (true, "f61d90338148c9ad1607f502a8a8672902af51660f4f269250b7a8a8cdc9338d"), looks := true }, kinds := [], alts := [], laidByText := true, laidKinds := [.data, .data, .data], laidTests := true, laidLooks := .later }
def StampNilUptoCardSaid : Prop := Claim7.holds Tryd.pinned (.plain (OpenSpec.upto stampNilSpec)) stampNilUptoCard

/-- THE SECOND FORM's CARD OF 'dioramalaw02.StampAhead'. -/
def stampAheadUptoCard : Claim7 := { stood := { row := stampAheadUptoRow, standIns := [], harness := (true, "f61d90338148c9ad1607f502a8a8672902af51660f4f269250b7a8a8cdc9338d"), looks := true }, kinds := [], alts := [], laidByText := true, laidKinds := [.data, .data, .data], laidTests := true, laidLooks := .later }
def StampAheadUptoCardSaid : Prop := Claim7.holds Tryd.pinned (.plain (OpenSpec.upto stampAheadSpec)) stampAheadUptoCard

/-- THE SECOND FORM's CARD OF 'dioramalaw02.StampOrder'. -/
def stampOrderUptoCard : Claim7 := { stood := { row := stampOrderUptoRow, standIns := [], harness := (true, "f61d90338148c9ad1607f502a8a8672902af51660f4f269250b7a8a8cdc9338d"), looks := true }, kinds := [], alts := [], laidByText := true, laidKinds := [.data, .data, .data], laidTests := true, laidLooks := .later }
def StampOrderUptoCardSaid : Prop := Claim7.holds Tryd.pinned (.plain (OpenSpec.upto stampOrderSpec)) stampOrderUptoCard

/-- THE SECOND FORM's CARD OF 'dioramalaw03.ValueTimes'. -/
def valueTimesUptoCard : Claim7 := { stood := { row := valueTimesUptoRow, standIns := [], harness := (true, "f61d90338148c9ad1607f502a8a8672902af51660f4f269250b7a8a8cdc9338d"), looks := true }, kinds := [], alts := [], laidByText := true, laidKinds := [.data, .data, .data], laidTests := true, laidLooks := .later }
def ValueTimesUptoCardSaid : Prop := Claim7.holds Tryd.pinned (.plain (OpenSpec.upto valueTimesSpec)) valueTimesUptoCard

/-- THE SECOND FORM's CARD OF 'dioramalaw03.ValueSums'. -/
def valueSumsUptoCard : Claim7 := { stood := { row := valueSumsUptoRow, standIns := [], harness := (true, "f61d90338148c9ad1607f502a8a8672902af51660f4f269250b7a8a8cdc9338d"), looks := true }, kinds := [], alts := [], laidByText := true, laidKinds := [.data, .data, .data], laidTests := true, laidLooks := .later }
def ValueSumsUptoCardSaid : Prop := Claim7.holds Tryd.pinned (.plain (OpenSpec.upto valueSumsSpec)) valueSumsUptoCard

/-- THE SECOND FORM's CARD OF 'dioramalaw03.ValueOvers'. -/
def valueOversUptoCard : Claim7 := { stood := { row := valueOversUptoRow, standIns := [], harness := (true, "f61d90338148c9ad1607f502a8a8672902af51660f4f269250b7a8a8cdc9338d"), looks := true }, kinds := [], alts := [], laidByText := true, laidKinds := [.data, .data, .data], laidTests := true, laidLooks := .later }
def ValueOversUptoCardSaid : Prop := Claim7.holds Tryd.pinned (.plain (OpenSpec.upto valueOversSpec)) valueOversUptoCard

/-- THE SECOND FORM's CARD OF 'dioramalaw03.ValueLaws'. -/
def valueLawsUptoCard : Claim7 := { stood := { row := valueLawsUptoRow, standIns := [], harness := (true, "f61d90338148c9ad1607f502a8a8672902af51660f4f269250b7a8a8cdc9338d"), looks := true }, kinds := [], alts := [], laidByText := true, laidKinds := [.data, .data, .data], laidTests := true, laidLooks := .later }
def ValueLawsUptoCardSaid : Prop := Claim7.holds Tryd.pinned (.plain (OpenSpec.upto valueLawsSpec)) valueLawsUptoCard

/-- THE SECOND FORM's CARD OF 'dioramalaw02.StampBack'. -/
def stampBackUptoCard : Claim7 := { stood := { row := stampBackUptoRow, standIns := [], harness := (true, "f61d90338148c9ad1607f502a8a8672902af51660f4f269250b7a8a8cdc9338d"), looks := true }, kinds := [], alts := [], laidByText := true, laidKinds := [.data, .data, .data, .sentinel, .sentinel], laidTests := true, laidLooks := .later }
def StampBackUptoCardSaid : Prop := Claim7.holds Tryd.pinned (.plain (OpenSpec.upto stampBackSpec)) stampBackUptoCard

/-- THE SECOND FORM's CARD OF 'dioramalaw02.StampForms'. -/
def stampFormsUptoCard : Claim7 := { stood := { row := stampFormsUptoRow, standIns := [], harness := (true, "f61d90338148c9ad1607f502a8a8672902af51660f4f269250b7a8a8cdc9338d"), looks := true }, kinds := [], alts := [], laidByText := true, laidKinds := [.data, .data, .data, .sentinel, .sentinel], laidTests := true, laidLooks := .later }
def StampFormsUptoCardSaid : Prop := Claim7.holds Tryd.pinned (.plain (OpenSpec.upto stampFormsSpec)) stampFormsUptoCard

/-- THE SECOND FORM's CARD OF 'dioramalaw03.ValueForms'. -/
def valueFormsUptoCard : Claim7 := { stood := { row := valueFormsUptoRow, standIns := [], harness := (true, "f61d90338148c9ad1607f502a8a8672902af51660f4f269250b7a8a8cdc9338d"), looks := true }, kinds := [], alts := [], laidByText := true, laidKinds := [.data, .data, .data, .sentinel, .sentinel], laidTests := true, laidLooks := .later }
def ValueFormsUptoCardSaid : Prop := Claim7.holds Tryd.pinned (.plain (OpenSpec.upto valueFormsSpec)) valueFormsUptoCard

/-- THE SECOND FORM's CARD OF 'dioramalaw03.ValueBack'. -/
def valueBackUptoCard : Claim7 := { stood := { row := valueBackUptoRow, standIns := [], harness := (true, "f61d90338148c9ad1607f502a8a8672902af51660f4f269250b7a8a8cdc9338d"), looks := true }, kinds := [], alts := [], laidByText := true, laidKinds := [.data, .data, .data, .sentinel, .sentinel], laidTests := true, laidLooks := .later }
def ValueBackUptoCardSaid : Prop := Claim7.holds Tryd.pinned (.plain (OpenSpec.upto valueBackSpec)) valueBackUptoCard
end Rows
end Go.Proofs.YtdbghnfmhgjkaaaDoor
