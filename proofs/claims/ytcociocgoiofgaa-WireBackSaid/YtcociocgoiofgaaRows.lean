/-
  No cell of these rows narrows 'for every input' (looked for: loops, veiled, ifaces, maps, wideKeys, modest, calm, conditions, laid).
  DERIVED. THE GIVEN ROWS OF THIS SEAT. 15 by the template 'for every input the law returns true; each argument reads behind the call as it read before'; 0 by the template 'total and deterministic' (their statements: YtcociocgoiofgaaTotals.lean).
  GIVEN WITH THE SEED: the statements are not yours to turn. If you find one false, say at which input.
  Laid BY PROGRAM, IN A SANDBOX (cutbox-rows.mjs): the forced cells as the released guide's own fill.sh prints them over the translation b7837e141cf01c76… (all of the seat's roots in one cut). By AI agents, Wed Nov 11 2026. No macro, syntax, notation, axiom, sorry.
-/
import Derived.Test.YtcociocgoiofgaaChecked
import GoSem.Claim
import GoSem.ClaimJoined
import GoSem.ClaimMapViews
import Derived.JoinedTies
import Derived.KernelRfl
namespace Go.Proofs.Ytcociocgoiofgaa
/- THE CELL 'sum', in the pinned program and in every row, IS THE sha256 OF THE DUMP (.gsa) THAT YtcociocgoiofgaaProg.lean LOADS. Nothing in Lean hashes anything: it is a label: what it is worth is what the hold of that sum in a sandbox is worth. -/
noncomputable def Try.pinned : Pinned := { name := "ytcociocgoiofgaa", sum := "b7837e141cf01c76383535aedc2d0c783f9488bce89425c03259cda94589b8e6", checked := Try.checked }
namespace Rows
def none {H : Type} : Left H := { results := [], args := [] }

/-- 'dioramalaw01.WireUnframes': WHATEVER THE INPUT: true; the input reads as it did. -/
def wireUnframesSpec : ChangeSpec := { name := "wireUnframes", fn := fun _ => fun
  | [d] => { results := [.lit (.bool true)], args := [d] }
  | _ => none }
def wireUnframesRow : OpenClaim := { program := "ytcociocgoiofgaa", sum := "b7837e141cf01c76383535aedc2d0c783f9488bce89425c03259cda94589b8e6", func := "diorama/dioramalaw01.WireUnframes", spec := "wireUnframes", plainKeys := false, apart := false }
def WireUnframesSaid : Prop := wireUnframesRow.holds Try.pinned (OpenSpec.ofChange wireUnframesSpec)

/-- ITS FALSE NEIGHBOUR: 'it returns false'. Refute it at one input. -/
def wireUnframesWrong : ChangeSpec := { name := "wireUnframes", fn := fun _ => fun
  | [d] => { results := [.lit (.bool false)], args := [d] }
  | _ => none }
def WireUnframesWrongFalsely : Prop := wireUnframesRow.holds Try.pinned (OpenSpec.ofChange wireUnframesWrong)

/-- 'dioramalaw01.WireRot': WHATEVER THE INPUT: true; the input reads as it did. -/
def wireRotSpec : ChangeSpec := { name := "wireRot", fn := fun _ => fun
  | [d1, d2, d3] => { results := [.lit (.bool true)], args := [d1, d2, d3] }
  | _ => none }
def wireRotRow : OpenClaim := { program := "ytcociocgoiofgaa", sum := "b7837e141cf01c76383535aedc2d0c783f9488bce89425c03259cda94589b8e6", func := "diorama/dioramalaw01.WireRot", spec := "wireRot", plainKeys := false, apart := false }
def WireRotSaid : Prop := wireRotRow.holds Try.pinned (OpenSpec.ofChange wireRotSpec)

/-- ITS FALSE NEIGHBOUR: 'it returns false'. Refute it at one input. -/
def wireRotWrong : ChangeSpec := { name := "wireRot", fn := fun _ => fun
  | [d1, d2, d3] => { results := [.lit (.bool false)], args := [d1, d2, d3] }
  | _ => none }
def WireRotWrongFalsely : Prop := wireRotRow.holds Try.pinned (OpenSpec.ofChange wireRotWrong)

/-- 'dioramalaw28.LinkSends': WHATEVER THE INPUT: true; the input reads as it did. -/
def linkSendsSpec : ChangeSpec := { name := "linkSends", fn := fun _ => fun
  | [d1, d2, d3] => { results := [.lit (.bool true)], args := [d1, d2, d3] }
  | _ => none }
def linkSendsRow : OpenClaim := { program := "ytcociocgoiofgaa", sum := "b7837e141cf01c76383535aedc2d0c783f9488bce89425c03259cda94589b8e6", func := "diorama/dioramalaw28.LinkSends", spec := "linkSends", plainKeys := false, apart := false }
def LinkSendsSaid : Prop := linkSendsRow.holds Try.pinned (OpenSpec.ofChange linkSendsSpec)

/-- ITS FALSE NEIGHBOUR: 'it returns false'. Refute it at one input. -/
def linkSendsWrong : ChangeSpec := { name := "linkSends", fn := fun _ => fun
  | [d1, d2, d3] => { results := [.lit (.bool false)], args := [d1, d2, d3] }
  | _ => none }
def LinkSendsWrongFalsely : Prop := linkSendsRow.holds Try.pinned (OpenSpec.ofChange linkSendsWrong)

/-- 'dioramalaw01.WireWrites': WHATEVER THE INPUT: true; the input reads as it did. -/
def wireWritesSpec : ChangeSpec := { name := "wireWrites", fn := fun _ => fun
  | [d1, d2, d3] => { results := [.lit (.bool true)], args := [d1, d2, d3] }
  | _ => none }
def wireWritesRow : OpenClaim := { program := "ytcociocgoiofgaa", sum := "b7837e141cf01c76383535aedc2d0c783f9488bce89425c03259cda94589b8e6", func := "diorama/dioramalaw01.WireWrites", spec := "wireWrites", plainKeys := false, apart := false }
def WireWritesSaid : Prop := wireWritesRow.holds Try.pinned (OpenSpec.ofChange wireWritesSpec)

/-- ITS FALSE NEIGHBOUR: 'it returns false'. Refute it at one input. -/
def wireWritesWrong : ChangeSpec := { name := "wireWrites", fn := fun _ => fun
  | [d1, d2, d3] => { results := [.lit (.bool false)], args := [d1, d2, d3] }
  | _ => none }
def WireWritesWrongFalsely : Prop := wireWritesRow.holds Try.pinned (OpenSpec.ofChange wireWritesWrong)

/-- 'dioramalaw28.LinkReceives': WHATEVER THE INPUT: true; the input reads as it did. -/
def linkReceivesSpec : ChangeSpec := { name := "linkReceives", fn := fun _ => fun
  | [d1, d2] => { results := [.lit (.bool true)], args := [d1, d2] }
  | _ => none }
def linkReceivesRow : OpenClaim := { program := "ytcociocgoiofgaa", sum := "b7837e141cf01c76383535aedc2d0c783f9488bce89425c03259cda94589b8e6", func := "diorama/dioramalaw28.LinkReceives", spec := "linkReceives", plainKeys := false, apart := false }
def LinkReceivesSaid : Prop := linkReceivesRow.holds Try.pinned (OpenSpec.ofChange linkReceivesSpec)

/-- ITS FALSE NEIGHBOUR: 'it returns false'. Refute it at one input. -/
def linkReceivesWrong : ChangeSpec := { name := "linkReceives", fn := fun _ => fun
  | [d1, d2] => { results := [.lit (.bool false)], args := [d1, d2] }
  | _ => none }
def LinkReceivesWrongFalsely : Prop := linkReceivesRow.holds Try.pinned (OpenSpec.ofChange linkReceivesWrong)

/-- 'dioramalaw28.LinkNil': WHATEVER THE INPUT: true; the input reads as it did. -/
def linkNilSpec : ChangeSpec := { name := "linkNil", fn := fun _ => fun
  | [d1, d2] => { results := [.lit (.bool true)], args := [d1, d2] }
  | _ => none }
def linkNilRow : OpenClaim := { program := "ytcociocgoiofgaa", sum := "b7837e141cf01c76383535aedc2d0c783f9488bce89425c03259cda94589b8e6", func := "diorama/dioramalaw28.LinkNil", spec := "linkNil", plainKeys := false, apart := false }
def LinkNilSaid : Prop := linkNilRow.holds Try.pinned (OpenSpec.ofChange linkNilSpec)

/-- ITS FALSE NEIGHBOUR: 'it returns false'. Refute it at one input. -/
def linkNilWrong : ChangeSpec := { name := "linkNil", fn := fun _ => fun
  | [d1, d2] => { results := [.lit (.bool false)], args := [d1, d2] }
  | _ => none }
def LinkNilWrongFalsely : Prop := linkNilRow.holds Try.pinned (OpenSpec.ofChange linkNilWrong)

/-- 'dioramalaw28.LinkArrives': WHATEVER THE INPUT: true; the input reads as it did. -/
def linkArrivesSpec : ChangeSpec := { name := "linkArrives", fn := fun _ => fun
  | [d1, d2, d3] => { results := [.lit (.bool true)], args := [d1, d2, d3] }
  | _ => none }
def linkArrivesRow : OpenClaim := { program := "ytcociocgoiofgaa", sum := "b7837e141cf01c76383535aedc2d0c783f9488bce89425c03259cda94589b8e6", func := "diorama/dioramalaw28.LinkArrives", spec := "linkArrives", plainKeys := false, apart := false }
def LinkArrivesSaid : Prop := linkArrivesRow.holds Try.pinned (OpenSpec.ofChange linkArrivesSpec)

/-- ITS FALSE NEIGHBOUR: 'it returns false'. Refute it at one input. -/
def linkArrivesWrong : ChangeSpec := { name := "linkArrives", fn := fun _ => fun
  | [d1, d2, d3] => { results := [.lit (.bool false)], args := [d1, d2, d3] }
  | _ => none }
def LinkArrivesWrongFalsely : Prop := linkArrivesRow.holds Try.pinned (OpenSpec.ofChange linkArrivesWrong)

/-- 'dioramalaw27.PacketSplits': WHATEVER THE INPUT: true; the input reads as it did. -/
def packetSplitsSpec : ChangeSpec := { name := "packetSplits", fn := fun _ => fun
  | [d1, d2, d3, d4] => { results := [.lit (.bool true)], args := [d1, d2, d3, d4] }
  | _ => none }
def packetSplitsRow : OpenClaim := { program := "ytcociocgoiofgaa", sum := "b7837e141cf01c76383535aedc2d0c783f9488bce89425c03259cda94589b8e6", func := "diorama/dioramalaw27.PacketSplits", spec := "packetSplits", unfollowed := true, recurses := true, plainKeys := false, apart := false }
def PacketSplitsSaid : Prop := packetSplitsRow.holds Try.pinned (OpenSpec.ofChange packetSplitsSpec)

/-- ITS FALSE NEIGHBOUR: 'it returns false'. Refute it at one input. -/
def packetSplitsWrong : ChangeSpec := { name := "packetSplits", fn := fun _ => fun
  | [d1, d2, d3, d4] => { results := [.lit (.bool false)], args := [d1, d2, d3, d4] }
  | _ => none }
def PacketSplitsWrongFalsely : Prop := packetSplitsRow.holds Try.pinned (OpenSpec.ofChange packetSplitsWrong)

/-- 'dioramalaw27.PacketBack': WHATEVER THE INPUT: true; the input reads as it did. -/
def packetBackSpec : ChangeSpec := { name := "packetBack", fn := fun _ => fun
  | [d1, d2, d3, d4, d5] => { results := [.lit (.bool true)], args := [d1, d2, d3, d4, d5] }
  | _ => none }
def packetBackRow : OpenClaim := { program := "ytcociocgoiofgaa", sum := "b7837e141cf01c76383535aedc2d0c783f9488bce89425c03259cda94589b8e6", func := "diorama/dioramalaw27.PacketBack", spec := "packetBack", unfollowed := true, recurses := true, plainKeys := false, apart := false }
def PacketBackSaid : Prop := packetBackRow.holds Try.pinned (OpenSpec.ofChange packetBackSpec)

/-- ITS FALSE NEIGHBOUR: 'it returns false'. Refute it at one input. -/
def packetBackWrong : ChangeSpec := { name := "packetBack", fn := fun _ => fun
  | [d1, d2, d3, d4, d5] => { results := [.lit (.bool false)], args := [d1, d2, d3, d4, d5] }
  | _ => none }
def PacketBackWrongFalsely : Prop := packetBackRow.holds Try.pinned (OpenSpec.ofChange packetBackWrong)

/-- 'dioramalaw01.WireBack': WHATEVER THE INPUT: true; the input reads as it did. -/
def wireBackSpec : ChangeSpec := { name := "wireBack", fn := fun _ => fun
  | [d1, d2, d3] => { results := [.lit (.bool true)], args := [d1, d2, d3] }
  | _ => none }
def wireBackRow : OpenClaim := { program := "ytcociocgoiofgaa", sum := "b7837e141cf01c76383535aedc2d0c783f9488bce89425c03259cda94589b8e6", func := "diorama/dioramalaw01.WireBack", spec := "wireBack", plainKeys := false, apart := false }
def WireBackSaid : Prop := wireBackRow.holds Try.pinned (OpenSpec.ofChange wireBackSpec)

/-- ITS FALSE NEIGHBOUR: 'it returns false'. Refute it at one input. -/
def wireBackWrong : ChangeSpec := { name := "wireBack", fn := fun _ => fun
  | [d1, d2, d3] => { results := [.lit (.bool false)], args := [d1, d2, d3] }
  | _ => none }
def WireBackWrongFalsely : Prop := wireBackRow.holds Try.pinned (OpenSpec.ofChange wireBackWrong)

/-- 'dioramalaw01.WireNil': WHATEVER THE INPUT: true; the input reads as it did. -/
def wireNilSpec : ChangeSpec := { name := "wireNil", fn := fun _ => fun
  | [d] => { results := [.lit (.bool true)], args := [d] }
  | _ => none }
def wireNilRow : OpenClaim := { program := "ytcociocgoiofgaa", sum := "b7837e141cf01c76383535aedc2d0c783f9488bce89425c03259cda94589b8e6", func := "diorama/dioramalaw01.WireNil", spec := "wireNil", plainKeys := false, apart := false }
def WireNilSaid : Prop := wireNilRow.holds Try.pinned (OpenSpec.ofChange wireNilSpec)

/-- ITS FALSE NEIGHBOUR: 'it returns false'. Refute it at one input. -/
def wireNilWrong : ChangeSpec := { name := "wireNil", fn := fun _ => fun
  | [d] => { results := [.lit (.bool false)], args := [d] }
  | _ => none }
def WireNilWrongFalsely : Prop := wireNilRow.holds Try.pinned (OpenSpec.ofChange wireNilWrong)

/-- 'dioramalaw27.PacketJoins': WHATEVER THE INPUT: true; the input reads as it did. -/
def packetJoinsSpec : ChangeSpec := { name := "packetJoins", fn := fun _ => fun
  | [d1, d2] => { results := [.lit (.bool true)], args := [d1, d2] }
  | _ => none }
def packetJoinsRow : OpenClaim := { program := "ytcociocgoiofgaa", sum := "b7837e141cf01c76383535aedc2d0c783f9488bce89425c03259cda94589b8e6", func := "diorama/dioramalaw27.PacketJoins", spec := "packetJoins", inPlace := ["maps.clone"], unfollowed := true, recurses := true, plainKeys := false, apart := false }
def PacketJoinsSaid : Prop := packetJoinsRow.holds Try.pinned (OpenSpec.ofChange packetJoinsSpec)

/-- ITS FALSE NEIGHBOUR: 'it returns false'. Refute it at one input. -/
def packetJoinsWrong : ChangeSpec := { name := "packetJoins", fn := fun _ => fun
  | [d1, d2] => { results := [.lit (.bool false)], args := [d1, d2] }
  | _ => none }
def PacketJoinsWrongFalsely : Prop := packetJoinsRow.holds Try.pinned (OpenSpec.ofChange packetJoinsWrong)

/-- 'dioramalaw27.PacketNil': WHATEVER THE INPUT: true; the input reads as it did. -/
def packetNilSpec : ChangeSpec := { name := "packetNil", fn := fun _ => fun
  | [d] => { results := [.lit (.bool true)], args := [d] }
  | _ => none }
def packetNilRow : OpenClaim := { program := "ytcociocgoiofgaa", sum := "b7837e141cf01c76383535aedc2d0c783f9488bce89425c03259cda94589b8e6", func := "diorama/dioramalaw27.PacketNil", spec := "packetNil", inPlace := ["maps.clone"], unfollowed := true, recurses := true, plainKeys := false, apart := false }
def PacketNilSaid : Prop := packetNilRow.holds Try.pinned (OpenSpec.ofChange packetNilSpec)

/-- ITS FALSE NEIGHBOUR: 'it returns false'. Refute it at one input. -/
def packetNilWrong : ChangeSpec := { name := "packetNil", fn := fun _ => fun
  | [d] => { results := [.lit (.bool false)], args := [d] }
  | _ => none }
def PacketNilWrongFalsely : Prop := packetNilRow.holds Try.pinned (OpenSpec.ofChange packetNilWrong)

/-- 'dioramalaw27.PacketForms': WHATEVER THE INPUT: true; the input reads as it did. -/
def packetFormsSpec : ChangeSpec := { name := "packetForms", fn := fun _ => fun
  | [d1, d2, d3] => { results := [.lit (.bool true)], args := [d1, d2, d3] }
  | _ => none }
def packetFormsRow : OpenClaim := { program := "ytcociocgoiofgaa", sum := "b7837e141cf01c76383535aedc2d0c783f9488bce89425c03259cda94589b8e6", func := "diorama/dioramalaw27.PacketForms", spec := "packetForms", unfollowed := true, recurses := true, plainKeys := false, apart := false }
def PacketFormsSaid : Prop := packetFormsRow.holds Try.pinned (OpenSpec.ofChange packetFormsSpec)

/-- ITS FALSE NEIGHBOUR: 'it returns false'. Refute it at one input. -/
def packetFormsWrong : ChangeSpec := { name := "packetForms", fn := fun _ => fun
  | [d1, d2, d3] => { results := [.lit (.bool false)], args := [d1, d2, d3] }
  | _ => none }
def PacketFormsWrongFalsely : Prop := packetFormsRow.holds Try.pinned (OpenSpec.ofChange packetFormsWrong)

/-- 'dioramalaw28.LinkBytes': WHATEVER THE INPUT: true; the input reads as it did. -/
def linkBytesSpec : ChangeSpec := { name := "linkBytes", fn := fun _ => fun
  | [d1, d2, d3] => { results := [.lit (.bool true)], args := [d1, d2, d3] }
  | _ => none }
def linkBytesRow : OpenClaim := { program := "ytcociocgoiofgaa", sum := "b7837e141cf01c76383535aedc2d0c783f9488bce89425c03259cda94589b8e6", func := "diorama/dioramalaw28.LinkBytes", spec := "linkBytes", unfollowed := true, recurses := true, plainKeys := false, apart := false }
def LinkBytesSaid : Prop := linkBytesRow.holds Try.pinned (OpenSpec.ofChange linkBytesSpec)

/-- ITS FALSE NEIGHBOUR: 'it returns false'. Refute it at one input. -/
def linkBytesWrong : ChangeSpec := { name := "linkBytes", fn := fun _ => fun
  | [d1, d2, d3] => { results := [.lit (.bool false)], args := [d1, d2, d3] }
  | _ => none }
def LinkBytesWrongFalsely : Prop := linkBytesRow.holds Try.pinned (OpenSpec.ofChange linkBytesWrong)

/- THE SECOND FORM. 'bulk': how many values and letters a reading holds, each counted each time it is reached (what is shared counts as often as it is met; a slice's spare places count too). A statement '..UptoSaid' is the law's where the arguments, and the package variables that the reading takes, are together of bulk at most 1048576: NARROWER than '..Said'. Prove '..Said' where nothing that the law and all that it calls make is longer than what came in: it says more and counts as full. Else prove '..UptoSaid'. A law counts once. -/
mutual
def uptoBulk {H : Type} : DataW H → Nat
  | .lit (.string bytes) => bytes.length + 1
  | .lit _ => 1
  | .nil => 1
  | .ptr d => uptoBulk d + 1
  | .slice elems spare => uptoBulkAll elems + uptoBulkAll spare + 1
  | .agg parts => uptoBulkAll parts + 1
  | .iface _ d => uptoBulk d + 1
  | .map entries => uptoBulkEntries entries + 1
  | .held _ => 1
def uptoBulkAll {H : Type} : List (DataW H) → Nat
  | [] => 0
  | d :: r => uptoBulk d + uptoBulkAll r
def uptoBulkEntries {H : Type} : List (Lit × DataW H) → Nat
  | [] => 0
  | x :: r => uptoBulkEntry x + uptoBulkEntries r
def uptoBulkEntry {H : Type} : Lit × DataW H → Nat
  | (.string bytes, d) => bytes.length + uptoBulk d + 1
  | (_, d) => uptoBulk d + 1
 end
def uptoSmall : (H : Type) → List (DataW H) → Bool := fun _ ds => decide (uptoBulkAll ds ≤ 1048576)
def OpenSpec.upto (s : _root_.Go.ChangeSpec) : _root_.Go.OpenSpec := { _root_.Go.OpenSpec.ofChange s with cond := some uptoSmall }

/-- 'dioramalaw01.WireUnframes', WHERE WHAT IT READS IS OF BULK AT MOST 1048576: true; the input reads as it did. -/
def wireUnframesUptoRow : OpenClaim := { program := "ytcociocgoiofgaa", sum := "b7837e141cf01c76383535aedc2d0c783f9488bce89425c03259cda94589b8e6", func := "diorama/dioramalaw01.WireUnframes", spec := "wireUnframes", plainKeys := false, apart := false, narrowed := true }
def WireUnframesUptoSaid : Prop := wireUnframesUptoRow.holds Try.pinned (OpenSpec.upto wireUnframesSpec)

/-- 'dioramalaw01.WireRot', WHERE WHAT IT READS IS OF BULK AT MOST 1048576: true; the input reads as it did. -/
def wireRotUptoRow : OpenClaim := { program := "ytcociocgoiofgaa", sum := "b7837e141cf01c76383535aedc2d0c783f9488bce89425c03259cda94589b8e6", func := "diorama/dioramalaw01.WireRot", spec := "wireRot", plainKeys := false, apart := false, narrowed := true }
def WireRotUptoSaid : Prop := wireRotUptoRow.holds Try.pinned (OpenSpec.upto wireRotSpec)

/-- 'dioramalaw28.LinkSends', WHERE WHAT IT READS IS OF BULK AT MOST 1048576: true; the input reads as it did. -/
def linkSendsUptoRow : OpenClaim := { program := "ytcociocgoiofgaa", sum := "b7837e141cf01c76383535aedc2d0c783f9488bce89425c03259cda94589b8e6", func := "diorama/dioramalaw28.LinkSends", spec := "linkSends", plainKeys := false, apart := false, narrowed := true }
def LinkSendsUptoSaid : Prop := linkSendsUptoRow.holds Try.pinned (OpenSpec.upto linkSendsSpec)

/-- 'dioramalaw01.WireWrites', WHERE WHAT IT READS IS OF BULK AT MOST 1048576: true; the input reads as it did. -/
def wireWritesUptoRow : OpenClaim := { program := "ytcociocgoiofgaa", sum := "b7837e141cf01c76383535aedc2d0c783f9488bce89425c03259cda94589b8e6", func := "diorama/dioramalaw01.WireWrites", spec := "wireWrites", plainKeys := false, apart := false, narrowed := true }
def WireWritesUptoSaid : Prop := wireWritesUptoRow.holds Try.pinned (OpenSpec.upto wireWritesSpec)

/-- 'dioramalaw28.LinkReceives', WHERE WHAT IT READS IS OF BULK AT MOST 1048576: true; the input reads as it did. -/
def linkReceivesUptoRow : OpenClaim := { program := "ytcociocgoiofgaa", sum := "b7837e141cf01c76383535aedc2d0c783f9488bce89425c03259cda94589b8e6", func := "diorama/dioramalaw28.LinkReceives", spec := "linkReceives", plainKeys := false, apart := false, narrowed := true }
def LinkReceivesUptoSaid : Prop := linkReceivesUptoRow.holds Try.pinned (OpenSpec.upto linkReceivesSpec)

/-- 'dioramalaw28.LinkNil', WHERE WHAT IT READS IS OF BULK AT MOST 1048576: true; the input reads as it did. -/
def linkNilUptoRow : OpenClaim := { program := "ytcociocgoiofgaa", sum := "b7837e141cf01c76383535aedc2d0c783f9488bce89425c03259cda94589b8e6", func := "diorama/dioramalaw28.LinkNil", spec := "linkNil", plainKeys := false, apart := false, narrowed := true }
def LinkNilUptoSaid : Prop := linkNilUptoRow.holds Try.pinned (OpenSpec.upto linkNilSpec)

/-- 'dioramalaw28.LinkArrives', WHERE WHAT IT READS IS OF BULK AT MOST 1048576: true; the input reads as it did. -/
def linkArrivesUptoRow : OpenClaim := { program := "ytcociocgoiofgaa", sum := "b7837e141cf01c76383535aedc2d0c783f9488bce89425c03259cda94589b8e6", func := "diorama/dioramalaw28.LinkArrives", spec := "linkArrives", plainKeys := false, apart := false, narrowed := true }
def LinkArrivesUptoSaid : Prop := linkArrivesUptoRow.holds Try.pinned (OpenSpec.upto linkArrivesSpec)

/-- 'dioramalaw27.PacketSplits', WHERE WHAT IT READS IS OF BULK AT MOST 1048576: true; the input reads as it did. -/
def packetSplitsUptoRow : OpenClaim := { program := "ytcociocgoiofgaa", sum := "b7837e141cf01c76383535aedc2d0c783f9488bce89425c03259cda94589b8e6", func := "diorama/dioramalaw27.PacketSplits", spec := "packetSplits", unfollowed := true, recurses := true, plainKeys := false, apart := false, narrowed := true }
def PacketSplitsUptoSaid : Prop := packetSplitsUptoRow.holds Try.pinned (OpenSpec.upto packetSplitsSpec)

/-- 'dioramalaw27.PacketBack', WHERE WHAT IT READS IS OF BULK AT MOST 1048576: true; the input reads as it did. -/
def packetBackUptoRow : OpenClaim := { program := "ytcociocgoiofgaa", sum := "b7837e141cf01c76383535aedc2d0c783f9488bce89425c03259cda94589b8e6", func := "diorama/dioramalaw27.PacketBack", spec := "packetBack", unfollowed := true, recurses := true, plainKeys := false, apart := false, narrowed := true }
def PacketBackUptoSaid : Prop := packetBackUptoRow.holds Try.pinned (OpenSpec.upto packetBackSpec)

/-- 'dioramalaw01.WireBack', WHERE WHAT IT READS IS OF BULK AT MOST 1048576: true; the input reads as it did. -/
def wireBackUptoRow : OpenClaim := { program := "ytcociocgoiofgaa", sum := "b7837e141cf01c76383535aedc2d0c783f9488bce89425c03259cda94589b8e6", func := "diorama/dioramalaw01.WireBack", spec := "wireBack", plainKeys := false, apart := false, narrowed := true }
def WireBackUptoSaid : Prop := wireBackUptoRow.holds Try.pinned (OpenSpec.upto wireBackSpec)

/-- 'dioramalaw01.WireNil', WHERE WHAT IT READS IS OF BULK AT MOST 1048576: true; the input reads as it did. -/
def wireNilUptoRow : OpenClaim := { program := "ytcociocgoiofgaa", sum := "b7837e141cf01c76383535aedc2d0c783f9488bce89425c03259cda94589b8e6", func := "diorama/dioramalaw01.WireNil", spec := "wireNil", plainKeys := false, apart := false, narrowed := true }
def WireNilUptoSaid : Prop := wireNilUptoRow.holds Try.pinned (OpenSpec.upto wireNilSpec)

/-- 'dioramalaw27.PacketJoins', WHERE WHAT IT READS IS OF BULK AT MOST 1048576: true; the input reads as it did. -/
def packetJoinsUptoRow : OpenClaim := { program := "ytcociocgoiofgaa", sum := "b7837e141cf01c76383535aedc2d0c783f9488bce89425c03259cda94589b8e6", func := "diorama/dioramalaw27.PacketJoins", spec := "packetJoins", inPlace := ["maps.clone"], unfollowed := true, recurses := true, plainKeys := false, apart := false, narrowed := true }
def PacketJoinsUptoSaid : Prop := packetJoinsUptoRow.holds Try.pinned (OpenSpec.upto packetJoinsSpec)

/-- 'dioramalaw27.PacketNil', WHERE WHAT IT READS IS OF BULK AT MOST 1048576: true; the input reads as it did. -/
def packetNilUptoRow : OpenClaim := { program := "ytcociocgoiofgaa", sum := "b7837e141cf01c76383535aedc2d0c783f9488bce89425c03259cda94589b8e6", func := "diorama/dioramalaw27.PacketNil", spec := "packetNil", inPlace := ["maps.clone"], unfollowed := true, recurses := true, plainKeys := false, apart := false, narrowed := true }
def PacketNilUptoSaid : Prop := packetNilUptoRow.holds Try.pinned (OpenSpec.upto packetNilSpec)

/-- 'dioramalaw27.PacketForms', WHERE WHAT IT READS IS OF BULK AT MOST 1048576: true; the input reads as it did. -/
def packetFormsUptoRow : OpenClaim := { program := "ytcociocgoiofgaa", sum := "b7837e141cf01c76383535aedc2d0c783f9488bce89425c03259cda94589b8e6", func := "diorama/dioramalaw27.PacketForms", spec := "packetForms", unfollowed := true, recurses := true, plainKeys := false, apart := false, narrowed := true }
def PacketFormsUptoSaid : Prop := packetFormsUptoRow.holds Try.pinned (OpenSpec.upto packetFormsSpec)

/-- 'dioramalaw28.LinkBytes', WHERE WHAT IT READS IS OF BULK AT MOST 1048576: true; the input reads as it did. -/
def linkBytesUptoRow : OpenClaim := { program := "ytcociocgoiofgaa", sum := "b7837e141cf01c76383535aedc2d0c783f9488bce89425c03259cda94589b8e6", func := "diorama/dioramalaw28.LinkBytes", spec := "linkBytes", unfollowed := true, recurses := true, plainKeys := false, apart := false, narrowed := true }
def LinkBytesUptoSaid : Prop := linkBytesUptoRow.holds Try.pinned (OpenSpec.upto linkBytesSpec)

end Rows
end Go.Proofs.Ytcociocgoiofgaa
