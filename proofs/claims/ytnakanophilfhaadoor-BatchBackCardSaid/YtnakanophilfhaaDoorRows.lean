/-
  NARROWER THAN 'FOR EVERY INPUT', by the rows' own cells (each row's printed sentence says how): OpOne: laid · OpForms: laid · OpReads: laid · OpBack: laid · BatchBack: laid · BatchStamps: laid · BatchRot: laid.
  DERIVED. THE GIVEN ROWS OF THIS SEAT. 7 by the template 'for every input the law returns true; each argument reads behind the call as it read before'; 0 by the template 'total and deterministic' (their statements: YtnakanophilfhaaDoorTotals.lean).
  GIVEN WITH THE SEED: the statements are not yours to turn. If you find one false, say at which input.
  Laid BY PROGRAM, IN A SANDBOX (cutbox-rows.mjs): the forced cells as the released guide's own fill.sh prints them over the translation 1a90a3d27322f877… (all of the seat's roots in one cut). By AI agents, Wed Nov 11 2026. No macro, syntax, notation, axiom, sorry.
-/
import Derived.Test.YtnakanophilfhaaDoorChecked
import GoSem.Claim
import GoSem.ClaimJoined
import GoSem.ClaimMapViews
import Derived.JoinedTies
import Derived.KernelRfl
namespace Go.Proofs.YtnakanophilfhaaDoor
/- THE CELL 'sum', in the pinned program and in every row, IS THE sha256 OF THE DUMP (.gsa) THAT YtnakanophilfhaaDoorProg.lean LOADS. Nothing in Lean hashes anything: it is a label: what it is worth is what the hold of that sum in a sandbox is worth. -/
noncomputable def Tryd.pinned : Pinned := { name := "ytnakanophilfhaadoor", sum := "1a90a3d27322f8778644243c7a9cd72204c0a2f69adb39aedaea26ca02423c69", checked := Tryd.checked }
namespace Rows
def none {H : Type} : Left H := { results := [], args := [] }

/- WHAT THE LISTED PACKAGE-LEVEL VARIABLES READ AS WHEN THE CALL BEGINS. Each datum BY PROGRAM (the guide's laid-datum.mjs) off the statement by which the dump's own 'gosem.cut.vars' lays the variable. In a bare row this is a premise. The card (YtnakanophilfhaaDoorCards.lean) ties it to the program's text. -/
def laid_diorama_op_root {H : Type} : DataW H := .agg [.lit (.int .i64 0), .lit (.int .i64 0)]
def laid_diorama_op_trash {H : Type} : DataW H := .agg [.lit (.int .i64 0), .lit (.int .i64 1)]

/-- 'dioramalaw07.OpOne': WHATEVER THE INPUT: true; the input reads as it did. -/
def opOneSpec : ChangeSpec := { name := "opOne", fn := fun _ => fun
  | [d1, d2] => { results := [.lit (.bool true)], args := [d1, d2] }
  | _ => none }
def opOneRow : OpenClaim := { program := "ytnakanophilfhaadoor", sum := "1a90a3d27322f8778644243c7a9cd72204c0a2f69adb39aedaea26ca02423c69", func := "diorama/dioramalaw07.OpOne", spec := "opOne", unfollowed := true, recurses := true, named := ["diorama/op.root", "diorama/op.trash"], apart := false, laid := [("diorama/op.root", laid_diorama_op_root), ("diorama/op.trash", laid_diorama_op_trash)] }
def OpOneSaid : Prop := opOneRow.holds Tryd.pinned (OpenSpec.ofChange opOneSpec)

/-- ITS FALSE NEIGHBOUR: 'it returns false'. Refute it at one input. -/
def opOneWrong : ChangeSpec := { name := "opOne", fn := fun _ => fun
  | [d1, d2] => { results := [.lit (.bool false)], args := [d1, d2] }
  | _ => none }
def OpOneWrongFalsely : Prop := opOneRow.holds Tryd.pinned (OpenSpec.ofChange opOneWrong)

/-- 'dioramalaw07.OpForms': WHATEVER THE INPUT: true; the input reads as it did. -/
def opFormsSpec : ChangeSpec := { name := "opForms", fn := fun _ => fun
  | [d1, d2, d3, d4] => { results := [.lit (.bool true)], args := [d1, d2, d3, d4] }
  | _ => none }
def opFormsRow : OpenClaim := { program := "ytnakanophilfhaadoor", sum := "1a90a3d27322f8778644243c7a9cd72204c0a2f69adb39aedaea26ca02423c69", func := "diorama/dioramalaw07.OpForms", spec := "opForms", unfollowed := true, recurses := true, named := ["diorama/op.root", "diorama/op.trash"], apart := false, laid := [("diorama/op.root", laid_diorama_op_root), ("diorama/op.trash", laid_diorama_op_trash)] }
def OpFormsSaid : Prop := opFormsRow.holds Tryd.pinned (OpenSpec.ofChange opFormsSpec)

/-- ITS FALSE NEIGHBOUR: 'it returns false'. Refute it at one input. -/
def opFormsWrong : ChangeSpec := { name := "opForms", fn := fun _ => fun
  | [d1, d2, d3, d4] => { results := [.lit (.bool false)], args := [d1, d2, d3, d4] }
  | _ => none }
def OpFormsWrongFalsely : Prop := opFormsRow.holds Tryd.pinned (OpenSpec.ofChange opFormsWrong)

/-- 'dioramalaw07.OpReads': WHATEVER THE INPUT: true; the input reads as it did. -/
def opReadsSpec : ChangeSpec := { name := "opReads", fn := fun _ => fun
  | [d] => { results := [.lit (.bool true)], args := [d] }
  | _ => none }
def opReadsRow : OpenClaim := { program := "ytnakanophilfhaadoor", sum := "1a90a3d27322f8778644243c7a9cd72204c0a2f69adb39aedaea26ca02423c69", func := "diorama/dioramalaw07.OpReads", spec := "opReads", unfollowed := true, recurses := true, named := ["diorama/op.root", "diorama/op.trash"], apart := false, laid := [("diorama/op.root", laid_diorama_op_root), ("diorama/op.trash", laid_diorama_op_trash)] }
def OpReadsSaid : Prop := opReadsRow.holds Tryd.pinned (OpenSpec.ofChange opReadsSpec)

/-- ITS FALSE NEIGHBOUR: 'it returns false'. Refute it at one input. -/
def opReadsWrong : ChangeSpec := { name := "opReads", fn := fun _ => fun
  | [d] => { results := [.lit (.bool false)], args := [d] }
  | _ => none }
def OpReadsWrongFalsely : Prop := opReadsRow.holds Tryd.pinned (OpenSpec.ofChange opReadsWrong)

/-- 'dioramalaw07.OpBack': WHATEVER THE INPUT: true; the input reads as it did. -/
def opBackSpec : ChangeSpec := { name := "opBack", fn := fun _ => fun
  | [d] => { results := [.lit (.bool true)], args := [d] }
  | _ => none }
def opBackRow : OpenClaim := { program := "ytnakanophilfhaadoor", sum := "1a90a3d27322f8778644243c7a9cd72204c0a2f69adb39aedaea26ca02423c69", func := "diorama/dioramalaw07.OpBack", spec := "opBack", unfollowed := true, recurses := true, named := ["diorama/op.root", "diorama/op.trash"], apart := false, laid := [("diorama/op.root", laid_diorama_op_root), ("diorama/op.trash", laid_diorama_op_trash)] }
def OpBackSaid : Prop := opBackRow.holds Tryd.pinned (OpenSpec.ofChange opBackSpec)

/-- ITS FALSE NEIGHBOUR: 'it returns false'. Refute it at one input. -/
def opBackWrong : ChangeSpec := { name := "opBack", fn := fun _ => fun
  | [d] => { results := [.lit (.bool false)], args := [d] }
  | _ => none }
def OpBackWrongFalsely : Prop := opBackRow.holds Tryd.pinned (OpenSpec.ofChange opBackWrong)

/-- 'dioramalaw08.BatchBack': WHATEVER THE INPUT: true; the input reads as it did. -/
def batchBackSpec : ChangeSpec := { name := "batchBack", fn := fun _ => fun
  | [d1, d2] => { results := [.lit (.bool true)], args := [d1, d2] }
  | _ => none }
def batchBackRow : OpenClaim := { program := "ytnakanophilfhaadoor", sum := "1a90a3d27322f8778644243c7a9cd72204c0a2f69adb39aedaea26ca02423c69", func := "diorama/dioramalaw08.BatchBack", spec := "batchBack", unfollowed := true, recurses := true, named := ["diorama/op.root", "diorama/op.trash"], apart := false, laid := [("diorama/op.root", laid_diorama_op_root), ("diorama/op.trash", laid_diorama_op_trash)] }
def BatchBackSaid : Prop := batchBackRow.holds Tryd.pinned (OpenSpec.ofChange batchBackSpec)

/-- ITS FALSE NEIGHBOUR: 'it returns false'. Refute it at one input. -/
def batchBackWrong : ChangeSpec := { name := "batchBack", fn := fun _ => fun
  | [d1, d2] => { results := [.lit (.bool false)], args := [d1, d2] }
  | _ => none }
def BatchBackWrongFalsely : Prop := batchBackRow.holds Tryd.pinned (OpenSpec.ofChange batchBackWrong)

/-- 'dioramalaw08.BatchStamps': WHATEVER THE INPUT: true; the input reads as it did. -/
def batchStampsSpec : ChangeSpec := { name := "batchStamps", fn := fun _ => fun
  | [d] => { results := [.lit (.bool true)], args := [d] }
  | _ => none }
def batchStampsRow : OpenClaim := { program := "ytnakanophilfhaadoor", sum := "1a90a3d27322f8778644243c7a9cd72204c0a2f69adb39aedaea26ca02423c69", func := "diorama/dioramalaw08.BatchStamps", spec := "batchStamps", unfollowed := true, recurses := true, named := ["diorama/op.root", "diorama/op.trash"], apart := false, laid := [("diorama/op.root", laid_diorama_op_root), ("diorama/op.trash", laid_diorama_op_trash)] }
def BatchStampsSaid : Prop := batchStampsRow.holds Tryd.pinned (OpenSpec.ofChange batchStampsSpec)

/-- ITS FALSE NEIGHBOUR: 'it returns false'. Refute it at one input. -/
def batchStampsWrong : ChangeSpec := { name := "batchStamps", fn := fun _ => fun
  | [d] => { results := [.lit (.bool false)], args := [d] }
  | _ => none }
def BatchStampsWrongFalsely : Prop := batchStampsRow.holds Tryd.pinned (OpenSpec.ofChange batchStampsWrong)

/-- 'dioramalaw08.BatchRot': WHATEVER THE INPUT: true; the input reads as it did. -/
def batchRotSpec : ChangeSpec := { name := "batchRot", fn := fun _ => fun
  | [d1, d2, d3] => { results := [.lit (.bool true)], args := [d1, d2, d3] }
  | _ => none }
def batchRotRow : OpenClaim := { program := "ytnakanophilfhaadoor", sum := "1a90a3d27322f8778644243c7a9cd72204c0a2f69adb39aedaea26ca02423c69", func := "diorama/dioramalaw08.BatchRot", spec := "batchRot", unfollowed := true, recurses := true, named := ["diorama/op.root", "diorama/op.trash"], apart := false, laid := [("diorama/op.root", laid_diorama_op_root), ("diorama/op.trash", laid_diorama_op_trash)] }
def BatchRotSaid : Prop := batchRotRow.holds Tryd.pinned (OpenSpec.ofChange batchRotSpec)

/-- ITS FALSE NEIGHBOUR: 'it returns false'. Refute it at one input. -/
def batchRotWrong : ChangeSpec := { name := "batchRot", fn := fun _ => fun
  | [d1, d2, d3] => { results := [.lit (.bool false)], args := [d1, d2, d3] }
  | _ => none }
def BatchRotWrongFalsely : Prop := batchRotRow.holds Tryd.pinned (OpenSpec.ofChange batchRotWrong)

/- THE SECOND FORM. 'bulk': how many values and letters a reading holds, each counted each time it is reached (what is shared counts as often as it is met; a slice's spare places count too). A statement '..UptoSaid' is the law's where the arguments, and the package variables that the reading takes, are together of bulk at most 1048576: NARROWER than '..Said'. Prove '..Said' where nothing that the law and all that it calls make is longer than what came in: it says more and counts as full. Else prove '..UptoSaid'. A law counts once. -/
mutual
def uptoBulk {H : Type} : DataW H → Nat
  | .lit (.string bytes) => bytes.length + 1
  | .lit _ => 1
  | .nil => 1
  | .ptr d => uptoBulk d + 1
  | .slice elems spare => uptoBulkAll elems + uptoBulkAll spare + 1
  | .agg parts => uptoBulkAll parts + 1
  | .iface _ d => uptoBulk d + 1
  | .map entries => uptoBulkEntries entries + 1
  | .held _ => 1
def uptoBulkAll {H : Type} : List (DataW H) → Nat
  | [] => 0
  | d :: r => uptoBulk d + uptoBulkAll r
def uptoBulkEntries {H : Type} : List (Lit × DataW H) → Nat
  | [] => 0
  | x :: r => uptoBulkEntry x + uptoBulkEntries r
def uptoBulkEntry {H : Type} : Lit × DataW H → Nat
  | (.string bytes, d) => bytes.length + uptoBulk d + 1
  | (_, d) => uptoBulk d + 1
 end
def uptoSmall : (H : Type) → List (DataW H) → Bool := fun _ ds => decide (uptoBulkAll ds ≤ 1048576)
def OpenSpec.upto (s : _root_.Go.ChangeSpec) : _root_.Go.OpenSpec := { _root_.Go.OpenSpec.ofChange s with cond := some uptoSmall }

/-- 'dioramalaw07.OpOne', WHERE WHAT IT READS IS OF BULK AT MOST 1048576: true; the input reads as it did. -/
def opOneUptoRow : OpenClaim := { program := "ytnakanophilfhaadoor", sum := "1a90a3d27322f8778644243c7a9cd72204c0a2f69adb39aedaea26ca02423c69", func := "diorama/dioramalaw07.OpOne", spec := "opOne", unfollowed := true, recurses := true, named := ["diorama/op.root", "diorama/op.trash"], apart := false, laid := [("diorama/op.root", laid_diorama_op_root), ("diorama/op.trash", laid_diorama_op_trash)], narrowed := true }
def OpOneUptoSaid : Prop := opOneUptoRow.holds Tryd.pinned (OpenSpec.upto opOneSpec)

/-- 'dioramalaw07.OpForms', WHERE WHAT IT READS IS OF BULK AT MOST 1048576: true; the input reads as it did. -/
def opFormsUptoRow : OpenClaim := { program := "ytnakanophilfhaadoor", sum := "1a90a3d27322f8778644243c7a9cd72204c0a2f69adb39aedaea26ca02423c69", func := "diorama/dioramalaw07.OpForms", spec := "opForms", unfollowed := true, recurses := true, named := ["diorama/op.root", "diorama/op.trash"], apart := false, laid := [("diorama/op.root", laid_diorama_op_root), ("diorama/op.trash", laid_diorama_op_trash)], narrowed := true }
def OpFormsUptoSaid : Prop := opFormsUptoRow.holds Tryd.pinned (OpenSpec.upto opFormsSpec)

/-- 'dioramalaw07.OpReads', WHERE WHAT IT READS IS OF BULK AT MOST 1048576: true; the input reads as it did. -/
def opReadsUptoRow : OpenClaim := { program := "ytnakanophilfhaadoor", sum := "1a90a3d27322f8778644243c7a9cd72204c0a2f69adb39aedaea26ca02423c69", func := "diorama/dioramalaw07.OpReads", spec := "opReads", unfollowed := true, recurses := true, named := ["diorama/op.root", "diorama/op.trash"], apart := false, laid := [("diorama/op.root", laid_diorama_op_root), ("diorama/op.trash", laid_diorama_op_trash)], narrowed := true }
def OpReadsUptoSaid : Prop := opReadsUptoRow.holds Tryd.pinned (OpenSpec.upto opReadsSpec)

/-- 'dioramalaw07.OpBack', WHERE WHAT IT READS IS OF BULK AT MOST 1048576: true; the input reads as it did. -/
def opBackUptoRow : OpenClaim := { program := "ytnakanophilfhaadoor", sum := "1a90a3d27322f8778644243c7a9cd72204c0a2f69adb39aedaea26ca02423c69", func := "diorama/dioramalaw07.OpBack", spec := "opBack", unfollowed := true, recurses := true, named := ["diorama/op.root", "diorama/op.trash"], apart := false, laid := [("diorama/op.root", laid_diorama_op_root), ("diorama/op.trash", laid_diorama_op_trash)], narrowed := true }
def OpBackUptoSaid : Prop := opBackUptoRow.holds Tryd.pinned (OpenSpec.upto opBackSpec)

/-- 'dioramalaw08.BatchBack', WHERE WHAT IT READS IS OF BULK AT MOST 1048576: true; the input reads as it did. -/
def batchBackUptoRow : OpenClaim := { program := "ytnakanophilfhaadoor", sum := "1a90a3d27322f8778644243c7a9cd72204c0a2f69adb39aedaea26ca02423c69", func := "diorama/dioramalaw08.BatchBack", spec := "batchBack", unfollowed := true, recurses := true, named := ["diorama/op.root", "diorama/op.trash"], apart := false, laid := [("diorama/op.root", laid_diorama_op_root), ("diorama/op.trash", laid_diorama_op_trash)], narrowed := true }
def BatchBackUptoSaid : Prop := batchBackUptoRow.holds Tryd.pinned (OpenSpec.upto batchBackSpec)

/-- 'dioramalaw08.BatchStamps', WHERE WHAT IT READS IS OF BULK AT MOST 1048576: true; the input reads as it did. -/
def batchStampsUptoRow : OpenClaim := { program := "ytnakanophilfhaadoor", sum := "1a90a3d27322f8778644243c7a9cd72204c0a2f69adb39aedaea26ca02423c69", func := "diorama/dioramalaw08.BatchStamps", spec := "batchStamps", unfollowed := true, recurses := true, named := ["diorama/op.root", "diorama/op.trash"], apart := false, laid := [("diorama/op.root", laid_diorama_op_root), ("diorama/op.trash", laid_diorama_op_trash)], narrowed := true }
def BatchStampsUptoSaid : Prop := batchStampsUptoRow.holds Tryd.pinned (OpenSpec.upto batchStampsSpec)

/-- 'dioramalaw08.BatchRot', WHERE WHAT IT READS IS OF BULK AT MOST 1048576: true; the input reads as it did. -/
def batchRotUptoRow : OpenClaim := { program := "ytnakanophilfhaadoor", sum := "1a90a3d27322f8778644243c7a9cd72204c0a2f69adb39aedaea26ca02423c69", func := "diorama/dioramalaw08.BatchRot", spec := "batchRot", unfollowed := true, recurses := true, named := ["diorama/op.root", "diorama/op.trash"], apart := false, laid := [("diorama/op.root", laid_diorama_op_root), ("diorama/op.trash", laid_diorama_op_trash)], narrowed := true }
def BatchRotUptoSaid : Prop := batchRotUptoRow.holds Tryd.pinned (OpenSpec.upto batchRotSpec)

end Rows
end Go.Proofs.YtnakanophilfhaaDoor
