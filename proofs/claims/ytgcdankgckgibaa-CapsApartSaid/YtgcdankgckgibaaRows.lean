/-
  No cell of these rows narrows 'for every input' (looked for: loops, veiled, ifaces, maps, wideKeys, modest, calm, conditions, laid).
  DERIVED. THE GIVEN ROWS OF THIS SEAT. 11 by the template 'for every input the law returns true; each argument reads behind the call as it read before'; 0 by the template 'total and deterministic' (their statements: YtgcdankgckgibaaTotals.lean).
  GIVEN WITH THE SEED: the statements are not yours to turn. If you find one false, say at which input.
  Laid BY PROGRAM, IN A SANDBOX (cutbox-rows.mjs): the forced cells as the released guide's own fill.sh prints them over the translation f7b89d2edfa57c58… (all of the seat's roots in one cut). By AI agents, Wed Nov 11 2026. No macro, syntax, notation, axiom, sorry.
-/
import Derived.Test.YtgcdankgckgibaaChecked
import GoSem.Claim
import GoSem.ClaimJoined
import GoSem.ClaimMapViews
import Derived.JoinedTies
import Derived.KernelRfl
namespace Go.Proofs.Ytgcdankgckgibaa
/- THE CELL 'sum', in the pinned program and in every row, IS THE sha256 OF THE DUMP (.gsa) THAT YtgcdankgckgibaaProg.lean LOADS. Nothing in Lean hashes anything: it is a label: what it is worth is what the hold of that sum in a sandbox is worth. -/
noncomputable def Try.pinned : Pinned := { name := "ytgcdankgckgibaa", sum := "f7b89d2edfa57c583002abbfde8d029289e043aa592178120ef957bbbe22fd95", checked := Try.checked }
namespace Rows
def none {H : Type} : Left H := { results := [], args := [] }

/-- 'waterlinelaw15.CapsApart': WHATEVER THE INPUT: true; the input reads as it did. -/
def capsApartSpec : ChangeSpec := { name := "capsApart", fn := fun _ => fun
  | [d] => { results := [.lit (.bool true)], args := [d] }
  | _ => none }
def capsApartRow : OpenClaim := { program := "ytgcdankgckgibaa", sum := "f7b89d2edfa57c583002abbfde8d029289e043aa592178120ef957bbbe22fd95", func := "waterline/waterlinelaw15.CapsApart", spec := "capsApart", apart := false }
def CapsApartSaid : Prop := capsApartRow.holds Try.pinned (OpenSpec.ofChange capsApartSpec)

/-- ITS FALSE NEIGHBOUR: 'it returns false'. Refute it at one input. -/
def capsApartWrong : ChangeSpec := { name := "capsApart", fn := fun _ => fun
  | [d] => { results := [.lit (.bool false)], args := [d] }
  | _ => none }
def CapsApartWrongFalsely : Prop := capsApartRow.holds Try.pinned (OpenSpec.ofChange capsApartWrong)

/-- 'waterlinelaw15.CapsLimits': WHATEVER THE INPUT: true; the input reads as it did. -/
def capsLimitsSpec : ChangeSpec := { name := "capsLimits", fn := fun _ => fun
  | [d1, d2] => { results := [.lit (.bool true)], args := [d1, d2] }
  | _ => none }
def capsLimitsRow : OpenClaim := { program := "ytgcdankgckgibaa", sum := "f7b89d2edfa57c583002abbfde8d029289e043aa592178120ef957bbbe22fd95", func := "waterline/waterlinelaw15.CapsLimits", spec := "capsLimits", apart := false }
def CapsLimitsSaid : Prop := capsLimitsRow.holds Try.pinned (OpenSpec.ofChange capsLimitsSpec)

/-- ITS FALSE NEIGHBOUR: 'it returns false'. Refute it at one input. -/
def capsLimitsWrong : ChangeSpec := { name := "capsLimits", fn := fun _ => fun
  | [d1, d2] => { results := [.lit (.bool false)], args := [d1, d2] }
  | _ => none }
def CapsLimitsWrongFalsely : Prop := capsLimitsRow.holds Try.pinned (OpenSpec.ofChange capsLimitsWrong)

/-- 'waterlinelaw15.CapsNames': WHATEVER THE INPUT: true; the input reads as it did. -/
def capsNamesSpec : ChangeSpec := { name := "capsNames", fn := fun _ => fun
  | [d1, d2, d3] => { results := [.lit (.bool true)], args := [d1, d2, d3] }
  | _ => none }
def capsNamesRow : OpenClaim := { program := "ytgcdankgckgibaa", sum := "f7b89d2edfa57c583002abbfde8d029289e043aa592178120ef957bbbe22fd95", func := "waterline/waterlinelaw15.CapsNames", spec := "capsNames", apart := false }
def CapsNamesSaid : Prop := capsNamesRow.holds Try.pinned (OpenSpec.ofChange capsNamesSpec)

/-- ITS FALSE NEIGHBOUR: 'it returns false'. Refute it at one input. -/
def capsNamesWrong : ChangeSpec := { name := "capsNames", fn := fun _ => fun
  | [d1, d2, d3] => { results := [.lit (.bool false)], args := [d1, d2, d3] }
  | _ => none }
def CapsNamesWrongFalsely : Prop := capsNamesRow.holds Try.pinned (OpenSpec.ofChange capsNamesWrong)

/-- 'waterlinelaw9.FieldOrder': WHATEVER THE INPUT: true; the input reads as it did. -/
def fieldOrderSpec : ChangeSpec := { name := "fieldOrder", fn := fun _ => fun
  | [d1, d2, d3] => { results := [.lit (.bool true)], args := [d1, d2, d3] }
  | _ => none }
def fieldOrderRow : OpenClaim := { program := "ytgcdankgckgibaa", sum := "f7b89d2edfa57c583002abbfde8d029289e043aa592178120ef957bbbe22fd95", func := "waterline/waterlinelaw9.FieldOrder", spec := "fieldOrder", apart := false }
def FieldOrderSaid : Prop := fieldOrderRow.holds Try.pinned (OpenSpec.ofChange fieldOrderSpec)

/-- ITS FALSE NEIGHBOUR: 'it returns false'. Refute it at one input. -/
def fieldOrderWrong : ChangeSpec := { name := "fieldOrder", fn := fun _ => fun
  | [d1, d2, d3] => { results := [.lit (.bool false)], args := [d1, d2, d3] }
  | _ => none }
def FieldOrderWrongFalsely : Prop := fieldOrderRow.holds Try.pinned (OpenSpec.ofChange fieldOrderWrong)

/-- 'waterlinelaw9.FieldReads': WHATEVER THE INPUT: true; the input reads as it did. -/
def fieldReadsSpec : ChangeSpec := { name := "fieldReads", fn := fun _ => fun
  | [d1, d2] => { results := [.lit (.bool true)], args := [d1, d2] }
  | _ => none }
def fieldReadsRow : OpenClaim := { program := "ytgcdankgckgibaa", sum := "f7b89d2edfa57c583002abbfde8d029289e043aa592178120ef957bbbe22fd95", func := "waterline/waterlinelaw9.FieldReads", spec := "fieldReads", apart := false }
def FieldReadsSaid : Prop := fieldReadsRow.holds Try.pinned (OpenSpec.ofChange fieldReadsSpec)

/-- ITS FALSE NEIGHBOUR: 'it returns false'. Refute it at one input. -/
def fieldReadsWrong : ChangeSpec := { name := "fieldReads", fn := fun _ => fun
  | [d1, d2] => { results := [.lit (.bool false)], args := [d1, d2] }
  | _ => none }
def FieldReadsWrongFalsely : Prop := fieldReadsRow.holds Try.pinned (OpenSpec.ofChange fieldReadsWrong)

/-- 'waterlinelaw15.CapsDeal': WHATEVER THE INPUT: true; the input reads as it did. -/
def capsDealSpec : ChangeSpec := { name := "capsDeal", fn := fun _ => fun
  | [d1, d2, d3] => { results := [.lit (.bool true)], args := [d1, d2, d3] }
  | _ => none }
def capsDealRow : OpenClaim := { program := "ytgcdankgckgibaa", sum := "f7b89d2edfa57c583002abbfde8d029289e043aa592178120ef957bbbe22fd95", func := "waterline/waterlinelaw15.CapsDeal", spec := "capsDeal", apart := false }
def CapsDealSaid : Prop := capsDealRow.holds Try.pinned (OpenSpec.ofChange capsDealSpec)

/-- ITS FALSE NEIGHBOUR: 'it returns false'. Refute it at one input. -/
def capsDealWrong : ChangeSpec := { name := "capsDeal", fn := fun _ => fun
  | [d1, d2, d3] => { results := [.lit (.bool false)], args := [d1, d2, d3] }
  | _ => none }
def CapsDealWrongFalsely : Prop := capsDealRow.holds Try.pinned (OpenSpec.ofChange capsDealWrong)

/-- 'waterlinelaw9.FieldWrites': WHATEVER THE INPUT: true; the input reads as it did. -/
def fieldWritesSpec : ChangeSpec := { name := "fieldWrites", fn := fun _ => fun
  | [d] => { results := [.lit (.bool true)], args := [d] }
  | _ => none }
def fieldWritesRow : OpenClaim := { program := "ytgcdankgckgibaa", sum := "f7b89d2edfa57c583002abbfde8d029289e043aa592178120ef957bbbe22fd95", func := "waterline/waterlinelaw9.FieldWrites", spec := "fieldWrites", apart := false }
def FieldWritesSaid : Prop := fieldWritesRow.holds Try.pinned (OpenSpec.ofChange fieldWritesSpec)

/-- ITS FALSE NEIGHBOUR: 'it returns false'. Refute it at one input. -/
def fieldWritesWrong : ChangeSpec := { name := "fieldWrites", fn := fun _ => fun
  | [d] => { results := [.lit (.bool false)], args := [d] }
  | _ => none }
def FieldWritesWrongFalsely : Prop := fieldWritesRow.holds Try.pinned (OpenSpec.ofChange fieldWritesWrong)

/-- 'waterlinelaw9.FieldBack': WHATEVER THE INPUT: true; the input reads as it did. -/
def fieldBackSpec : ChangeSpec := { name := "fieldBack", fn := fun _ => fun
  | [d1, d2] => { results := [.lit (.bool true)], args := [d1, d2] }
  | _ => none }
def fieldBackRow : OpenClaim := { program := "ytgcdankgckgibaa", sum := "f7b89d2edfa57c583002abbfde8d029289e043aa592178120ef957bbbe22fd95", func := "waterline/waterlinelaw9.FieldBack", spec := "fieldBack", apart := false }
def FieldBackSaid : Prop := fieldBackRow.holds Try.pinned (OpenSpec.ofChange fieldBackSpec)

/-- ITS FALSE NEIGHBOUR: 'it returns false'. Refute it at one input. -/
def fieldBackWrong : ChangeSpec := { name := "fieldBack", fn := fun _ => fun
  | [d1, d2] => { results := [.lit (.bool false)], args := [d1, d2] }
  | _ => none }
def FieldBackWrongFalsely : Prop := fieldBackRow.holds Try.pinned (OpenSpec.ofChange fieldBackWrong)

/-- 'waterlinelaw10.CellTells': WHATEVER THE INPUT: true; the input reads as it did. -/
def cellTellsSpec : ChangeSpec := { name := "cellTells", fn := fun _ => fun
  | [d1, d2, d3] => { results := [.lit (.bool true)], args := [d1, d2, d3] }
  | _ => none }
def cellTellsRow : OpenClaim := { program := "ytgcdankgckgibaa", sum := "f7b89d2edfa57c583002abbfde8d029289e043aa592178120ef957bbbe22fd95", func := "waterline/waterlinelaw10.CellTells", spec := "cellTells", apart := false }
def CellTellsSaid : Prop := cellTellsRow.holds Try.pinned (OpenSpec.ofChange cellTellsSpec)

/-- ITS FALSE NEIGHBOUR: 'it returns false'. Refute it at one input. -/
def cellTellsWrong : ChangeSpec := { name := "cellTells", fn := fun _ => fun
  | [d1, d2, d3] => { results := [.lit (.bool false)], args := [d1, d2, d3] }
  | _ => none }
def CellTellsWrongFalsely : Prop := cellTellsRow.holds Try.pinned (OpenSpec.ofChange cellTellsWrong)

/-- 'waterlinelaw10.CellCuts': WHATEVER THE INPUT: true; the input reads as it did. -/
def cellCutsSpec : ChangeSpec := { name := "cellCuts", fn := fun _ => fun
  | [d1, d2, d3] => { results := [.lit (.bool true)], args := [d1, d2, d3] }
  | _ => none }
def cellCutsRow : OpenClaim := { program := "ytgcdankgckgibaa", sum := "f7b89d2edfa57c583002abbfde8d029289e043aa592178120ef957bbbe22fd95", func := "waterline/waterlinelaw10.CellCuts", spec := "cellCuts", apart := false }
def CellCutsSaid : Prop := cellCutsRow.holds Try.pinned (OpenSpec.ofChange cellCutsSpec)

/-- ITS FALSE NEIGHBOUR: 'it returns false'. Refute it at one input. -/
def cellCutsWrong : ChangeSpec := { name := "cellCuts", fn := fun _ => fun
  | [d1, d2, d3] => { results := [.lit (.bool false)], args := [d1, d2, d3] }
  | _ => none }
def CellCutsWrongFalsely : Prop := cellCutsRow.holds Try.pinned (OpenSpec.ofChange cellCutsWrong)

/-- 'waterlinelaw10.CellLimits': WHATEVER THE INPUT: true; the input reads as it did. -/
def cellLimitsSpec : ChangeSpec := { name := "cellLimits", fn := fun _ => fun
  | [d] => { results := [.lit (.bool true)], args := [d] }
  | _ => none }
def cellLimitsRow : OpenClaim := { program := "ytgcdankgckgibaa", sum := "f7b89d2edfa57c583002abbfde8d029289e043aa592178120ef957bbbe22fd95", func := "waterline/waterlinelaw10.CellLimits", spec := "cellLimits", apart := false }
def CellLimitsSaid : Prop := cellLimitsRow.holds Try.pinned (OpenSpec.ofChange cellLimitsSpec)

/-- ITS FALSE NEIGHBOUR: 'it returns false'. Refute it at one input. -/
def cellLimitsWrong : ChangeSpec := { name := "cellLimits", fn := fun _ => fun
  | [d] => { results := [.lit (.bool false)], args := [d] }
  | _ => none }
def CellLimitsWrongFalsely : Prop := cellLimitsRow.holds Try.pinned (OpenSpec.ofChange cellLimitsWrong)

/- THE SECOND FORM. 'bulk': how many values and letters a reading holds, each counted each time it is reached (what is shared counts as often as it is met; a slice's spare places count too). A statement '..UptoSaid' is the law's where the arguments, and the package variables that the reading takes, are together of bulk at most 1048576: NARROWER than '..Said'. Prove '..Said' where nothing that the law and all that it calls make is longer than what came in: it says more and counts as full. Else prove '..UptoSaid'. A law counts once. -/
mutual
def uptoBulk {H : Type} : DataW H → Nat
  | .lit (.string bytes) => bytes.length + 1
  | .lit _ => 1
  | .nil => 1
  | .ptr d => uptoBulk d + 1
  | .slice elems spare => uptoBulkAll elems + uptoBulkAll spare + 1
  | .agg parts => uptoBulkAll parts + 1
  | .iface _ d => uptoBulk d + 1
  | .map entries => uptoBulkEntries entries + 1
  | .held _ => 1
def uptoBulkAll {H : Type} : List (DataW H) → Nat
  | [] => 0
  | d :: r => uptoBulk d + uptoBulkAll r
def uptoBulkEntries {H : Type} : List (Lit × DataW H) → Nat
  | [] => 0
  | x :: r => uptoBulkEntry x + uptoBulkEntries r
def uptoBulkEntry {H : Type} : Lit × DataW H → Nat
  | (.string bytes, d) => bytes.length + uptoBulk d + 1
  | (_, d) => uptoBulk d + 1
 end
def uptoSmall : (H : Type) → List (DataW H) → Bool := fun _ ds => decide (uptoBulkAll ds ≤ 1048576)
def OpenSpec.upto (s : _root_.Go.ChangeSpec) : _root_.Go.OpenSpec := { _root_.Go.OpenSpec.ofChange s with cond := some uptoSmall }

/-- 'waterlinelaw15.CapsApart', WHERE WHAT IT READS IS OF BULK AT MOST 1048576: true; the input reads as it did. -/
def capsApartUptoRow : OpenClaim := { program := "ytgcdankgckgibaa", sum := "f7b89d2edfa57c583002abbfde8d029289e043aa592178120ef957bbbe22fd95", func := "waterline/waterlinelaw15.CapsApart", spec := "capsApart", apart := false, narrowed := true }
def CapsApartUptoSaid : Prop := capsApartUptoRow.holds Try.pinned (OpenSpec.upto capsApartSpec)

/-- 'waterlinelaw15.CapsLimits', WHERE WHAT IT READS IS OF BULK AT MOST 1048576: true; the input reads as it did. -/
def capsLimitsUptoRow : OpenClaim := { program := "ytgcdankgckgibaa", sum := "f7b89d2edfa57c583002abbfde8d029289e043aa592178120ef957bbbe22fd95", func := "waterline/waterlinelaw15.CapsLimits", spec := "capsLimits", apart := false, narrowed := true }
def CapsLimitsUptoSaid : Prop := capsLimitsUptoRow.holds Try.pinned (OpenSpec.upto capsLimitsSpec)

/-- 'waterlinelaw15.CapsNames', WHERE WHAT IT READS IS OF BULK AT MOST 1048576: true; the input reads as it did. -/
def capsNamesUptoRow : OpenClaim := { program := "ytgcdankgckgibaa", sum := "f7b89d2edfa57c583002abbfde8d029289e043aa592178120ef957bbbe22fd95", func := "waterline/waterlinelaw15.CapsNames", spec := "capsNames", apart := false, narrowed := true }
def CapsNamesUptoSaid : Prop := capsNamesUptoRow.holds Try.pinned (OpenSpec.upto capsNamesSpec)

/-- 'waterlinelaw9.FieldOrder', WHERE WHAT IT READS IS OF BULK AT MOST 1048576: true; the input reads as it did. -/
def fieldOrderUptoRow : OpenClaim := { program := "ytgcdankgckgibaa", sum := "f7b89d2edfa57c583002abbfde8d029289e043aa592178120ef957bbbe22fd95", func := "waterline/waterlinelaw9.FieldOrder", spec := "fieldOrder", apart := false, narrowed := true }
def FieldOrderUptoSaid : Prop := fieldOrderUptoRow.holds Try.pinned (OpenSpec.upto fieldOrderSpec)

/-- 'waterlinelaw9.FieldReads', WHERE WHAT IT READS IS OF BULK AT MOST 1048576: true; the input reads as it did. -/
def fieldReadsUptoRow : OpenClaim := { program := "ytgcdankgckgibaa", sum := "f7b89d2edfa57c583002abbfde8d029289e043aa592178120ef957bbbe22fd95", func := "waterline/waterlinelaw9.FieldReads", spec := "fieldReads", apart := false, narrowed := true }
def FieldReadsUptoSaid : Prop := fieldReadsUptoRow.holds Try.pinned (OpenSpec.upto fieldReadsSpec)

/-- 'waterlinelaw15.CapsDeal', WHERE WHAT IT READS IS OF BULK AT MOST 1048576: true; the input reads as it did. -/
def capsDealUptoRow : OpenClaim := { program := "ytgcdankgckgibaa", sum := "f7b89d2edfa57c583002abbfde8d029289e043aa592178120ef957bbbe22fd95", func := "waterline/waterlinelaw15.CapsDeal", spec := "capsDeal", apart := false, narrowed := true }
def CapsDealUptoSaid : Prop := capsDealUptoRow.holds Try.pinned (OpenSpec.upto capsDealSpec)

/-- 'waterlinelaw9.FieldWrites', WHERE WHAT IT READS IS OF BULK AT MOST 1048576: true; the input reads as it did. -/
def fieldWritesUptoRow : OpenClaim := { program := "ytgcdankgckgibaa", sum := "f7b89d2edfa57c583002abbfde8d029289e043aa592178120ef957bbbe22fd95", func := "waterline/waterlinelaw9.FieldWrites", spec := "fieldWrites", apart := false, narrowed := true }
def FieldWritesUptoSaid : Prop := fieldWritesUptoRow.holds Try.pinned (OpenSpec.upto fieldWritesSpec)

/-- 'waterlinelaw9.FieldBack', WHERE WHAT IT READS IS OF BULK AT MOST 1048576: true; the input reads as it did. -/
def fieldBackUptoRow : OpenClaim := { program := "ytgcdankgckgibaa", sum := "f7b89d2edfa57c583002abbfde8d029289e043aa592178120ef957bbbe22fd95", func := "waterline/waterlinelaw9.FieldBack", spec := "fieldBack", apart := false, narrowed := true }
def FieldBackUptoSaid : Prop := fieldBackUptoRow.holds Try.pinned (OpenSpec.upto fieldBackSpec)

/-- 'waterlinelaw10.CellTells', WHERE WHAT IT READS IS OF BULK AT MOST 1048576: true; the input reads as it did. -/
def cellTellsUptoRow : OpenClaim := { program := "ytgcdankgckgibaa", sum := "f7b89d2edfa57c583002abbfde8d029289e043aa592178120ef957bbbe22fd95", func := "waterline/waterlinelaw10.CellTells", spec := "cellTells", apart := false, narrowed := true }
def CellTellsUptoSaid : Prop := cellTellsUptoRow.holds Try.pinned (OpenSpec.upto cellTellsSpec)

/-- 'waterlinelaw10.CellCuts', WHERE WHAT IT READS IS OF BULK AT MOST 1048576: true; the input reads as it did. -/
def cellCutsUptoRow : OpenClaim := { program := "ytgcdankgckgibaa", sum := "f7b89d2edfa57c583002abbfde8d029289e043aa592178120ef957bbbe22fd95", func := "waterline/waterlinelaw10.CellCuts", spec := "cellCuts", apart := false, narrowed := true }
def CellCutsUptoSaid : Prop := cellCutsUptoRow.holds Try.pinned (OpenSpec.upto cellCutsSpec)

/-- 'waterlinelaw10.CellLimits', WHERE WHAT IT READS IS OF BULK AT MOST 1048576: true; the input reads as it did. -/
def cellLimitsUptoRow : OpenClaim := { program := "ytgcdankgckgibaa", sum := "f7b89d2edfa57c583002abbfde8d029289e043aa592178120ef957bbbe22fd95", func := "waterline/waterlinelaw10.CellLimits", spec := "cellLimits", apart := false, narrowed := true }
def CellLimitsUptoSaid : Prop := cellLimitsUptoRow.holds Try.pinned (OpenSpec.upto cellLimitsSpec)

end Rows
end Go.Proofs.Ytgcdankgckgibaa
