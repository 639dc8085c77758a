/-
  No cell of these rows narrows 'for every input' (looked for: loops, veiled, ifaces, maps, wideKeys, modest, calm, conditions, laid).
  DERIVED. THE GIVEN ROWS OF THIS SEAT. 12 by the template 'for every input the law returns true; each argument reads behind the call as it read before'; 0 by the template 'total and deterministic' (their statements: YtajflegjpnmloaaTotals.lean).
  GIVEN WITH THE SEED: the statements are not yours to turn. If you find one false, say at which input.
  Laid BY PROGRAM, IN A SANDBOX (cutbox-rows.mjs): the forced cells as the released guide's own fill.sh prints them over the translation 767185923149587e… (all of the seat's roots in one cut). By AI agents, Wed Nov 11 2026. No macro, syntax, notation, axiom, sorry.
-/
import Derived.Test.YtajflegjpnmloaaChecked
import GoSem.Claim
import GoSem.ClaimJoined
import GoSem.ClaimMapViews
import Derived.JoinedTies
import Derived.KernelRfl
namespace Go.Proofs.Ytajflegjpnmloaa
/- THE CELL 'sum', in the pinned program and in every row, IS THE sha256 OF THE DUMP (.gsa) THAT YtajflegjpnmloaaProg.lean LOADS. Nothing in Lean hashes anything: it is a label: what it is worth is what the hold of that sum in a sandbox is worth. -/
noncomputable def Try.pinned : Pinned := { name := "ytajflegjpnmloaa", sum := "767185923149587e308acceebf15e2c81514ff1f16985be7deed16ac7620d269", checked := Try.checked }
namespace Rows
def none {H : Type} : Left H := { results := [], args := [] }

/-- 'waterlinetop.TopNames': WHATEVER THE INPUT: true; the input reads as it did. -/
def topNamesSpec : ChangeSpec := { name := "topNames", fn := fun _ => fun
  | [] => { results := [.lit (.bool true)], args := [] }
  | _ => none }
def topNamesRow : OpenClaim := { program := "ytajflegjpnmloaa", sum := "767185923149587e308acceebf15e2c81514ff1f16985be7deed16ac7620d269", func := "waterline/waterlinetop.TopNames", spec := "topNames", apart := false }
def TopNamesSaid : Prop := topNamesRow.holds Try.pinned (OpenSpec.ofChange topNamesSpec)

/-- ITS FALSE NEIGHBOUR: 'it returns false'. Refute it at one input. -/
def topNamesWrong : ChangeSpec := { name := "topNames", fn := fun _ => fun
  | [] => { results := [.lit (.bool false)], args := [] }
  | _ => none }
def TopNamesWrongFalsely : Prop := topNamesRow.holds Try.pinned (OpenSpec.ofChange topNamesWrong)

/-- 'waterlinelaw8.DualTells': WHATEVER THE INPUT: true; the input reads as it did. -/
def dualTellsSpec : ChangeSpec := { name := "dualTells", fn := fun _ => fun
  | [d] => { results := [.lit (.bool true)], args := [d] }
  | _ => none }
def dualTellsRow : OpenClaim := { program := "ytajflegjpnmloaa", sum := "767185923149587e308acceebf15e2c81514ff1f16985be7deed16ac7620d269", func := "waterline/waterlinelaw8.DualTells", spec := "dualTells", apart := false }
def DualTellsSaid : Prop := dualTellsRow.holds Try.pinned (OpenSpec.ofChange dualTellsSpec)

/-- ITS FALSE NEIGHBOUR: 'it returns false'. Refute it at one input. -/
def dualTellsWrong : ChangeSpec := { name := "dualTells", fn := fun _ => fun
  | [d] => { results := [.lit (.bool false)], args := [d] }
  | _ => none }
def DualTellsWrongFalsely : Prop := dualTellsRow.holds Try.pinned (OpenSpec.ofChange dualTellsWrong)

/-- 'waterlinelaw8.DualCuts': WHATEVER THE INPUT: true; the input reads as it did. -/
def dualCutsSpec : ChangeSpec := { name := "dualCuts", fn := fun _ => fun
  | [d1, d2] => { results := [.lit (.bool true)], args := [d1, d2] }
  | _ => none }
def dualCutsRow : OpenClaim := { program := "ytajflegjpnmloaa", sum := "767185923149587e308acceebf15e2c81514ff1f16985be7deed16ac7620d269", func := "waterline/waterlinelaw8.DualCuts", spec := "dualCuts", apart := false }
def DualCutsSaid : Prop := dualCutsRow.holds Try.pinned (OpenSpec.ofChange dualCutsSpec)

/-- ITS FALSE NEIGHBOUR: 'it returns false'. Refute it at one input. -/
def dualCutsWrong : ChangeSpec := { name := "dualCuts", fn := fun _ => fun
  | [d1, d2] => { results := [.lit (.bool false)], args := [d1, d2] }
  | _ => none }
def DualCutsWrongFalsely : Prop := dualCutsRow.holds Try.pinned (OpenSpec.ofChange dualCutsWrong)

/-- 'waterlinelaw8.DualOdd': WHATEVER THE INPUT: true; the input reads as it did. -/
def dualOddSpec : ChangeSpec := { name := "dualOdd", fn := fun _ => fun
  | [d1, d2] => { results := [.lit (.bool true)], args := [d1, d2] }
  | _ => none }
def dualOddRow : OpenClaim := { program := "ytajflegjpnmloaa", sum := "767185923149587e308acceebf15e2c81514ff1f16985be7deed16ac7620d269", func := "waterline/waterlinelaw8.DualOdd", spec := "dualOdd", apart := false }
def DualOddSaid : Prop := dualOddRow.holds Try.pinned (OpenSpec.ofChange dualOddSpec)

/-- ITS FALSE NEIGHBOUR: 'it returns false'. Refute it at one input. -/
def dualOddWrong : ChangeSpec := { name := "dualOdd", fn := fun _ => fun
  | [d1, d2] => { results := [.lit (.bool false)], args := [d1, d2] }
  | _ => none }
def DualOddWrongFalsely : Prop := dualOddRow.holds Try.pinned (OpenSpec.ofChange dualOddWrong)

/-- 'waterlinelaw1.NamesTell': WHATEVER THE INPUT: true; the input reads as it did. -/
def namesTellSpec : ChangeSpec := { name := "namesTell", fn := fun _ => fun
  | [d] => { results := [.lit (.bool true)], args := [d] }
  | _ => none }
def namesTellRow : OpenClaim := { program := "ytajflegjpnmloaa", sum := "767185923149587e308acceebf15e2c81514ff1f16985be7deed16ac7620d269", func := "waterline/waterlinelaw1.NamesTell", spec := "namesTell", apart := false }
def NamesTellSaid : Prop := namesTellRow.holds Try.pinned (OpenSpec.ofChange namesTellSpec)

/-- ITS FALSE NEIGHBOUR: 'it returns false'. Refute it at one input. -/
def namesTellWrong : ChangeSpec := { name := "namesTell", fn := fun _ => fun
  | [d] => { results := [.lit (.bool false)], args := [d] }
  | _ => none }
def NamesTellWrongFalsely : Prop := namesTellRow.holds Try.pinned (OpenSpec.ofChange namesTellWrong)

/-- 'waterlinelaw1.NamesClean': WHATEVER THE INPUT: true; the input reads as it did. -/
def namesCleanSpec : ChangeSpec := { name := "namesClean", fn := fun _ => fun
  | [d] => { results := [.lit (.bool true)], args := [d] }
  | _ => none }
def namesCleanRow : OpenClaim := { program := "ytajflegjpnmloaa", sum := "767185923149587e308acceebf15e2c81514ff1f16985be7deed16ac7620d269", func := "waterline/waterlinelaw1.NamesClean", spec := "namesClean", apart := false }
def NamesCleanSaid : Prop := namesCleanRow.holds Try.pinned (OpenSpec.ofChange namesCleanSpec)

/-- ITS FALSE NEIGHBOUR: 'it returns false'. Refute it at one input. -/
def namesCleanWrong : ChangeSpec := { name := "namesClean", fn := fun _ => fun
  | [d] => { results := [.lit (.bool false)], args := [d] }
  | _ => none }
def NamesCleanWrongFalsely : Prop := namesCleanRow.holds Try.pinned (OpenSpec.ofChange namesCleanWrong)

/-- 'waterlinelaw1.NamesRunes': WHATEVER THE INPUT: true; the input reads as it did. -/
def namesRunesSpec : ChangeSpec := { name := "namesRunes", fn := fun _ => fun
  | [d] => { results := [.lit (.bool true)], args := [d] }
  | _ => none }
def namesRunesRow : OpenClaim := { program := "ytajflegjpnmloaa", sum := "767185923149587e308acceebf15e2c81514ff1f16985be7deed16ac7620d269", func := "waterline/waterlinelaw1.NamesRunes", spec := "namesRunes", apart := false }
def NamesRunesSaid : Prop := namesRunesRow.holds Try.pinned (OpenSpec.ofChange namesRunesSpec)

/-- ITS FALSE NEIGHBOUR: 'it returns false'. Refute it at one input. -/
def namesRunesWrong : ChangeSpec := { name := "namesRunes", fn := fun _ => fun
  | [d] => { results := [.lit (.bool false)], args := [d] }
  | _ => none }
def NamesRunesWrongFalsely : Prop := namesRunesRow.holds Try.pinned (OpenSpec.ofChange namesRunesWrong)

/-- 'waterlinelaw1.NamesBroken': WHATEVER THE INPUT: true; the input reads as it did. -/
def namesBrokenSpec : ChangeSpec := { name := "namesBroken", fn := fun _ => fun
  | [d1, d2] => { results := [.lit (.bool true)], args := [d1, d2] }
  | _ => none }
def namesBrokenRow : OpenClaim := { program := "ytajflegjpnmloaa", sum := "767185923149587e308acceebf15e2c81514ff1f16985be7deed16ac7620d269", func := "waterline/waterlinelaw1.NamesBroken", spec := "namesBroken", apart := false }
def NamesBrokenSaid : Prop := namesBrokenRow.holds Try.pinned (OpenSpec.ofChange namesBrokenSpec)

/-- ITS FALSE NEIGHBOUR: 'it returns false'. Refute it at one input. -/
def namesBrokenWrong : ChangeSpec := { name := "namesBroken", fn := fun _ => fun
  | [d1, d2] => { results := [.lit (.bool false)], args := [d1, d2] }
  | _ => none }
def NamesBrokenWrongFalsely : Prop := namesBrokenRow.holds Try.pinned (OpenSpec.ofChange namesBrokenWrong)

/-- 'waterlinelaw1.NamesLong': WHATEVER THE INPUT: true; the input reads as it did. -/
def namesLongSpec : ChangeSpec := { name := "namesLong", fn := fun _ => fun
  | [d1, d2] => { results := [.lit (.bool true)], args := [d1, d2] }
  | _ => none }
def namesLongRow : OpenClaim := { program := "ytajflegjpnmloaa", sum := "767185923149587e308acceebf15e2c81514ff1f16985be7deed16ac7620d269", func := "waterline/waterlinelaw1.NamesLong", spec := "namesLong", apart := false }
def NamesLongSaid : Prop := namesLongRow.holds Try.pinned (OpenSpec.ofChange namesLongSpec)

/-- ITS FALSE NEIGHBOUR: 'it returns false'. Refute it at one input. -/
def namesLongWrong : ChangeSpec := { name := "namesLong", fn := fun _ => fun
  | [d1, d2] => { results := [.lit (.bool false)], args := [d1, d2] }
  | _ => none }
def NamesLongWrongFalsely : Prop := namesLongRow.holds Try.pinned (OpenSpec.ofChange namesLongWrong)

/-- 'waterlinelaw21.QueuePlays': WHATEVER THE INPUT: true; the input reads as it did. -/
def queuePlaysSpec : ChangeSpec := { name := "queuePlays", fn := fun _ => fun
  | [d] => { results := [.lit (.bool true)], args := [d] }
  | _ => none }
def queuePlaysRow : OpenClaim := { program := "ytajflegjpnmloaa", sum := "767185923149587e308acceebf15e2c81514ff1f16985be7deed16ac7620d269", func := "waterline/waterlinelaw21.QueuePlays", spec := "queuePlays", apart := false }
def QueuePlaysSaid : Prop := queuePlaysRow.holds Try.pinned (OpenSpec.ofChange queuePlaysSpec)

/-- ITS FALSE NEIGHBOUR: 'it returns false'. Refute it at one input. -/
def queuePlaysWrong : ChangeSpec := { name := "queuePlays", fn := fun _ => fun
  | [d] => { results := [.lit (.bool false)], args := [d] }
  | _ => none }
def QueuePlaysWrongFalsely : Prop := queuePlaysRow.holds Try.pinned (OpenSpec.ofChange queuePlaysWrong)

/-- 'waterlinelaw23.BootGoes': WHATEVER THE INPUT: true; the input reads as it did. -/
def bootGoesSpec : ChangeSpec := { name := "bootGoes", fn := fun _ => fun
  | [d1, d2] => { results := [.lit (.bool true)], args := [d1, d2] }
  | _ => none }
def bootGoesRow : OpenClaim := { program := "ytajflegjpnmloaa", sum := "767185923149587e308acceebf15e2c81514ff1f16985be7deed16ac7620d269", func := "waterline/waterlinelaw23.BootGoes", spec := "bootGoes", apart := false }
def BootGoesSaid : Prop := bootGoesRow.holds Try.pinned (OpenSpec.ofChange bootGoesSpec)

/-- ITS FALSE NEIGHBOUR: 'it returns false'. Refute it at one input. -/
def bootGoesWrong : ChangeSpec := { name := "bootGoes", fn := fun _ => fun
  | [d1, d2] => { results := [.lit (.bool false)], args := [d1, d2] }
  | _ => none }
def BootGoesWrongFalsely : Prop := bootGoesRow.holds Try.pinned (OpenSpec.ofChange bootGoesWrong)

/-- 'waterlinelaw23.BootEnds': WHATEVER THE INPUT: true; the input reads as it did. -/
def bootEndsSpec : ChangeSpec := { name := "bootEnds", fn := fun _ => fun
  | [d1, d2, d3] => { results := [.lit (.bool true)], args := [d1, d2, d3] }
  | _ => none }
def bootEndsRow : OpenClaim := { program := "ytajflegjpnmloaa", sum := "767185923149587e308acceebf15e2c81514ff1f16985be7deed16ac7620d269", func := "waterline/waterlinelaw23.BootEnds", spec := "bootEnds", apart := false }
def BootEndsSaid : Prop := bootEndsRow.holds Try.pinned (OpenSpec.ofChange bootEndsSpec)

/-- ITS FALSE NEIGHBOUR: 'it returns false'. Refute it at one input. -/
def bootEndsWrong : ChangeSpec := { name := "bootEnds", fn := fun _ => fun
  | [d1, d2, d3] => { results := [.lit (.bool false)], args := [d1, d2, d3] }
  | _ => none }
def BootEndsWrongFalsely : Prop := bootEndsRow.holds Try.pinned (OpenSpec.ofChange bootEndsWrong)

/- THE SECOND FORM. 'bulk': how many values and letters a reading holds, each counted each time it is reached (what is shared counts as often as it is met; a slice's spare places count too). A statement '..UptoSaid' is the law's where the arguments, and the package variables that the reading takes, are together of bulk at most 1048576: NARROWER than '..Said'. Prove '..Said' where nothing that the law and all that it calls make is longer than what came in: it says more and counts as full. Else prove '..UptoSaid'. A law counts once. -/
mutual
def uptoBulk {H : Type} : DataW H → Nat
  | .lit (.string bytes) => bytes.length + 1
  | .lit _ => 1
  | .nil => 1
  | .ptr d => uptoBulk d + 1
  | .slice elems spare => uptoBulkAll elems + uptoBulkAll spare + 1
  | .agg parts => uptoBulkAll parts + 1
  | .iface _ d => uptoBulk d + 1
  | .map entries => uptoBulkEntries entries + 1
  | .held _ => 1
def uptoBulkAll {H : Type} : List (DataW H) → Nat
  | [] => 0
  | d :: r => uptoBulk d + uptoBulkAll r
def uptoBulkEntries {H : Type} : List (Lit × DataW H) → Nat
  | [] => 0
  | x :: r => uptoBulkEntry x + uptoBulkEntries r
def uptoBulkEntry {H : Type} : Lit × DataW H → Nat
  | (.string bytes, d) => bytes.length + uptoBulk d + 1
  | (_, d) => uptoBulk d + 1
 end
def uptoSmall : (H : Type) → List (DataW H) → Bool := fun _ ds => decide (uptoBulkAll ds ≤ 1048576)
def OpenSpec.upto (s : _root_.Go.ChangeSpec) : _root_.Go.OpenSpec := { _root_.Go.OpenSpec.ofChange s with cond := some uptoSmall }

/-- 'waterlinetop.TopNames', WHERE WHAT IT READS IS OF BULK AT MOST 1048576: true; the input reads as it did. -/
def topNamesUptoRow : OpenClaim := { program := "ytajflegjpnmloaa", sum := "767185923149587e308acceebf15e2c81514ff1f16985be7deed16ac7620d269", func := "waterline/waterlinetop.TopNames", spec := "topNames", apart := false, narrowed := true }
def TopNamesUptoSaid : Prop := topNamesUptoRow.holds Try.pinned (OpenSpec.upto topNamesSpec)

/-- 'waterlinelaw8.DualTells', WHERE WHAT IT READS IS OF BULK AT MOST 1048576: true; the input reads as it did. -/
def dualTellsUptoRow : OpenClaim := { program := "ytajflegjpnmloaa", sum := "767185923149587e308acceebf15e2c81514ff1f16985be7deed16ac7620d269", func := "waterline/waterlinelaw8.DualTells", spec := "dualTells", apart := false, narrowed := true }
def DualTellsUptoSaid : Prop := dualTellsUptoRow.holds Try.pinned (OpenSpec.upto dualTellsSpec)

/-- 'waterlinelaw8.DualCuts', WHERE WHAT IT READS IS OF BULK AT MOST 1048576: true; the input reads as it did. -/
def dualCutsUptoRow : OpenClaim := { program := "ytajflegjpnmloaa", sum := "767185923149587e308acceebf15e2c81514ff1f16985be7deed16ac7620d269", func := "waterline/waterlinelaw8.DualCuts", spec := "dualCuts", apart := false, narrowed := true }
def DualCutsUptoSaid : Prop := dualCutsUptoRow.holds Try.pinned (OpenSpec.upto dualCutsSpec)

/-- 'waterlinelaw8.DualOdd', WHERE WHAT IT READS IS OF BULK AT MOST 1048576: true; the input reads as it did. -/
def dualOddUptoRow : OpenClaim := { program := "ytajflegjpnmloaa", sum := "767185923149587e308acceebf15e2c81514ff1f16985be7deed16ac7620d269", func := "waterline/waterlinelaw8.DualOdd", spec := "dualOdd", apart := false, narrowed := true }
def DualOddUptoSaid : Prop := dualOddUptoRow.holds Try.pinned (OpenSpec.upto dualOddSpec)

/-- 'waterlinelaw1.NamesTell', WHERE WHAT IT READS IS OF BULK AT MOST 1048576: true; the input reads as it did. -/
def namesTellUptoRow : OpenClaim := { program := "ytajflegjpnmloaa", sum := "767185923149587e308acceebf15e2c81514ff1f16985be7deed16ac7620d269", func := "waterline/waterlinelaw1.NamesTell", spec := "namesTell", apart := false, narrowed := true }
def NamesTellUptoSaid : Prop := namesTellUptoRow.holds Try.pinned (OpenSpec.upto namesTellSpec)

/-- 'waterlinelaw1.NamesClean', WHERE WHAT IT READS IS OF BULK AT MOST 1048576: true; the input reads as it did. -/
def namesCleanUptoRow : OpenClaim := { program := "ytajflegjpnmloaa", sum := "767185923149587e308acceebf15e2c81514ff1f16985be7deed16ac7620d269", func := "waterline/waterlinelaw1.NamesClean", spec := "namesClean", apart := false, narrowed := true }
def NamesCleanUptoSaid : Prop := namesCleanUptoRow.holds Try.pinned (OpenSpec.upto namesCleanSpec)

/-- 'waterlinelaw1.NamesRunes', WHERE WHAT IT READS IS OF BULK AT MOST 1048576: true; the input reads as it did. -/
def namesRunesUptoRow : OpenClaim := { program := "ytajflegjpnmloaa", sum := "767185923149587e308acceebf15e2c81514ff1f16985be7deed16ac7620d269", func := "waterline/waterlinelaw1.NamesRunes", spec := "namesRunes", apart := false, narrowed := true }
def NamesRunesUptoSaid : Prop := namesRunesUptoRow.holds Try.pinned (OpenSpec.upto namesRunesSpec)

/-- 'waterlinelaw1.NamesBroken', WHERE WHAT IT READS IS OF BULK AT MOST 1048576: true; the input reads as it did. -/
def namesBrokenUptoRow : OpenClaim := { program := "ytajflegjpnmloaa", sum := "767185923149587e308acceebf15e2c81514ff1f16985be7deed16ac7620d269", func := "waterline/waterlinelaw1.NamesBroken", spec := "namesBroken", apart := false, narrowed := true }
def NamesBrokenUptoSaid : Prop := namesBrokenUptoRow.holds Try.pinned (OpenSpec.upto namesBrokenSpec)

/-- 'waterlinelaw1.NamesLong', WHERE WHAT IT READS IS OF BULK AT MOST 1048576: true; the input reads as it did. -/
def namesLongUptoRow : OpenClaim := { program := "ytajflegjpnmloaa", sum := "767185923149587e308acceebf15e2c81514ff1f16985be7deed16ac7620d269", func := "waterline/waterlinelaw1.NamesLong", spec := "namesLong", apart := false, narrowed := true }
def NamesLongUptoSaid : Prop := namesLongUptoRow.holds Try.pinned (OpenSpec.upto namesLongSpec)

/-- 'waterlinelaw21.QueuePlays', WHERE WHAT IT READS IS OF BULK AT MOST 1048576: true; the input reads as it did. -/
def queuePlaysUptoRow : OpenClaim := { program := "ytajflegjpnmloaa", sum := "767185923149587e308acceebf15e2c81514ff1f16985be7deed16ac7620d269", func := "waterline/waterlinelaw21.QueuePlays", spec := "queuePlays", apart := false, narrowed := true }
def QueuePlaysUptoSaid : Prop := queuePlaysUptoRow.holds Try.pinned (OpenSpec.upto queuePlaysSpec)

/-- 'waterlinelaw23.BootGoes', WHERE WHAT IT READS IS OF BULK AT MOST 1048576: true; the input reads as it did. -/
def bootGoesUptoRow : OpenClaim := { program := "ytajflegjpnmloaa", sum := "767185923149587e308acceebf15e2c81514ff1f16985be7deed16ac7620d269", func := "waterline/waterlinelaw23.BootGoes", spec := "bootGoes", apart := false, narrowed := true }
def BootGoesUptoSaid : Prop := bootGoesUptoRow.holds Try.pinned (OpenSpec.upto bootGoesSpec)

/-- 'waterlinelaw23.BootEnds', WHERE WHAT IT READS IS OF BULK AT MOST 1048576: true; the input reads as it did. -/
def bootEndsUptoRow : OpenClaim := { program := "ytajflegjpnmloaa", sum := "767185923149587e308acceebf15e2c81514ff1f16985be7deed16ac7620d269", func := "waterline/waterlinelaw23.BootEnds", spec := "bootEnds", apart := false, narrowed := true }
def BootEndsUptoSaid : Prop := bootEndsUptoRow.holds Try.pinned (OpenSpec.upto bootEndsSpec)

end Rows
end Go.Proofs.Ytajflegjpnmloaa
