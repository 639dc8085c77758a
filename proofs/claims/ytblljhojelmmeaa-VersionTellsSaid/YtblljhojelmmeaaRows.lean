/-
  No cell of these rows narrows 'for every input' (looked for: loops, veiled, ifaces, maps, wideKeys, modest, calm, conditions, laid).
  DERIVED. THE GIVEN ROWS OF THIS SEAT. 12 by the template 'for every input the law returns true; each argument reads behind the call as it read before'; 0 by the template 'total and deterministic' (their statements: YtblljhojelmmeaaTotals.lean).
  GIVEN WITH THE SEED: the statements are not yours to turn. If you find one false, say at which input.
  Laid BY PROGRAM, IN A SANDBOX (cutbox-rows.mjs): the forced cells as the released guide's own fill.sh prints them over the translation 536b93cf0d2b51f2… (all of the seat's roots in one cut). By AI agents, Wed Nov 11 2026. No macro, syntax, notation, axiom, sorry.
-/
import Derived.Test.YtblljhojelmmeaaChecked
import GoSem.Claim
import GoSem.ClaimJoined
import GoSem.ClaimMapViews
import Derived.JoinedTies
import Derived.KernelRfl
namespace Go.Proofs.Ytblljhojelmmeaa
/- THE CELL 'sum', in the pinned program and in every row, IS THE sha256 OF THE DUMP (.gsa) THAT YtblljhojelmmeaaProg.lean LOADS. Nothing in Lean hashes anything: it is a label: what it is worth is what the hold of that sum in a sandbox is worth. -/
noncomputable def Try.pinned : Pinned := { name := "ytblljhojelmmeaa", sum := "536b93cf0d2b51f294bc5ede482058fb765e2de1e27c2534091d443c696ea041", checked := Try.checked }
namespace Rows
def none {H : Type} : Left H := { results := [], args := [] }

/-- 'waterlinelaw16.VersionTells': WHATEVER THE INPUT: true; the input reads as it did. -/
def versionTellsSpec : ChangeSpec := { name := "versionTells", fn := fun _ => fun
  | [d1, d2] => { results := [.lit (.bool true)], args := [d1, d2] }
  | _ => none }
def versionTellsRow : OpenClaim := { program := "ytblljhojelmmeaa", sum := "536b93cf0d2b51f294bc5ede482058fb765e2de1e27c2534091d443c696ea041", func := "waterline/waterlinelaw16.VersionTells", spec := "versionTells", apart := false }
def VersionTellsSaid : Prop := versionTellsRow.holds Try.pinned (OpenSpec.ofChange versionTellsSpec)

/-- ITS FALSE NEIGHBOUR: 'it returns false'. Refute it at one input. -/
def versionTellsWrong : ChangeSpec := { name := "versionTells", fn := fun _ => fun
  | [d1, d2] => { results := [.lit (.bool false)], args := [d1, d2] }
  | _ => none }
def VersionTellsWrongFalsely : Prop := versionTellsRow.holds Try.pinned (OpenSpec.ofChange versionTellsWrong)

/-- 'waterlinelaw16.VersionRises': WHATEVER THE INPUT: true; the input reads as it did. -/
def versionRisesSpec : ChangeSpec := { name := "versionRises", fn := fun _ => fun
  | [d1, d2] => { results := [.lit (.bool true)], args := [d1, d2] }
  | _ => none }
def versionRisesRow : OpenClaim := { program := "ytblljhojelmmeaa", sum := "536b93cf0d2b51f294bc5ede482058fb765e2de1e27c2534091d443c696ea041", func := "waterline/waterlinelaw16.VersionRises", spec := "versionRises", apart := false }
def VersionRisesSaid : Prop := versionRisesRow.holds Try.pinned (OpenSpec.ofChange versionRisesSpec)

/-- ITS FALSE NEIGHBOUR: 'it returns false'. Refute it at one input. -/
def versionRisesWrong : ChangeSpec := { name := "versionRises", fn := fun _ => fun
  | [d1, d2] => { results := [.lit (.bool false)], args := [d1, d2] }
  | _ => none }
def VersionRisesWrongFalsely : Prop := versionRisesRow.holds Try.pinned (OpenSpec.ofChange versionRisesWrong)

/-- 'waterlinelaw5.CrcSums': WHATEVER THE INPUT: true; the input reads as it did. -/
def crcSumsSpec : ChangeSpec := { name := "crcSums", fn := fun _ => fun
  | [d1, d2] => { results := [.lit (.bool true)], args := [d1, d2] }
  | _ => none }
def crcSumsRow : OpenClaim := { program := "ytblljhojelmmeaa", sum := "536b93cf0d2b51f294bc5ede482058fb765e2de1e27c2534091d443c696ea041", func := "waterline/waterlinelaw5.CrcSums", spec := "crcSums", apart := false }
def CrcSumsSaid : Prop := crcSumsRow.holds Try.pinned (OpenSpec.ofChange crcSumsSpec)

/-- ITS FALSE NEIGHBOUR: 'it returns false'. Refute it at one input. -/
def crcSumsWrong : ChangeSpec := { name := "crcSums", fn := fun _ => fun
  | [d1, d2] => { results := [.lit (.bool false)], args := [d1, d2] }
  | _ => none }
def CrcSumsWrongFalsely : Prop := crcSumsRow.holds Try.pinned (OpenSpec.ofChange crcSumsWrong)

/-- 'waterlinelaw5.CrcJoins': WHATEVER THE INPUT: true; the input reads as it did. -/
def crcJoinsSpec : ChangeSpec := { name := "crcJoins", fn := fun _ => fun
  | [d1, d2] => { results := [.lit (.bool true)], args := [d1, d2] }
  | _ => none }
def crcJoinsRow : OpenClaim := { program := "ytblljhojelmmeaa", sum := "536b93cf0d2b51f294bc5ede482058fb765e2de1e27c2534091d443c696ea041", func := "waterline/waterlinelaw5.CrcJoins", spec := "crcJoins", apart := false }
def CrcJoinsSaid : Prop := crcJoinsRow.holds Try.pinned (OpenSpec.ofChange crcJoinsSpec)

/-- ITS FALSE NEIGHBOUR: 'it returns false'. Refute it at one input. -/
def crcJoinsWrong : ChangeSpec := { name := "crcJoins", fn := fun _ => fun
  | [d1, d2] => { results := [.lit (.bool false)], args := [d1, d2] }
  | _ => none }
def CrcJoinsWrongFalsely : Prop := crcJoinsRow.holds Try.pinned (OpenSpec.ofChange crcJoinsWrong)

/-- 'waterlinelaw5.CrcBit': WHATEVER THE INPUT: true; the input reads as it did. -/
def crcBitSpec : ChangeSpec := { name := "crcBit", fn := fun _ => fun
  | [d1, d2, d3] => { results := [.lit (.bool true)], args := [d1, d2, d3] }
  | _ => none }
def crcBitRow : OpenClaim := { program := "ytblljhojelmmeaa", sum := "536b93cf0d2b51f294bc5ede482058fb765e2de1e27c2534091d443c696ea041", func := "waterline/waterlinelaw5.CrcBit", spec := "crcBit", apart := false }
def CrcBitSaid : Prop := crcBitRow.holds Try.pinned (OpenSpec.ofChange crcBitSpec)

/-- ITS FALSE NEIGHBOUR: 'it returns false'. Refute it at one input. -/
def crcBitWrong : ChangeSpec := { name := "crcBit", fn := fun _ => fun
  | [d1, d2, d3] => { results := [.lit (.bool false)], args := [d1, d2, d3] }
  | _ => none }
def CrcBitWrongFalsely : Prop := crcBitRow.holds Try.pinned (OpenSpec.ofChange crcBitWrong)

/-- 'waterlinelaw5.CrcEnd': WHATEVER THE INPUT: true; the input reads as it did. -/
def crcEndSpec : ChangeSpec := { name := "crcEnd", fn := fun _ => fun
  | [d] => { results := [.lit (.bool true)], args := [d] }
  | _ => none }
def crcEndRow : OpenClaim := { program := "ytblljhojelmmeaa", sum := "536b93cf0d2b51f294bc5ede482058fb765e2de1e27c2534091d443c696ea041", func := "waterline/waterlinelaw5.CrcEnd", spec := "crcEnd", apart := false }
def CrcEndSaid : Prop := crcEndRow.holds Try.pinned (OpenSpec.ofChange crcEndSpec)

/-- ITS FALSE NEIGHBOUR: 'it returns false'. Refute it at one input. -/
def crcEndWrong : ChangeSpec := { name := "crcEnd", fn := fun _ => fun
  | [d] => { results := [.lit (.bool false)], args := [d] }
  | _ => none }
def CrcEndWrongFalsely : Prop := crcEndRow.holds Try.pinned (OpenSpec.ofChange crcEndWrong)

/-- 'waterlinelaw22.FrameTells': WHATEVER THE INPUT: true; the input reads as it did. -/
def frameTellsSpec : ChangeSpec := { name := "frameTells", fn := fun _ => fun
  | [d1, d2, d3, d4] => { results := [.lit (.bool true)], args := [d1, d2, d3, d4] }
  | _ => none }
def frameTellsRow : OpenClaim := { program := "ytblljhojelmmeaa", sum := "536b93cf0d2b51f294bc5ede482058fb765e2de1e27c2534091d443c696ea041", func := "waterline/waterlinelaw22.FrameTells", spec := "frameTells", apart := false }
def FrameTellsSaid : Prop := frameTellsRow.holds Try.pinned (OpenSpec.ofChange frameTellsSpec)

/-- ITS FALSE NEIGHBOUR: 'it returns false'. Refute it at one input. -/
def frameTellsWrong : ChangeSpec := { name := "frameTells", fn := fun _ => fun
  | [d1, d2, d3, d4] => { results := [.lit (.bool false)], args := [d1, d2, d3, d4] }
  | _ => none }
def FrameTellsWrongFalsely : Prop := frameTellsRow.holds Try.pinned (OpenSpec.ofChange frameTellsWrong)

/-- 'waterlinelaw22.FrameWaits': WHATEVER THE INPUT: true; the input reads as it did. -/
def frameWaitsSpec : ChangeSpec := { name := "frameWaits", fn := fun _ => fun
  | [d1, d2, d3, d4] => { results := [.lit (.bool true)], args := [d1, d2, d3, d4] }
  | _ => none }
def frameWaitsRow : OpenClaim := { program := "ytblljhojelmmeaa", sum := "536b93cf0d2b51f294bc5ede482058fb765e2de1e27c2534091d443c696ea041", func := "waterline/waterlinelaw22.FrameWaits", spec := "frameWaits", apart := false }
def FrameWaitsSaid : Prop := frameWaitsRow.holds Try.pinned (OpenSpec.ofChange frameWaitsSpec)

/-- ITS FALSE NEIGHBOUR: 'it returns false'. Refute it at one input. -/
def frameWaitsWrong : ChangeSpec := { name := "frameWaits", fn := fun _ => fun
  | [d1, d2, d3, d4] => { results := [.lit (.bool false)], args := [d1, d2, d3, d4] }
  | _ => none }
def FrameWaitsWrongFalsely : Prop := frameWaitsRow.holds Try.pinned (OpenSpec.ofChange frameWaitsWrong)

/-- 'waterlinelaw22.FrameAll': WHATEVER THE INPUT: true; the input reads as it did. -/
def frameAllSpec : ChangeSpec := { name := "frameAll", fn := fun _ => fun
  | [d1, d2] => { results := [.lit (.bool true)], args := [d1, d2] }
  | _ => none }
def frameAllRow : OpenClaim := { program := "ytblljhojelmmeaa", sum := "536b93cf0d2b51f294bc5ede482058fb765e2de1e27c2534091d443c696ea041", func := "waterline/waterlinelaw22.FrameAll", spec := "frameAll", apart := false }
def FrameAllSaid : Prop := frameAllRow.holds Try.pinned (OpenSpec.ofChange frameAllSpec)

/-- ITS FALSE NEIGHBOUR: 'it returns false'. Refute it at one input. -/
def frameAllWrong : ChangeSpec := { name := "frameAll", fn := fun _ => fun
  | [d1, d2] => { results := [.lit (.bool false)], args := [d1, d2] }
  | _ => none }
def FrameAllWrongFalsely : Prop := frameAllRow.holds Try.pinned (OpenSpec.ofChange frameAllWrong)

/-- 'waterlinelaw2.TurnTells': WHATEVER THE INPUT: true; the input reads as it did. -/
def turnTellsSpec : ChangeSpec := { name := "turnTells", fn := fun _ => fun
  | [d1, d2, d3] => { results := [.lit (.bool true)], args := [d1, d2, d3] }
  | _ => none }
def turnTellsRow : OpenClaim := { program := "ytblljhojelmmeaa", sum := "536b93cf0d2b51f294bc5ede482058fb765e2de1e27c2534091d443c696ea041", func := "waterline/waterlinelaw2.TurnTells", spec := "turnTells", apart := false }
def TurnTellsSaid : Prop := turnTellsRow.holds Try.pinned (OpenSpec.ofChange turnTellsSpec)

/-- ITS FALSE NEIGHBOUR: 'it returns false'. Refute it at one input. -/
def turnTellsWrong : ChangeSpec := { name := "turnTells", fn := fun _ => fun
  | [d1, d2, d3] => { results := [.lit (.bool false)], args := [d1, d2, d3] }
  | _ => none }
def TurnTellsWrongFalsely : Prop := turnTellsRow.holds Try.pinned (OpenSpec.ofChange turnTellsWrong)

/-- 'waterlinelaw2.TurnBack': WHATEVER THE INPUT: true; the input reads as it did. -/
def turnBackSpec : ChangeSpec := { name := "turnBack", fn := fun _ => fun
  | [d1, d2, d3] => { results := [.lit (.bool true)], args := [d1, d2, d3] }
  | _ => none }
def turnBackRow : OpenClaim := { program := "ytblljhojelmmeaa", sum := "536b93cf0d2b51f294bc5ede482058fb765e2de1e27c2534091d443c696ea041", func := "waterline/waterlinelaw2.TurnBack", spec := "turnBack", apart := false }
def TurnBackSaid : Prop := turnBackRow.holds Try.pinned (OpenSpec.ofChange turnBackSpec)

/-- ITS FALSE NEIGHBOUR: 'it returns false'. Refute it at one input. -/
def turnBackWrong : ChangeSpec := { name := "turnBack", fn := fun _ => fun
  | [d1, d2, d3] => { results := [.lit (.bool false)], args := [d1, d2, d3] }
  | _ => none }
def TurnBackWrongFalsely : Prop := turnBackRow.holds Try.pinned (OpenSpec.ofChange turnBackWrong)

/-- 'waterlinelaw2.TurnBits': WHATEVER THE INPUT: true; the input reads as it did. -/
def turnBitsSpec : ChangeSpec := { name := "turnBits", fn := fun _ => fun
  | [d1, d2] => { results := [.lit (.bool true)], args := [d1, d2] }
  | _ => none }
def turnBitsRow : OpenClaim := { program := "ytblljhojelmmeaa", sum := "536b93cf0d2b51f294bc5ede482058fb765e2de1e27c2534091d443c696ea041", func := "waterline/waterlinelaw2.TurnBits", spec := "turnBits", apart := false }
def TurnBitsSaid : Prop := turnBitsRow.holds Try.pinned (OpenSpec.ofChange turnBitsSpec)

/-- ITS FALSE NEIGHBOUR: 'it returns false'. Refute it at one input. -/
def turnBitsWrong : ChangeSpec := { name := "turnBits", fn := fun _ => fun
  | [d1, d2] => { results := [.lit (.bool false)], args := [d1, d2] }
  | _ => none }
def TurnBitsWrongFalsely : Prop := turnBitsRow.holds Try.pinned (OpenSpec.ofChange turnBitsWrong)

/- THE SECOND FORM. 'bulk': how many values and letters a reading holds, each counted each time it is reached (what is shared counts as often as it is met; a slice's spare places count too). A statement '..UptoSaid' is the law's where the arguments, and the package variables that the reading takes, are together of bulk at most 1048576: NARROWER than '..Said'. Prove '..Said' where nothing that the law and all that it calls make is longer than what came in: it says more and counts as full. Else prove '..UptoSaid'. A law counts once. -/
mutual
def uptoBulk {H : Type} : DataW H → Nat
  | .lit (.string bytes) => bytes.length + 1
  | .lit _ => 1
  | .nil => 1
  | .ptr d => uptoBulk d + 1
  | .slice elems spare => uptoBulkAll elems + uptoBulkAll spare + 1
  | .agg parts => uptoBulkAll parts + 1
  | .iface _ d => uptoBulk d + 1
  | .map entries => uptoBulkEntries entries + 1
  | .held _ => 1
def uptoBulkAll {H : Type} : List (DataW H) → Nat
  | [] => 0
  | d :: r => uptoBulk d + uptoBulkAll r
def uptoBulkEntries {H : Type} : List (Lit × DataW H) → Nat
  | [] => 0
  | x :: r => uptoBulkEntry x + uptoBulkEntries r
def uptoBulkEntry {H : Type} : Lit × DataW H → Nat
  | (.string bytes, d) => bytes.length + uptoBulk d + 1
  | (_, d) => uptoBulk d + 1
 end
def uptoSmall : (H : Type) → List (DataW H) → Bool := fun _ ds => decide (uptoBulkAll ds ≤ 1048576)
def OpenSpec.upto (s : _root_.Go.ChangeSpec) : _root_.Go.OpenSpec := { _root_.Go.OpenSpec.ofChange s with cond := some uptoSmall }

/-- 'waterlinelaw16.VersionTells', WHERE WHAT IT READS IS OF BULK AT MOST 1048576: true; the input reads as it did. -/
def versionTellsUptoRow : OpenClaim := { program := "ytblljhojelmmeaa", sum := "536b93cf0d2b51f294bc5ede482058fb765e2de1e27c2534091d443c696ea041", func := "waterline/waterlinelaw16.VersionTells", spec := "versionTells", apart := false, narrowed := true }
def VersionTellsUptoSaid : Prop := versionTellsUptoRow.holds Try.pinned (OpenSpec.upto versionTellsSpec)

/-- 'waterlinelaw16.VersionRises', WHERE WHAT IT READS IS OF BULK AT MOST 1048576: true; the input reads as it did. -/
def versionRisesUptoRow : OpenClaim := { program := "ytblljhojelmmeaa", sum := "536b93cf0d2b51f294bc5ede482058fb765e2de1e27c2534091d443c696ea041", func := "waterline/waterlinelaw16.VersionRises", spec := "versionRises", apart := false, narrowed := true }
def VersionRisesUptoSaid : Prop := versionRisesUptoRow.holds Try.pinned (OpenSpec.upto versionRisesSpec)

/-- 'waterlinelaw5.CrcSums', WHERE WHAT IT READS IS OF BULK AT MOST 1048576: true; the input reads as it did. -/
def crcSumsUptoRow : OpenClaim := { program := "ytblljhojelmmeaa", sum := "536b93cf0d2b51f294bc5ede482058fb765e2de1e27c2534091d443c696ea041", func := "waterline/waterlinelaw5.CrcSums", spec := "crcSums", apart := false, narrowed := true }
def CrcSumsUptoSaid : Prop := crcSumsUptoRow.holds Try.pinned (OpenSpec.upto crcSumsSpec)

/-- 'waterlinelaw5.CrcJoins', WHERE WHAT IT READS IS OF BULK AT MOST 1048576: true; the input reads as it did. -/
def crcJoinsUptoRow : OpenClaim := { program := "ytblljhojelmmeaa", sum := "536b93cf0d2b51f294bc5ede482058fb765e2de1e27c2534091d443c696ea041", func := "waterline/waterlinelaw5.CrcJoins", spec := "crcJoins", apart := false, narrowed := true }
def CrcJoinsUptoSaid : Prop := crcJoinsUptoRow.holds Try.pinned (OpenSpec.upto crcJoinsSpec)

/-- 'waterlinelaw5.CrcBit', WHERE WHAT IT READS IS OF BULK AT MOST 1048576: true; the input reads as it did. -/
def crcBitUptoRow : OpenClaim := { program := "ytblljhojelmmeaa", sum := "536b93cf0d2b51f294bc5ede482058fb765e2de1e27c2534091d443c696ea041", func := "waterline/waterlinelaw5.CrcBit", spec := "crcBit", apart := false, narrowed := true }
def CrcBitUptoSaid : Prop := crcBitUptoRow.holds Try.pinned (OpenSpec.upto crcBitSpec)

/-- 'waterlinelaw5.CrcEnd', WHERE WHAT IT READS IS OF BULK AT MOST 1048576: true; the input reads as it did. -/
def crcEndUptoRow : OpenClaim := { program := "ytblljhojelmmeaa", sum := "536b93cf0d2b51f294bc5ede482058fb765e2de1e27c2534091d443c696ea041", func := "waterline/waterlinelaw5.CrcEnd", spec := "crcEnd", apart := false, narrowed := true }
def CrcEndUptoSaid : Prop := crcEndUptoRow.holds Try.pinned (OpenSpec.upto crcEndSpec)

/-- 'waterlinelaw22.FrameTells', WHERE WHAT IT READS IS OF BULK AT MOST 1048576: true; the input reads as it did. -/
def frameTellsUptoRow : OpenClaim := { program := "ytblljhojelmmeaa", sum := "536b93cf0d2b51f294bc5ede482058fb765e2de1e27c2534091d443c696ea041", func := "waterline/waterlinelaw22.FrameTells", spec := "frameTells", apart := false, narrowed := true }
def FrameTellsUptoSaid : Prop := frameTellsUptoRow.holds Try.pinned (OpenSpec.upto frameTellsSpec)

/-- 'waterlinelaw22.FrameWaits', WHERE WHAT IT READS IS OF BULK AT MOST 1048576: true; the input reads as it did. -/
def frameWaitsUptoRow : OpenClaim := { program := "ytblljhojelmmeaa", sum := "536b93cf0d2b51f294bc5ede482058fb765e2de1e27c2534091d443c696ea041", func := "waterline/waterlinelaw22.FrameWaits", spec := "frameWaits", apart := false, narrowed := true }
def FrameWaitsUptoSaid : Prop := frameWaitsUptoRow.holds Try.pinned (OpenSpec.upto frameWaitsSpec)

/-- 'waterlinelaw22.FrameAll', WHERE WHAT IT READS IS OF BULK AT MOST 1048576: true; the input reads as it did. -/
def frameAllUptoRow : OpenClaim := { program := "ytblljhojelmmeaa", sum := "536b93cf0d2b51f294bc5ede482058fb765e2de1e27c2534091d443c696ea041", func := "waterline/waterlinelaw22.FrameAll", spec := "frameAll", apart := false, narrowed := true }
def FrameAllUptoSaid : Prop := frameAllUptoRow.holds Try.pinned (OpenSpec.upto frameAllSpec)

/-- 'waterlinelaw2.TurnTells', WHERE WHAT IT READS IS OF BULK AT MOST 1048576: true; the input reads as it did. -/
def turnTellsUptoRow : OpenClaim := { program := "ytblljhojelmmeaa", sum := "536b93cf0d2b51f294bc5ede482058fb765e2de1e27c2534091d443c696ea041", func := "waterline/waterlinelaw2.TurnTells", spec := "turnTells", apart := false, narrowed := true }
def TurnTellsUptoSaid : Prop := turnTellsUptoRow.holds Try.pinned (OpenSpec.upto turnTellsSpec)

/-- 'waterlinelaw2.TurnBack', WHERE WHAT IT READS IS OF BULK AT MOST 1048576: true; the input reads as it did. -/
def turnBackUptoRow : OpenClaim := { program := "ytblljhojelmmeaa", sum := "536b93cf0d2b51f294bc5ede482058fb765e2de1e27c2534091d443c696ea041", func := "waterline/waterlinelaw2.TurnBack", spec := "turnBack", apart := false, narrowed := true }
def TurnBackUptoSaid : Prop := turnBackUptoRow.holds Try.pinned (OpenSpec.upto turnBackSpec)

/-- 'waterlinelaw2.TurnBits', WHERE WHAT IT READS IS OF BULK AT MOST 1048576: true; the input reads as it did. -/
def turnBitsUptoRow : OpenClaim := { program := "ytblljhojelmmeaa", sum := "536b93cf0d2b51f294bc5ede482058fb765e2de1e27c2534091d443c696ea041", func := "waterline/waterlinelaw2.TurnBits", spec := "turnBits", apart := false, narrowed := true }
def TurnBitsUptoSaid : Prop := turnBitsUptoRow.holds Try.pinned (OpenSpec.upto turnBitsSpec)

end Rows
end Go.Proofs.Ytblljhojelmmeaa
