/-
  No cell of these rows narrows 'for every input' (looked for: loops, veiled, ifaces, maps, wideKeys, modest, calm, conditions, laid).
  DERIVED. THE GIVEN ROWS OF THIS SEAT. 6 by the template 'for every input the law returns true; each argument reads behind the call as it read before'; 0 by the template 'total and deterministic' (their statements: YtehlcljachkgdaaTotals.lean).
  GIVEN WITH THE SEED: the statements are not yours to turn. If you find one false, say at which input.
  Laid BY PROGRAM, IN A SANDBOX (cutbox-rows.mjs): the forced cells as the released guide's own fill.sh prints them over the translation 1ea43062fff01cfe… (all of the seat's roots in one cut). By AI agents, Wed Nov 11 2026. No macro, syntax, notation, axiom, sorry.
-/
import Derived.Test.YtehlcljachkgdaaChecked
import GoSem.Claim
import GoSem.ClaimJoined
import GoSem.ClaimMapViews
import Derived.JoinedTies
import Derived.KernelRfl
namespace Go.Proofs.Ytehlcljachkgdaa
/- THE CELL 'sum', in the pinned program and in every row, IS THE sha256 OF THE DUMP (.gsa) THAT YtehlcljachkgdaaProg.lean LOADS. Nothing in Lean hashes anything: it is a label: what it is worth is what the hold of that sum in a sandbox is worth. -/
noncomputable def Try.pinned : Pinned := { name := "ytehlcljachkgdaa", sum := "1ea43062fff01cfec1f7950ec1e35a545acd6ff2411eeecd25f50414227b7695", checked := Try.checked }
namespace Rows
def none {H : Type} : Left H := { results := [], args := [] }

/-- 'waterlinelaw18.RequestLimits': WHATEVER THE INPUT: true; the input reads as it did. -/
def requestLimitsSpec : ChangeSpec := { name := "requestLimits", fn := fun _ => fun
  | [d] => { results := [.lit (.bool true)], args := [d] }
  | _ => none }
def requestLimitsRow : OpenClaim := { program := "ytehlcljachkgdaa", sum := "1ea43062fff01cfec1f7950ec1e35a545acd6ff2411eeecd25f50414227b7695", func := "waterline/waterlinelaw18.RequestLimits", spec := "requestLimits", apart := false }
def RequestLimitsSaid : Prop := requestLimitsRow.holds Try.pinned (OpenSpec.ofChange requestLimitsSpec)

/-- ITS FALSE NEIGHBOUR: 'it returns false'. Refute it at one input. -/
def requestLimitsWrong : ChangeSpec := { name := "requestLimits", fn := fun _ => fun
  | [d] => { results := [.lit (.bool false)], args := [d] }
  | _ => none }
def RequestLimitsWrongFalsely : Prop := requestLimitsRow.holds Try.pinned (OpenSpec.ofChange requestLimitsWrong)

/-- 'waterlinelaw18.RequestTells': WHATEVER THE INPUT: true; the input reads as it did. -/
def requestTellsSpec : ChangeSpec := { name := "requestTells", fn := fun _ => fun
  | [d1, d2, d3] => { results := [.lit (.bool true)], args := [d1, d2, d3] }
  | _ => none }
def requestTellsRow : OpenClaim := { program := "ytehlcljachkgdaa", sum := "1ea43062fff01cfec1f7950ec1e35a545acd6ff2411eeecd25f50414227b7695", func := "waterline/waterlinelaw18.RequestTells", spec := "requestTells", apart := false }
def RequestTellsSaid : Prop := requestTellsRow.holds Try.pinned (OpenSpec.ofChange requestTellsSpec)

/-- ITS FALSE NEIGHBOUR: 'it returns false'. Refute it at one input. -/
def requestTellsWrong : ChangeSpec := { name := "requestTells", fn := fun _ => fun
  | [d1, d2, d3] => { results := [.lit (.bool false)], args := [d1, d2, d3] }
  | _ => none }
def RequestTellsWrongFalsely : Prop := requestTellsRow.holds Try.pinned (OpenSpec.ofChange requestTellsWrong)

/-- 'waterlinelaw18.RequestTorn': WHATEVER THE INPUT: true; the input reads as it did. -/
def requestTornSpec : ChangeSpec := { name := "requestTorn", fn := fun _ => fun
  | [d1, d2, d3] => { results := [.lit (.bool true)], args := [d1, d2, d3] }
  | _ => none }
def requestTornRow : OpenClaim := { program := "ytehlcljachkgdaa", sum := "1ea43062fff01cfec1f7950ec1e35a545acd6ff2411eeecd25f50414227b7695", func := "waterline/waterlinelaw18.RequestTorn", spec := "requestTorn", apart := false }
def RequestTornSaid : Prop := requestTornRow.holds Try.pinned (OpenSpec.ofChange requestTornSpec)

/-- ITS FALSE NEIGHBOUR: 'it returns false'. Refute it at one input. -/
def requestTornWrong : ChangeSpec := { name := "requestTorn", fn := fun _ => fun
  | [d1, d2, d3] => { results := [.lit (.bool false)], args := [d1, d2, d3] }
  | _ => none }
def RequestTornWrongFalsely : Prop := requestTornRow.holds Try.pinned (OpenSpec.ofChange requestTornWrong)

/-- 'waterlinelaw13.MetaTells': WHATEVER THE INPUT: true; the input reads as it did. -/
def metaTellsSpec : ChangeSpec := { name := "metaTells", fn := fun _ => fun
  | [d1, d2] => { results := [.lit (.bool true)], args := [d1, d2] }
  | _ => none }
def metaTellsRow : OpenClaim := { program := "ytehlcljachkgdaa", sum := "1ea43062fff01cfec1f7950ec1e35a545acd6ff2411eeecd25f50414227b7695", func := "waterline/waterlinelaw13.MetaTells", spec := "metaTells", unfollowed := true, recurses := true, apart := false }
def MetaTellsSaid : Prop := metaTellsRow.holds Try.pinned (OpenSpec.ofChange metaTellsSpec)

/-- ITS FALSE NEIGHBOUR: 'it returns false'. Refute it at one input. -/
def metaTellsWrong : ChangeSpec := { name := "metaTells", fn := fun _ => fun
  | [d1, d2] => { results := [.lit (.bool false)], args := [d1, d2] }
  | _ => none }
def MetaTellsWrongFalsely : Prop := metaTellsRow.holds Try.pinned (OpenSpec.ofChange metaTellsWrong)

/-- 'waterlinelaw13.MetaShort': WHATEVER THE INPUT: true; the input reads as it did. -/
def metaShortSpec : ChangeSpec := { name := "metaShort", fn := fun _ => fun
  | [d1, d2] => { results := [.lit (.bool true)], args := [d1, d2] }
  | _ => none }
def metaShortRow : OpenClaim := { program := "ytehlcljachkgdaa", sum := "1ea43062fff01cfec1f7950ec1e35a545acd6ff2411eeecd25f50414227b7695", func := "waterline/waterlinelaw13.MetaShort", spec := "metaShort", unfollowed := true, recurses := true, apart := false }
def MetaShortSaid : Prop := metaShortRow.holds Try.pinned (OpenSpec.ofChange metaShortSpec)

/-- ITS FALSE NEIGHBOUR: 'it returns false'. Refute it at one input. -/
def metaShortWrong : ChangeSpec := { name := "metaShort", fn := fun _ => fun
  | [d1, d2] => { results := [.lit (.bool false)], args := [d1, d2] }
  | _ => none }
def MetaShortWrongFalsely : Prop := metaShortRow.holds Try.pinned (OpenSpec.ofChange metaShortWrong)

/-- 'waterlinelaw13.MetaKinds': WHATEVER THE INPUT: true; the input reads as it did. -/
def metaKindsSpec : ChangeSpec := { name := "metaKinds", fn := fun _ => fun
  | [d] => { results := [.lit (.bool true)], args := [d] }
  | _ => none }
def metaKindsRow : OpenClaim := { program := "ytehlcljachkgdaa", sum := "1ea43062fff01cfec1f7950ec1e35a545acd6ff2411eeecd25f50414227b7695", func := "waterline/waterlinelaw13.MetaKinds", spec := "metaKinds", unfollowed := true, recurses := true, apart := false }
def MetaKindsSaid : Prop := metaKindsRow.holds Try.pinned (OpenSpec.ofChange metaKindsSpec)

/-- ITS FALSE NEIGHBOUR: 'it returns false'. Refute it at one input. -/
def metaKindsWrong : ChangeSpec := { name := "metaKinds", fn := fun _ => fun
  | [d] => { results := [.lit (.bool false)], args := [d] }
  | _ => none }
def MetaKindsWrongFalsely : Prop := metaKindsRow.holds Try.pinned (OpenSpec.ofChange metaKindsWrong)

/- THE SECOND FORM. 'bulk': how many values and letters a reading holds, each counted each time it is reached (what is shared counts as often as it is met; a slice's spare places count too). A statement '..UptoSaid' is the law's where the arguments, and the package variables that the reading takes, are together of bulk at most 1048576: NARROWER than '..Said'. Prove '..Said' where nothing that the law and all that it calls make is longer than what came in: it says more and counts as full. Else prove '..UptoSaid'. A law counts once. -/
mutual
def uptoBulk {H : Type} : DataW H → Nat
  | .lit (.string bytes) => bytes.length + 1
  | .lit _ => 1
  | .nil => 1
  | .ptr d => uptoBulk d + 1
  | .slice elems spare => uptoBulkAll elems + uptoBulkAll spare + 1
  | .agg parts => uptoBulkAll parts + 1
  | .iface _ d => uptoBulk d + 1
  | .map entries => uptoBulkEntries entries + 1
  | .held _ => 1
def uptoBulkAll {H : Type} : List (DataW H) → Nat
  | [] => 0
  | d :: r => uptoBulk d + uptoBulkAll r
def uptoBulkEntries {H : Type} : List (Lit × DataW H) → Nat
  | [] => 0
  | x :: r => uptoBulkEntry x + uptoBulkEntries r
def uptoBulkEntry {H : Type} : Lit × DataW H → Nat
  | (.string bytes, d) => bytes.length + uptoBulk d + 1
  | (_, d) => uptoBulk d + 1
 end
def uptoSmall : (H : Type) → List (DataW H) → Bool := fun _ ds => decide (uptoBulkAll ds ≤ 1048576)
def OpenSpec.upto (s : _root_.Go.ChangeSpec) : _root_.Go.OpenSpec := { _root_.Go.OpenSpec.ofChange s with cond := some uptoSmall }

/-- 'waterlinelaw18.RequestLimits', WHERE WHAT IT READS IS OF BULK AT MOST 1048576: true; the input reads as it did. -/
def requestLimitsUptoRow : OpenClaim := { program := "ytehlcljachkgdaa", sum := "1ea43062fff01cfec1f7950ec1e35a545acd6ff2411eeecd25f50414227b7695", func := "waterline/waterlinelaw18.RequestLimits", spec := "requestLimits", apart := false, narrowed := true }
def RequestLimitsUptoSaid : Prop := requestLimitsUptoRow.holds Try.pinned (OpenSpec.upto requestLimitsSpec)

/-- 'waterlinelaw18.RequestTells', WHERE WHAT IT READS IS OF BULK AT MOST 1048576: true; the input reads as it did. -/
def requestTellsUptoRow : OpenClaim := { program := "ytehlcljachkgdaa", sum := "1ea43062fff01cfec1f7950ec1e35a545acd6ff2411eeecd25f50414227b7695", func := "waterline/waterlinelaw18.RequestTells", spec := "requestTells", apart := false, narrowed := true }
def RequestTellsUptoSaid : Prop := requestTellsUptoRow.holds Try.pinned (OpenSpec.upto requestTellsSpec)

/-- 'waterlinelaw18.RequestTorn', WHERE WHAT IT READS IS OF BULK AT MOST 1048576: true; the input reads as it did. -/
def requestTornUptoRow : OpenClaim := { program := "ytehlcljachkgdaa", sum := "1ea43062fff01cfec1f7950ec1e35a545acd6ff2411eeecd25f50414227b7695", func := "waterline/waterlinelaw18.RequestTorn", spec := "requestTorn", apart := false, narrowed := true }
def RequestTornUptoSaid : Prop := requestTornUptoRow.holds Try.pinned (OpenSpec.upto requestTornSpec)

/-- 'waterlinelaw13.MetaTells', WHERE WHAT IT READS IS OF BULK AT MOST 1048576: true; the input reads as it did. -/
def metaTellsUptoRow : OpenClaim := { program := "ytehlcljachkgdaa", sum := "1ea43062fff01cfec1f7950ec1e35a545acd6ff2411eeecd25f50414227b7695", func := "waterline/waterlinelaw13.MetaTells", spec := "metaTells", unfollowed := true, recurses := true, apart := false, narrowed := true }
def MetaTellsUptoSaid : Prop := metaTellsUptoRow.holds Try.pinned (OpenSpec.upto metaTellsSpec)

/-- 'waterlinelaw13.MetaShort', WHERE WHAT IT READS IS OF BULK AT MOST 1048576: true; the input reads as it did. -/
def metaShortUptoRow : OpenClaim := { program := "ytehlcljachkgdaa", sum := "1ea43062fff01cfec1f7950ec1e35a545acd6ff2411eeecd25f50414227b7695", func := "waterline/waterlinelaw13.MetaShort", spec := "metaShort", unfollowed := true, recurses := true, apart := false, narrowed := true }
def MetaShortUptoSaid : Prop := metaShortUptoRow.holds Try.pinned (OpenSpec.upto metaShortSpec)

/-- 'waterlinelaw13.MetaKinds', WHERE WHAT IT READS IS OF BULK AT MOST 1048576: true; the input reads as it did. -/
def metaKindsUptoRow : OpenClaim := { program := "ytehlcljachkgdaa", sum := "1ea43062fff01cfec1f7950ec1e35a545acd6ff2411eeecd25f50414227b7695", func := "waterline/waterlinelaw13.MetaKinds", spec := "metaKinds", unfollowed := true, recurses := true, apart := false, narrowed := true }
def MetaKindsUptoSaid : Prop := metaKindsUptoRow.holds Try.pinned (OpenSpec.upto metaKindsSpec)

end Rows
end Go.Proofs.Ytehlcljachkgdaa
