/- Proved: whatever two ints the law is called with, it returns true: a bit at a place within the word, turned round to the right, lies where the law says. No condition. -/
import Derived.Test.YtblljhojelmmeaaPTurnBitsx1
import Derived.Test.YtblljhojelmmeaaRot
namespace Go.Proofs.Ytblljhojelmmeaa.Pure
open Go.RowKit Go.Proofs.Ytblljhojelmmeaa.PTurnBits Go.Proofs.YtblljhojelmmeaaW.PrintWords Go.Proofs.YtblljhojelmmeaaW.PrintLast Go.Proofs.Ytblljhojelmmeaa.Rot

theorem tb_right (x : BitVec 32) (n : Int) : turn_Right.f (x.toNat : Int) n = some ((rot x n).toNat : Int) := by
  unfold turn_Right.f bits_RotateLeft32.f
  rw [and31]
  have e : wrap64 (-n) % 32 = (-n) % 32 := by unfold wrap64; omega
  have w : IntKind.u64.wrap (32 - (-n) % 32) = 32 - (-n) % 32 := by rw [IntKind.wrap_u64]; omega
  rw [e, w, if_pos (by omega), if_pos (by omega), join_right]
  rfl

theorem TurnBits : waterlinelaw2_TurnBits.Pure := by
  intro a0 a1 h0 h1
  refine ⟨9, ?_⟩
  have al : waterlinelaw2_alive.f 9 = some true := by decide +kernel
  unfold waterlinelaw2_TurnBits.f
  rw [al]
  simp only [Option.bind_some, if_true]
  by_cases c1 : a0 < 0
  · rw [if_pos c1]
  rw [if_neg c1]
  by_cases c2 : a0 > 31
  · rw [if_pos c2]
  rw [if_neg c2]
  by_cases c3 : a1 < 0
  · rw [if_pos c3]
  rw [if_neg c3]
  by_cases c4 : a1 > 31
  · rw [if_pos c4]
  rw [if_neg c4]
  have w0 : IntKind.u64.wrap a0 = a0 := by rw [IntKind.wrap_u64]; omega
  have w1 : wrap64 (wrap64 (a0 - a1) + 32) = a0 - a1 + 32 := by unfold wrap64; omega
  have w2 : Int.tmod (a0 - a1 + 32) 32 = (a0 - a1 + 32) % 32 := Int.tmod_eq_emod_of_nonneg (by omega)
  have w3 : IntKind.u64.wrap ((a0 - a1 + 32) % 32) = (a0 - a1) % 32 := by rw [IntKind.wrap_u64]; omega
  rw [w0, w1, w2, w3, if_pos (by omega), one_at a0 (by omega) (by omega), tb_right, rot_one _ _ (by omega) (by omega), one_at ((a0 - a1) % 32) (by omega) (by omega)]
  simp only [Option.bind_some]
  rw [if_pos (by omega)]
  simp
end Go.Proofs.Ytblljhojelmmeaa.Pure
