/- BootGoes, whatever comes. -/
import Derived.Test.YtajflegjpnmloaaBootGoes
import Derived.Test.YtajflegjpnmloaaMetaOpen
namespace Go.Proofs.Ytajflegjpnmloaa.Boot
open Go.ChangeShapes Go.WideShapes Go.RowKit Go.Proofs.YtajflegjpnmloaaW.PrintWords Go.Proofs.YtajflegjpnmloaaW.PrintLast Go.Proofs.Ytajflegjpnmloaa.Kit
theorem goes_any {H : Type} {enc : TypeId × Value → H} {base b0 : Nat} {spare : Nat → Bool} {held : Bool} {d : DataW H} {p : List MemPlace} (v : Value) (n : Int) (W : World) (hv : Value.okWide Try.prog W .any b0 58 v) (h : DataW.Trod enc Try.prog W base spare held 58 v d p) :
    Calls Try.prog 13 #[v, .int .i64 n] W fun e W' => e = .returned (.bool true) ∧ Below W.heap.size W W' := by
  obtain ⟨m, hm, rfl⟩ := open_met hv h
  by_cases hc : m.right = false ∨ n < 0 ∨ 10 < n
  · exact goes_not m hm n hc W
  · have hr : m.right = true := by
      cases hq : m.right with
      | true => rfl
      | false => exact absurd (.inl hq) hc
    obtain ⟨k, rfl⟩ : ∃ k : Nat, n = k := ⟨n.toNat, by omega⟩
    exact goes_in m hm hr k (by omega) W
end Go.Proofs.Ytajflegjpnmloaa.Boot
