/- QueuePlays, over an argument that is laid open. -/
import Derived.Test.YtajflegjpnmloaaQueuePlays
namespace Go.Proofs.Ytajflegjpnmloaa.Queue
open Go.Joins Go.ChangeShapes Go.WideShapes Go.Deep Go.RowKit Go.Proofs.YtajflegjpnmloaaW.PrintWords Go.Proofs.YtajflegjpnmloaaW.PrintLast Go.Proofs.Ytajflegjpnmloaa.Kit Go.Proofs.Ytajflegjpnmloaa.Field
theorem plays_any {H : Type} {enc : TypeId × Value → H} {base b0 : Nat} {held : Bool} {d0 : DataW H} {p0 : List MemPlace} (v0 : Value) (W : World)
    (hv0 : Value.okWide Try.prog W .any b0 37 v0) (h0 : DataW.Trod enc Try.prog W base (fun _ => true) held 37 v0 d0 p0) :
    Calls Try.prog 12 #[v0] W fun e W' => e = .returned (.bool true) ∧ Below W.heap.size W W' := by
  obtain ⟨T0, len0, cap0, rfl⟩ := okWide_slice Try.underlying37 hv0
  obtain ⟨fuel, hf⟩ := h0
  have hf : DataW.trod enc Try.prog W base (fun _ => true) held fuel 37 [.slice T0 len0 cap0] = some (d0, p0) := hf
  obtain ⟨T, len, cap, e, hT⟩ := open_acts hf
  injection e with e1 e2 e3
  subst e1 e2 e3
  by_cases hl : 100 < len0
  · exact plays_out _ _ _ W hl
  · refine plays_in _ _ _ W (by omega) (fun i hi => ?_)
    obtain ⟨a, way, r, zs, e, h, hz⟩ := hT i hi
    obtain ⟨l, hm, hr, _, _, hc⟩ := ReadsInt.ofRowC hz
    exact ⟨a, way, r, l, e, h, hm ▸ hr, hm ▸ hc⟩
end Go.Proofs.Ytajflegjpnmloaa.Queue
