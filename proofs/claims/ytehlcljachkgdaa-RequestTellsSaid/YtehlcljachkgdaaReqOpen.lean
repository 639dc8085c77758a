/- Arguments that are requests and answers, laid open. -/
import Derived.Test.YtehlcljachkgdaaKit
import Derived.Lib.SmallJoins
import Derived.ChangeSlices
import Derived.ChangeArms
import Derived.OpenShut
namespace Go.Proofs.Ytehlcljachkgdaa.Req
open Go.Joins Go.ChangeShapes Go.WideShapes Go.RowKit Go.Proofs.Ytehlcljachkgdaa.Kit
section
variable {H : Type} {enc : TypeId × Value → H} {W : World} {base b0 n : Nat} {held : Bool} {v : Value}
theorem open_field {y : DataW H × List MemPlace} (h : DataW.trod enc Try.prog W base (fun _ => true) held n 23 [v] = some y) : ∃ (A : Option Addr) (m c : Nat) (zs : List Int), v = .slice A m c ∧ IsBytes W A m c zs := by
  rcases open_ints Try.underlying23 Try.underlying5 (by kernel_rfl) h with ⟨hcs, _⟩ | ⟨x, l, c, zs, hcs, _, hl, hm, hz, _, hcell, hwz⟩
  · simp at hcs
    exact ⟨none, 0, 0, [], hcs, .inl ⟨rfl, rfl, rfl, rfl⟩⟩
  · simp at hcs
    exact ⟨_, l, c, zs, hcs, .inr ⟨x, rfl, hl, hm, by simpa using hz, hcell, hwz⟩⟩
theorem open_num {t : TypeId} (ht : Try.prog.underlying t = some (.int .i64)) {y : DataW H × List MemPlace} (h : DataW.trod enc Try.prog W base (fun _ => true) held n t [v] = some y) : ∃ k : Int, v = .int .i64 k ∧ (Lit.int .i64 k).wf = true := by
  obtain ⟨k, hk, _, hw⟩ := DataW.trod_int ht h
  exact ⟨k, by simpa using hk, hw⟩
theorem open_req {d : DataW H} {p : List MemPlace} (hv : Value.okWide Try.prog W .any b0 25 v) (h : DataW.Trod enc Try.prog W base (fun _ => true) held 25 v d p) :
    ∃ (k q : Int) (A : Option Addr) (m c : Nat) (zs : List Int), v = .agg #[.int .i64 k, .int .i64 q, .slice A m c] ∧ IsBytes W A m c zs := by
  obtain ⟨v0, v1, v2, y0, y1, y2, n, rfl, _, _, h0, h1, h2⟩ := open_agg3 Try.underlying25 (by kernel_rfl) (by kernel_rfl) hv h
  obtain ⟨k, rfl, _⟩ := open_num Try.underlying3 h0
  obtain ⟨q, rfl, _⟩ := open_num Try.underlying3 h1
  obtain ⟨A, m, c, zs, rfl, hz⟩ := open_field h2
  exact ⟨k, q, A, m, c, zs, rfl, hz⟩
theorem open_resp {d : DataW H} {p : List MemPlace} (hv : Value.okWide Try.prog W .any b0 30 v) (h : DataW.Trod enc Try.prog W base (fun _ => true) held 30 v d p) :
    ∃ x n g : Int, v = .agg #[.int .i64 x, .int .i64 n, .int .i64 g] := by
  obtain ⟨v0, v1, v2, y0, y1, y2, n, rfl, _, _, h0, h1, h2⟩ := open_agg3 Try.underlying30 (by kernel_rfl) (by kernel_rfl) hv h
  obtain ⟨k, rfl, _⟩ := open_num Try.underlying28 h0
  obtain ⟨q, rfl, _⟩ := open_num Try.underlying3 h1
  obtain ⟨g, rfl, _⟩ := open_num Try.underlying3 h2
  exact ⟨k, q, g, rfl⟩
end
end Go.Proofs.Ytehlcljachkgdaa.Req
