/- RequestTells over whatever arguments come in. -/
import Derived.Test.YtehlcljachkgdaaReqTells
import Derived.Test.YtehlcljachkgdaaReqOpen
namespace Go.Proofs.Ytehlcljachkgdaa.Req
open Go.ChangeShapes Go.WideShapes Go.RowKit Go.Proofs.Ytehlcljachkgdaa.Kit
theorem tells_any {H : Type} {enc : TypeId × Value → H} {base b0 b1 : Nat} {held : Bool} {d0 d1 : DataW H} {p0 p1 : List MemPlace} (v0 v1 : Value) (C : Option Addr) (q d : Nat) (ys : List Int) (W : World)
    (hv0 : Value.okWide Try.prog W .any b0 25 v0) (h0 : DataW.Trod enc Try.prog W base (fun _ => true) held 25 v0 d0 p0)
    (hv1 : Value.okWide Try.prog W .any b1 30 v1) (h1 : DataW.Trod enc Try.prog W base (fun _ => true) held 30 v1 d1 p1) (hq : IsBytes W C q d ys) :
    Calls Try.prog 4 #[v0, v1, .slice C q d] W fun e W' => e = .returned (.bool true) ∧ Below W.heap.size W W' := by
  obtain ⟨k, n, A, m, c, zs, rfl, hz⟩ := open_req hv0 h0
  obtain ⟨x, xn, xg, rfl⟩ := open_resp hv1 h1
  exact tells_walk k n A m c zs x xn xg C q d ys W hz hq
end Go.Proofs.Ytehlcljachkgdaa.Req
