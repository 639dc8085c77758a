/- RequestTorn over whatever arguments come in. -/
import Derived.Test.YtehlcljachkgdaaReqTornIn
import Derived.Test.YtehlcljachkgdaaReqOpen
namespace Go.Proofs.Ytehlcljachkgdaa.Req
open Go.ChangeShapes Go.WideShapes Go.RowKit
theorem torn_any {H : Type} {enc : TypeId × Value → H} {base b0 b1 : Nat} {held : Bool} {d0 d1 : DataW H} {p0 p1 : List MemPlace} (v0 v1 : Value) (q : Int) (W : World)
    (hv0 : Value.okWide Try.prog W .any b0 25 v0) (h0 : DataW.Trod enc Try.prog W base (fun _ => true) held 25 v0 d0 p0)
    (hv1 : Value.okWide Try.prog W .any b1 30 v1) (h1 : DataW.Trod enc Try.prog W base (fun _ => true) held 30 v1 d1 p1) :
    Calls Try.prog 5 #[v0, v1, .int .i64 q] W fun e w' => e = .returned (.bool true) ∧ Below W.heap.size W w' := by
  obtain ⟨k, n, A, m, c, zs, rfl, hz⟩ := open_req hv0 h0
  obtain ⟨x, xn, xg, rfl⟩ := open_resp hv1 h1
  exact torn_walk k n A m c zs x xn xg q W hz
end Go.Proofs.Ytehlcljachkgdaa.Req
