/- Arguments that are rows of items, laid open; FieldReads. -/
import Derived.Test.YtgcdankgckgibaaFieldReads
import Derived.Lib.SmallJoins
import Derived.Deep.Slices
import Derived.ChangeSlices
import Derived.ChangeArms
import Derived.OpenShut
namespace Go.Proofs.Ytgcdankgckgibaa.Field
open Go.Joins Go.ChangeShapes Go.WideShapes Go.Deep Go.RowKit Go.Proofs.YtgcdankgckgibaaW.PrintWords Go.Proofs.YtgcdankgckgibaaW.PrintLast Go.Proofs.Ytgcdankgckgibaa.Kit
section
variable {H : Type} {enc : TypeId × Value → H} {W : World} {base b0 n : Nat} {held : Bool} {v : Value}
theorem open_cells4 {P : Program} {w : World} {spare : Nat → Bool} {fuel : Nat} {t : TypeId} {f0 f1 f2 f3 : Field} {c0 c1 c2 c3 : Value} {x : DataW H × List MemPlace} (hs : P.underlying t = some (.struct #[f0, f1, f2, f3])) (hone : oneCellFields P #[f0, f1, f2, f3] = true)
    (h : DataW.trod enc P w base spare held fuel t [c0, c1, c2, c3] = some x) :
    ∃ (y0 y1 y2 y3 : DataW H × List MemPlace) (n : Nat), DataW.trod enc P w base spare held n f0.type [c0] = some y0 ∧ DataW.trod enc P w base spare held n f1.type [c1] = some y1 ∧ DataW.trod enc P w base spare held n f2.type [c2] = some y2 ∧ DataW.trod enc P w base spare held n f3.type [c3] = some y3 := by
  obtain ⟨y0, y1, y2, y3, n, -, -, h0, h1, h2, h3⟩ := trod_struct4 hs h
  obtain ⟨o0, k0⟩ := hone_of hone 0 f0 rfl
  obtain ⟨o1, k1⟩ := hone_of hone 1 f1 rfl
  obtain ⟨o2, k2⟩ := hone_of hone 2 f2 rfl
  obtain ⟨o3, k3⟩ := hone_of hone 3 f3 rfl
  rw [o0, k0] at h0
  rw [o1, k1] at h1
  rw [o2, k2] at h2
  rw [o3, k3] at h3
  exact ⟨y0, y1, y2, y3, n, h0, h1, h2, h3⟩
theorem open_row {y : DataW H × List MemPlace} (h : DataW.trod enc Try.prog W base (fun _ => true) held n 33 [v] = some y) : ∃ (A : Option Addr) (m c : Nat) (zs : List Int), v = .slice A m c ∧ IsBytes W A m c zs := by
  rcases open_ints Try.underlying33 Try.underlying5 (by kernel_rfl) h with ⟨hcs, _⟩ | ⟨x, l, c, zs, hcs, _, hl, hm, hz, _, hcell, hwz⟩
  · simp at hcs
    exact ⟨none, 0, 0, [], hcs, .inl ⟨rfl, rfl, rfl, rfl⟩⟩
  · simp at hcs
    exact ⟨_, l, c, zs, hcs, .inr ⟨x, rfl, hl, hm, by simpa using hz, hcell, hwz⟩⟩
theorem open_whole {y : DataW H × List MemPlace} (h : DataW.trod enc Try.prog W base (fun _ => true) held n 3 [v] = some y) : ∃ k : Int, v = .int .i64 k := by
  obtain ⟨k, hk, _, hw⟩ := DataW.trod_int Try.underlying3 h
  exact ⟨k, by simpa using hk⟩
theorem open_items {y : DataW H × List MemPlace} (h : DataW.trod enc Try.prog W base (fun _ => true) held n 45 [v] = some y) :
    ∃ (T : Option Addr) (len cap : Nat), v = .slice T len cap ∧ ∀ i, i < len → ∃ (a : Addr) (raw : Bool) (k size : Int) (A : Option Addr) (m c : Nat) (zs : List Int), T = some a ∧ ItemIs W a i raw k size (.slice A m c) ∧ IsBytes W A m c zs := by
  rcases open_slice Try.underlying45 h with ⟨hcs, _⟩ | ⟨a, len, cap, m, n', D, Pl, hcs, _, hl, hm, hmm, _, hi⟩
  · simp at hcs
    exact ⟨none, 0, 0, hcs, fun i hi => absurd hi (by omega)⟩
  · simp at hcs
    refine ⟨some a, len, cap, hcs, fun i hlt => ?_⟩
    have hmi : i < m := by rw [if_pos rfl] at hmm; omega
    obtain ⟨cs', hc, ht⟩ := hi i hmi
    have h4 : Try.prog.cellsOf 55 = 4 := by kernel_rfl
    rw [h4] at hc
    obtain ⟨_, hlen, hat⟩ := World.cells?_some hc
    obtain ⟨c0, c1, c2, c3, rfl⟩ : ∃ c0 c1 c2 c3, cs' = [c0, c1, c2, c3] := by
      match cs', hlen with
      | [c0, c1, c2, c3], _ => exact ⟨_, _, _, _, rfl⟩
    obtain ⟨y0, y1, y2, y3, n2, h0, h1, h2, h3⟩ := open_cells4 Try.underlying55 (by kernel_rfl) ht
    obtain ⟨raw, hb, -⟩ := DataW.trod_bool Try.underlying4 h0
    obtain ⟨k, rfl⟩ := open_whole h1
    obtain ⟨size, rfl⟩ := open_whole h2
    obtain ⟨A, m', c', zs, rfl, hz⟩ := open_row h3
    have e0 := hat 0 (by omega)
    have e1 := hat 1 (by omega)
    have e2 := hat 2 (by omega)
    have e3 := hat 3 (by omega)
    rw [Addr.add_add] at e0 e1 e2 e3
    simp at hb
    subst hb
    exact ⟨a, raw, k, size, A, m', c', zs, rfl, ⟨e0, e1, e2, e3⟩, hz⟩
end

theorem fieldReads_out (A : Option Addr) (m c : Nat) (T : Option Addr) (len cap : Nat) (w : World) (h : 1000 < m ∨ 40 < len) :
    Calls Try.prog 7 #[.slice A m c, .slice T len cap] w fun e w' => e = .returned (.bool true) ∧ Below w.heap.size w w' := by
  go_enter Try.func7, Try.ntmps7
  go_wp2_with fail
  refine (live9 _).mono ?_
  rintro e w1 ⟨rfl, hb⟩
  go_wp2_with fail
  all_goals first
    | (exfalso; omega)
    | (go_ret; exact ⟨rfl, hb⟩)
theorem fieldReads_in (A : Option Addr) (m c : Nat) (b : List Int) (T : Option Addr) (len cap : Nat) (w : World) (hr : ReadsInt w .u8 A m b) (hs : Small b) (hm : m ≤ 1000) (hc : m ≤ c) (hl : len ≤ 40)
    (hT : ∀ i, i < len → ∃ a raw n size v, T = some a ∧ ItemIs w a i raw n size v) :
    Calls Try.prog 7 #[.slice A m c, .slice T len cap] w fun e w' => e = .returned (.bool true) ∧ Below w.heap.size w w' := by
  go_enter Try.func7, Try.ntmps7
  go_wp2_with fail
  refine (live9 _).mono ?_
  rintro e w1 ⟨rfl, hb⟩
  go_wp2_with fail
  refine (reads_walk A m c b T len cap _ (hr.below hb) hs (by omega) hc (by omega) (fun i hi => ?_)).mono ?_
  · obtain ⟨a, raw, n, size, v, e, hi⟩ := hT i hi
    exact ⟨a, raw, n, size, v, e, hi.below hb⟩
  rintro e w2 ⟨rfl, hb2⟩
  go_wp2_with fail
  go_ret
  exact ⟨rfl, hb.trans (hb2.mono hb.size)⟩
theorem fieldReads_any {H : Type} {enc : TypeId × Value → H} {base b1 : Nat} {held : Bool} {d1 : DataW H} {p1 : List MemPlace} (A : Option Addr) (m c : Nat) (zs : List Int) (v1 : Value) (W : World)
    (h0 : IsBytes W A m c zs) (hv1 : Value.okWide Try.prog W .any b1 45 v1) (h1 : DataW.Trod enc Try.prog W base (fun _ => true) held 45 v1 d1 p1) :
    Calls Try.prog 7 #[.slice A m c, v1] W fun e W' => e = .returned (.bool true) ∧ Below W.heap.size W W' := by
  obtain ⟨T0, len0, cap0, rfl⟩ := okWide_slice Try.underlying45 hv1
  obtain ⟨fuel, hf⟩ := h1
  have hf : DataW.trod enc Try.prog W base (fun _ => true) held fuel 45 [.slice T0 len0 cap0] = some (d1, p1) := hf
  obtain ⟨T, len, cap, e, hT⟩ := open_items hf
  injection e with e1 e2 e3
  subst e1 e2 e3
  obtain ⟨l, rfl, hr, _, hw, hc⟩ := ReadsInt.ofRowC h0
  by_cases hl : 1000 < l.length ∨ 40 < len0
  · exact fieldReads_out A _ c _ _ _ W hl
  · refine fieldReads_in A _ c l _ _ _ W hr (small_of hw) (by omega) hc (by omega) (fun i hi => ?_)
    obtain ⟨a, raw, k, size, B, m', c', zs', e, h, _⟩ := hT i hi
    exact ⟨a, raw, k, size, _, e, h⟩
end Go.Proofs.Ytgcdankgckgibaa.Field
