/- An argument that is a row of acts, laid open. -/
import Derived.Test.YtajflegjpnmloaaQueueLive
import Derived.Lib.SmallJoins
import Derived.Deep.Slices
import Derived.ChangeSlices
import Derived.ChangeArms
import Derived.OpenShut
namespace Go.Proofs.Ytajflegjpnmloaa.Queue
open Go.Joins Go.ChangeShapes Go.WideShapes Go.Deep Go.RowKit Go.Proofs.YtajflegjpnmloaaW.PrintWords Go.Proofs.YtajflegjpnmloaaW.PrintLast Go.Proofs.Ytajflegjpnmloaa.Kit Go.Proofs.Ytajflegjpnmloaa.Field
/-- act i of the row at a: its way, its request -/
structure ActAt (W : World) (a : Addr) (i : Nat) (way : Int) (r : Rq) : Prop where
  c0 : W.cell? (a.add (i * 4)) = some (.int .i64 way)
  c1 : W.cell? (a.add (i * 4 + 1)) = some (.int .i64 r.k)
  c2 : W.cell? (a.add (i * 4 + 2)) = some (.int .i64 r.n)
  c3 : W.cell? (a.add (i * 4 + 3)) = some (.slice r.A r.m r.c)
theorem ActAt.below {W W' : World} {a : Addr} {i : Nat} {way : Int} {r : Rq} (h : ActAt W a i way r) (k : Below W.heap.size W W') : ActAt W' a i way r :=
  ⟨pw_cell_below k h.c0, pw_cell_below k h.c1, pw_cell_below k h.c2, pw_cell_below k h.c3⟩
section
variable {H : Type} {enc : TypeId × Value → H} {W : World} {base n : Nat} {held : Bool} {v : Value}
theorem open_row {y : DataW H × List MemPlace} (h : DataW.trod enc Try.prog W base (fun _ => true) held n 23 [v] = some y) : ∃ (A : Option Addr) (m c : Nat) (zs : List Int), v = .slice A m c ∧ IsBytes W A m c zs := by
  rcases open_ints Try.underlying23 Try.underlying5 (by kernel_rfl) h with ⟨hcs, _⟩ | ⟨x, l, c, zs, hcs, _, hl, hm, hz, _, hcell, hwz⟩
  · simp at hcs
    exact ⟨none, 0, 0, [], hcs, .inl ⟨rfl, rfl, rfl, rfl⟩⟩
  · simp at hcs
    exact ⟨_, l, c, zs, hcs, .inr ⟨x, rfl, hl, hm, by simpa using hz, hcell, hwz⟩⟩
theorem open_whole {y : DataW H × List MemPlace} (h : DataW.trod enc Try.prog W base (fun _ => true) held n 3 [v] = some y) : ∃ k : Int, v = .int .i64 k := by
  obtain ⟨k, hk, _, hw⟩ := DataW.trod_int Try.underlying3 h
  exact ⟨k, by simpa using hk⟩
theorem cellsI : Try.prog.cellsOf 3 = 1 := by kernel_rfl
theorem cellsS : Try.prog.cellsOf 23 = 1 := by kernel_rfl
theorem cellsQ : Try.prog.cellsOf 43 = 3 := by kernel_rfl
theorem open_rq {c1 c2 c3 : Value} {y : DataW H × List MemPlace} (h : DataW.trod enc Try.prog W base (fun _ => true) held n 43 [c1, c2, c3] = some y) :
    ∃ (r : Rq) (zs : List Int), c1 = .int .i64 r.k ∧ c2 = .int .i64 r.n ∧ c3 = .slice r.A r.m r.c ∧ IsBytes W r.A r.m r.c zs := by
  obtain ⟨xs, n2, _, _, hl, hx, hf⟩ := DataW.trod_struct Try.underlying43 h
  have hx3 : xs.length = 3 := hx
  have f0 := (hf 0 _ rfl).trans (List.getElem?_eq_getElem (by omega))
  have f1 := (hf 1 _ rfl).trans (List.getElem?_eq_getElem (by omega))
  have f2 := (hf 2 _ rfl).trans (List.getElem?_eq_getElem (by omega))
  have f0 : DataW.trod enc Try.prog W base (fun _ => true) held n2 3 (([c1, c2, c3].drop 0).take (Try.prog.cellsOf 3)) = _ := f0
  have f1 : DataW.trod enc Try.prog W base (fun _ => true) held n2 3 (([c1, c2, c3].drop 1).take (Try.prog.cellsOf 3)) = _ := f1
  have f2 : DataW.trod enc Try.prog W base (fun _ => true) held n2 23 (([c1, c2, c3].drop 2).take (Try.prog.cellsOf 23)) = _ := f2
  rw [cellsI] at f0 f1
  rw [cellsS] at f2
  obtain ⟨k, rfl⟩ := open_whole f0
  obtain ⟨q, rfl⟩ := open_whole f1
  obtain ⟨A, m, c, zs, rfl, hz⟩ := open_row f2
  exact ⟨⟨k, q, A, m, c⟩, zs, rfl, rfl, rfl, hz⟩
theorem open_acts {y : DataW H × List MemPlace} (h : DataW.trod enc Try.prog W base (fun _ => true) held n 37 [v] = some y) :
    ∃ (T : Option Addr) (len cap : Nat), v = .slice T len cap ∧ ∀ i, i < len → ∃ (a : Addr) (way : Int) (r : Rq) (zs : List Int), T = some a ∧ ActAt W a i way r ∧ IsBytes W r.A r.m r.c zs := by
  rcases open_slice Try.underlying37 h with ⟨hcs, _⟩ | ⟨a, len, cap, m, n', D, Pl, hcs, _, hl, hm, hmm, _, hi⟩
  · simp at hcs
    exact ⟨none, 0, 0, hcs, fun i hi => absurd hi (by omega)⟩
  · simp at hcs
    refine ⟨some a, len, cap, hcs, fun i hlt => ?_⟩
    have hmi : i < m := by rw [if_pos rfl] at hmm; omega
    obtain ⟨cs', hc, ht⟩ := hi i hmi
    have h4 : Try.prog.cellsOf 45 = 4 := by kernel_rfl
    rw [h4] at hc
    obtain ⟨_, hlen, hat⟩ := World.cells?_some hc
    obtain ⟨c0, c1, c2, c3, rfl⟩ : ∃ c0 c1 c2 c3, cs' = [c0, c1, c2, c3] := by
      match cs', hlen with
      | [c0, c1, c2, c3], _ => exact ⟨_, _, _, _, rfl⟩
    obtain ⟨xs, n2, _, _, hl2, hx, hf⟩ := DataW.trod_struct Try.underlying45 ht
    have hx2 : xs.length = 2 := hx
    have f0 := (hf 0 _ rfl).trans (List.getElem?_eq_getElem (by omega))
    have f1 := (hf 1 _ rfl).trans (List.getElem?_eq_getElem (by omega))
    have f0 : DataW.trod enc Try.prog W base (fun _ => true) held n2 3 (([c0, c1, c2, c3].drop 0).take (Try.prog.cellsOf 3)) = _ := f0
    have f1 : DataW.trod enc Try.prog W base (fun _ => true) held n2 43 (([c0, c1, c2, c3].drop 1).take (Try.prog.cellsOf 43)) = _ := f1
    rw [cellsI] at f0
    rw [cellsQ] at f1
    obtain ⟨way, rfl⟩ := open_whole f0
    obtain ⟨r, zs, rfl, rfl, rfl, hz⟩ := open_rq f1
    have e0 := hat 0 (by omega)
    have e1 := hat 1 (by omega)
    have e2 := hat 2 (by omega)
    have e3 := hat 3 (by omega)
    rw [Addr.add_add] at e0 e1 e2 e3
    exact ⟨a, way, r, zs, rfl, ⟨e0, e1, e2, e3⟩, hz⟩
end
end Go.Proofs.Ytajflegjpnmloaa.Queue
