/- A Meta that came in, laid open. -/
import Derived.Test.YtehlcljachkgdaaMetaEnc
import Derived.ChangeArms
import Derived.OpenShut
import Derived.WideShapes
namespace Go.Proofs.Ytehlcljachkgdaa.Boot
open Go.ChangeShapes Go.WideShapes Go.RowKit Go.Proofs.YtehlcljachkgdaaW.PrintWords Go.Proofs.YtehlcljachkgdaaW.PrintLast Go.Proofs.Ytehlcljachkgdaa.Kit
section
variable {H : Type} {enc : TypeId × Value → H} {W : World} {base b0 fuel : Nat} {spare : Nat → Bool} {held : Bool} {l : List Value} {x : DataW H × List MemPlace}

theorem cut_one (l : List Value) (a b : Nat) : (l.drop a).take b ++ l.drop (a + b) = l.drop a := by
  rw [← List.drop_drop]
  exact List.take_append_drop b (l.drop a)
def numOfV : Value → Int
  | .int _ n => n
  | _ => 0
theorem open_dig (h : DataW.trod enc Try.prog W base spare held fuel 47 l = some x) : ∃ d : List Int, d.length = 32 ∧ (∀ y ∈ d, (Lit.int .u8 y).wf = true) ∧ l = nums .u8 d := by
  obtain ⟨xs, n, _, _, hl, hx, hi⟩ := DataW.trod_array Try.underlying47 h
  rw [cells_dig] at hl
  rw [cells_u8] at hi
  have hat : ∀ (i : Nat) (h : i < l.length), ∃ n, l[i] = .int .u8 n ∧ (Lit.int .u8 n).wf = true := by
    intro i h
    have h1 := hi i (by omega)
    rw [Nat.mul_one, List.drop_eq_getElem_cons h] at h1
    have h2 : xs[i]? = some xs[i] := List.getElem?_eq_getElem (by omega)
    rw [h2] at h1
    obtain ⟨k, hk, _, hw⟩ := DataW.trod_int Try.underlying5 h1
    have hk' : [l[i]] = [Value.int .u8 k] := hk
    exact ⟨k, by simpa using hk', hw⟩
  refine ⟨l.map numOfV, by simp [hl], ?_, ?_⟩
  · intro y hy
    obtain ⟨v, hv, rfl⟩ := List.mem_map.1 hy
    obtain ⟨i, hi, rfl⟩ := List.getElem_of_mem hv
    obtain ⟨n, hn, hw⟩ := hat i hi
    rw [hn]
    exact hw
  · refine List.ext_getElem (by simp [nums]) fun i h1 h2 => ?_
    obtain ⟨n, hn, hw⟩ := hat i h1
    simp [nums, hn, numOfV]
theorem open_num (h : DataW.trod enc Try.prog W base spare held fuel 3 l = some x) : ∃ n : Int, (Lit.int .i64 n).wf = true ∧ l = [.int .i64 n] := by
  obtain ⟨k, hk, _, hw⟩ := DataW.trod_int Try.underlying3 h
  exact ⟨k, hw, hk⟩
theorem open_img (h : DataW.trod enc Try.prog W base spare held fuel 49 l = some x) : ∃ i : Img, i.Ok ∧ l = i.enc := by
  obtain ⟨xs, n, _, _, hl, hx, hf⟩ := DataW.trod_struct Try.underlying49 h
  rw [cells_img] at hl
  have hx3 : xs.length = 3 := hx
  have f0 : DataW.trod enc Try.prog W base spare held n 3 ((l.drop 0).take (Try.prog.cellsOf 3)) = some (xs[0]'(by omega)) := (hf 0 _ rfl).trans (List.getElem?_eq_getElem (by omega))
  rw [cells_int] at f0
  have f1 : DataW.trod enc Try.prog W base spare held n 3 ((l.drop 1).take (Try.prog.cellsOf 3)) = some (xs[1]'(by omega)) := (hf 1 _ rfl).trans (List.getElem?_eq_getElem (by omega))
  rw [cells_int] at f1
  have f2 : DataW.trod enc Try.prog W base spare held n 47 ((l.drop 2).take (Try.prog.cellsOf 47)) = some (xs[2]'(by omega)) := (hf 2 _ rfl).trans (List.getElem?_eq_getElem (by omega))
  rw [cells_dig] at f2
  obtain ⟨v, wv, e0⟩ := open_num f0
  obtain ⟨s, ws, e1⟩ := open_num f1
  obtain ⟨d, hd, wd, e2⟩ := open_dig f2
  refine ⟨⟨v, s, d⟩, ⟨hd, wd, wv, ws⟩, ?_⟩
  have c0 := cut_one l 0 1
  have c1 := cut_one l 1 1
  have c2 := cut_one l 2 32
  rw [e0] at c0
  rw [e1] at c1
  rw [e2, List.drop_eq_nil_of_le (by omega), List.append_nil] at c2
  rw [← List.drop_zero (l := l), ← c0, ← c1, ← c2]
  rfl
theorem open_met {v : Value} {d : DataW H} {p : List MemPlace} {r : Reach} (hv : Value.okWide Try.prog W r b0 52 v) (h : DataW.Trod enc Try.prog W base spare held 52 v d p) : ∃ m : Met, m.Ok ∧ v = .agg m.enc.toArray := by
  obtain ⟨cs, rfl, hsz⟩ := okWide_struct Try.underlying52 hv
  obtain ⟨fuel, h⟩ := h
  have h : DataW.trod enc Try.prog W base spare held fuel 52 cs.toList = some (d, p) := h
  obtain ⟨xs, n, _, _, hl, hx, hf⟩ := DataW.trod_struct Try.underlying52 h
  rw [cells_met] at hl
  have hx3 : xs.length = 7 := hx
  obtain ⟨l, hcs⟩ : ∃ l, l = cs.toList := ⟨_, rfl⟩
  rw [← hcs] at hl hf
  have f0 : DataW.trod enc Try.prog W base spare held n 3 ((l.drop 0).take (Try.prog.cellsOf 3)) = some (xs[0]'(by omega)) := (hf 0 _ rfl).trans (List.getElem?_eq_getElem (by omega))
  rw [cells_int] at f0
  have f1 : DataW.trod enc Try.prog W base spare held n 50 ((l.drop 1).take (Try.prog.cellsOf 50)) = some (xs[1]'(by omega)) := (hf 1 _ rfl).trans (List.getElem?_eq_getElem (by omega))
  rw [cells_two] at f1
  have f2 : DataW.trod enc Try.prog W base spare held n 3 ((l.drop 69).take (Try.prog.cellsOf 3)) = some (xs[2]'(by omega)) := (hf 2 _ rfl).trans (List.getElem?_eq_getElem (by omega))
  rw [cells_int] at f2
  have f3 : DataW.trod enc Try.prog W base spare held n 3 ((l.drop 70).take (Try.prog.cellsOf 3)) = some (xs[3]'(by omega)) := (hf 3 _ rfl).trans (List.getElem?_eq_getElem (by omega))
  rw [cells_int] at f3
  have f4 : DataW.trod enc Try.prog W base spare held n 49 ((l.drop 71).take (Try.prog.cellsOf 49)) = some (xs[4]'(by omega)) := (hf 4 _ rfl).trans (List.getElem?_eq_getElem (by omega))
  rw [cells_img] at f4
  have f5 : DataW.trod enc Try.prog W base spare held n 3 ((l.drop 105).take (Try.prog.cellsOf 3)) = some (xs[5]'(by omega)) := (hf 5 _ rfl).trans (List.getElem?_eq_getElem (by omega))
  rw [cells_int] at f5
  have f6 : DataW.trod enc Try.prog W base spare held n 3 ((l.drop 106).take (Try.prog.cellsOf 3)) = some (xs[6]'(by omega)) := (hf 6 _ rfl).trans (List.getElem?_eq_getElem (by omega))
  rw [cells_int] at f6
  obtain ⟨a, wa, e0⟩ := open_num f0
  obtain ⟨mn, wmn, e2⟩ := open_num f2
  obtain ⟨ph, wph, e3⟩ := open_num f3
  obtain ⟨co, wco, e4⟩ := open_img f4
  obtain ⟨got, wgot, e5⟩ := open_num f5
  obtain ⟨tr, wtr, e6⟩ := open_num f6
  obtain ⟨ys, n2, _, _, hl2, hy, hi⟩ := DataW.trod_array Try.underlying50 f1
  rw [cells_img] at hi
  rw [cells_two] at hl2
  have i0 := (hi 0 (by omega)).trans (List.getElem?_eq_getElem (by omega))
  have i1 := (hi 1 (by omega)).trans (List.getElem?_eq_getElem (by omega))
  obtain ⟨h0, wh0, x0⟩ := open_img i0
  obtain ⟨h1, wh1, x1⟩ := open_img i1
  refine ⟨⟨a, h0, h1, mn, ph, co, got, tr⟩, ⟨wh0, wh1, wco, wa, wmn, wph, wgot, wtr⟩, ?_⟩
  have c0 := cut_one l 0 1
  have c1 := cut_one l 1 68
  have c2 := cut_one l 69 1
  have c3 := cut_one l 70 1
  have c4 := cut_one l 71 34
  have c5 := cut_one l 105 1
  have c6 := cut_one l 106 1
  have k0 := cut_one ((l.drop 1).take 68) 0 34
  have k1 := cut_one ((l.drop 1).take 68) 34 34
  rw [Nat.zero_mul] at x0
  rw [Nat.one_mul] at x1
  rw [x0] at k0
  rw [x1, List.drop_eq_nil_of_le (by omega), List.append_nil] at k1
  rw [← k1, List.drop_zero] at k0
  rw [e0] at c0
  rw [← k0] at c1
  rw [e2] at c2
  rw [e3] at c3
  rw [e4] at c4
  rw [e5] at c5
  rw [e6, List.drop_eq_nil_of_le (by omega), List.append_nil] at c6
  have e : l = (⟨a, h0, h1, mn, ph, co, got, tr⟩ : Met).enc := by
    rw [← List.drop_zero (l := l), ← c0, ← c1, ← c2, ← c3, ← c4, ← c5, ← c6]
    simp [Met.enc]
  rw [← e, hcs, Array.toArray_toList]
end
end Go.Proofs.Ytehlcljachkgdaa.Boot
