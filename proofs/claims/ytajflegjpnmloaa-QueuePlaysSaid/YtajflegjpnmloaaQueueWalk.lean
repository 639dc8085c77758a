/- Walks: the queue's Len, Clear, Take; slices.Clone of requests. -/
import Derived.Test.YtajflegjpnmloaaQueueBlk
namespace Go.Proofs.Ytajflegjpnmloaa.Queue
open Go.RowKit Go.Proofs.YtajflegjpnmloaaW.PrintWords Go.Proofs.YtajflegjpnmloaaW.PrintLast Go.Proofs.Ytajflegjpnmloaa.Kit Go.Proofs.Ytajflegjpnmloaa.Field
set_option linter.unusedSimpArgs false
set_option linter.unusedVariables false
theorem num21 (n : Int) (w : World) : Calls Try.prog 32 #[.int .i64 n] w fun e w' => e = .returned (.int .i64 n) ∧ w = w' := by
  go_enter Try.func32, Try.ntmps32
  go_wp2_with fail
  go_ret
  exact ⟨rfl, rfl⟩
theorem len_calls (B g : Nat) (v : Value) (l : List Rq) (w : World) (h : Qu w B g v l) : Calls Try.prog 35 #[.pointer (some ⟨g, 0, none⟩)] w fun e w' => e = .returned (.int .i64 l.length) ∧ w = w' := by
  obtain ⟨A, c, rfl⟩ := h.slice
  have hc := h.cell0
  clear h
  go_enter Try.func35, Try.ntmps35
  go_wp2_with fail
  go_ret
  exact ⟨rfl, rfl⟩
theorem clear_calls (B g : Nat) (v : Value) (l : List Rq) (w : World) (h : Qu w B g v l) : Calls Try.prog 34 #[.pointer (some ⟨g, 0, none⟩)] w fun e w' => e = .returned (.tuple #[]) ∧ Qu w' B g (.slice none 0 0) [] ∧ Fr (· = g) w w' := by
  have hc := h.cell0
  have hf := h.free
  have H := Lib.hid h
  clear h
  go_enter Try.func34, Try.ntmps34
  go_wp2_with fail
  go_end0
  exact ⟨rfl, H.out.lay (l1 := []) (Fr.refl (fun _ => False) w) id ⟨rfl, .inl ⟨rfl, rfl⟩⟩, Fr.setCell (F := (· = g)) (p := ⟨g, 0, none⟩) (Fr.refl _ w) (.inl rfl) _⟩
theorem own_none {W : World} (B : Nat) (hB : B ≤ W.heap.size) : (W.alloc (.cells #[] 43)).ownsRow B 43 3 (.slice (some ⟨W.heap.size, 0, none⟩) 0 0) 0 [] :=
  World.ownsRow_lit (base := B) (e := 43) (size := 3) W #[] 0 hB (by decide) (by simp)
set_option maxHeartbeats 1000000 in
theorem clone_reqs (ad : Addr) (n c : Nat) (xs : List Value) (w : World) (hl : xs.length = n * 3) (hx : ∀ j u, xs[j]? = some u → w.cell? (ad.add j) = some u) (h1 : ∀ u ∈ xs, u.oneCell' = true) (hn : n ≤ 1000) :
    Calls Try.prog 47 #[.slice (some ad) n c] w fun e w' => ∃ v, e = .returned v ∧ w'.ownsRow w.heap.size 43 3 v n xs ∧ Below w.heap.size w w' := by
  have heq := Lib.run_eql_slice_nil (P := Try.prog) w 39 43 (some ad) n c 0 0 Try.underlying39
  have hb0 := below_alloc1 w (.cells #[] 43)
  have HX := Lib.hid (show ∀ j u, xs[j]? = some u → (w.alloc (.cells #[] 43)).cell? (ad.add j) = some u from fun j u e => pw_cell_below hb0 (hx j u e))
  have HL := Lib.hid hl
  have H1 := Lib.hid h1
  clear hx hl h1 hb0
  go_enter Try.func47, Try.ntmps47
  go_wp2_with (first
    | (at_builtin
       refine list_own w.heap.size 3 40 rfl (.tmp 5) (.tmp 6) 39 43 rfl Try.underlying39 infoReq (by decide) (.slice (some ⟨w.heap.size, 0, none⟩) 0 0) 0 [] ad n c xs rfl rfl (own_none _ (Nat.le_refl _)) HL.out HX.out H1.out (by unfold maxLen; omega) (by omega) (by simp) ?_
       intro v1 w2 own1 hg1 hat1
       rw [Nat.zero_add, List.nil_append] at own1
       have HO1 := Lib.hid own1
       have HB1 := Lib.hid (below_grown (below_alloc1 w (.cells #[] 43)) hg1 (fun b e => by have e2 : w.heap.size = b := (by injection e); omega) (by simp))
       clear own1 hg1 hat1)
    | fail)
  go_ret
  exact ⟨_, rfl, HO1.out, HB1.out⟩
end Go.Proofs.Ytajflegjpnmloaa.Queue
