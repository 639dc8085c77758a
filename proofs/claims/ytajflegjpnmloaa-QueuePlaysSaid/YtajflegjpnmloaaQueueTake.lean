/- Walk: the queue's Take. -/
import Derived.Test.YtajflegjpnmloaaQueueWalk
namespace Go.Proofs.Ytajflegjpnmloaa.Queue
open Go.RowKit Go.Proofs.YtajflegjpnmloaaW.PrintWords Go.Proofs.YtajflegjpnmloaaW.PrintLast Go.Proofs.Ytajflegjpnmloaa.Kit Go.Proofs.Ytajflegjpnmloaa.Field
attribute [local go_sem ↓] ldR stR
set_option linter.unusedSimpArgs false
set_option linter.unusedVariables false
set_option maxHeartbeats 2000000 in
theorem take_nil (B g : Nat) (v : Value) (w : World) (h : Qu w B g v []) : Calls Try.prog 33 #[.pointer (some ⟨g, 0, none⟩)] w fun e w' => e = .returned (.tuple #[.agg #[.int .i64 0, .int .i64 0, .slice none 0 0], .bool false]) ∧ Below w.heap.size w w' := by
  have hb := below_alloc1 w (.cells #[.int .i64 0, .int .i64 0, .slice none 0 0] 43)
  have HQ := Lib.hid (h.below hb)
  have hn := Blk.new w 43 #[.int .i64 0, .int .i64 0, .slice none 0 0] _ rfl
  have hst := hn.store 43 #[.int .i64 0, .int .i64 0, .slice none 0 0] infoR rfl rfl
  have H2 := Lib.hid (hn.set #[.int .i64 0, .int .i64 0, .slice none 0 0])
  have HB := Lib.hid (below_setRow hb (Nat.le_refl _) #[.int .i64 0, .int .i64 0, .slice none 0 0])
  clear h hb hn
  go_enter Try.func33, Try.ntmps33
  go_wp2_with fail
  refine (len_calls B g v [] _ HQ.out).mono ?_
  rintro e w1 ⟨rfl, rfl⟩
  go_wp2_with fail
  exact bodyPost_ret (v := .tuple #[.agg #[.int .i64 0, .int .i64 0, .slice none 0 0], .bool false]) (results_ct Try.results33 _ _ _ _ _ (0, 0) _ rfl H2.out.heap Try.underlying43 rfl infoR) rfl ⟨rfl, HB.out⟩
set_option maxHeartbeats 2000000 in
set_option maxRecDepth 100000 in
theorem take_cons (B g : Nat) (v : Value) (r : Rq) (l : List Rq) (w : World) (h : Qu w B g v (r :: l)) (hl : l.length ≤ 100) : Calls Try.prog 33 #[.pointer (some ⟨g, 0, none⟩)] w fun e w' => e = .returned (.tuple #[.agg #[.int .i64 r.k, .int .i64 r.n, .slice r.A r.m r.c], .bool true]) ∧ ∃ v', Qu w' B g v' l ∧ Fr (· = g) w w' ∧ (∀ b, v'.ownBlock = some b → w.heap.size ≤ b) := by
  obtain ⟨b, cap, rfl, hBb, hcap, hbl, hx⟩ := own_cells h.own (by simp)
  have hb := below_alloc1 w (.cells #[.int .i64 0, .int .i64 0, .slice none 0 0] 43)
  have hq := h.below hb
  have HQ := Lib.hid hq
  have hat := (own_rq hx 0 (by simp)).below hb
  rw [Nat.zero_mul] at hat
  have hld := hat.load
  simp only [List.getElem_cons_zero] at hld
  have hc := hq.cell0
  have HX := Lib.hid hx
  have H := Lib.hid h
  clear h hq hat hx
  go_enter Try.func33, Try.ntmps33
  go_wp2_with fail
  refine (len_calls B g _ (r :: l) _ HQ.out).mono ?_
  rintro e w1 ⟨rfl, rfl⟩
  have hnz : ((l.length : Int) + 1 == 0) = false := by simp; omega
  have hn := Blk.new (w.alloc (.cells #[.int .i64 0, .int .i64 0, .slice none 0 0] 43)) 43 #[.int .i64 0, .int .i64 0, .slice none 0 0] (w.heap.size + 1) (by simp)
  have hst := hn.store 43 #[.int .i64 r.k, .int .i64 r.n, .slice r.A r.m r.c] infoR rfl rfl
  have hb2 := below_alloc1 (w.alloc (.cells #[.int .i64 0, .int .i64 0, .slice none 0 0] 43)) (.cells #[.int .i64 0, .int .i64 0, .slice none 0 0] 43)
  have hbx := below_setRow (g := w.heap.size + 1) hb2 (by simp) #[.int .i64 r.k, .int .i64 r.n, .slice r.A r.m r.c]
  have H4 := Lib.hid (hn.set #[.int .i64 r.k, .int .i64 r.n, .slice r.A r.m r.c])
  have HB := Lib.hid (hb.trans (hbx.mono hb.size))
  have HZ := Lib.hid ((Blk.new w 43 #[.int .i64 0, .int .i64 0, .slice none 0 0] _ rfl).below hbx)
  clear hn hb2 hb hbx
  go_upto_region 4 with fail
  generalize ((w.alloc (.cells #[.int .i64 0, .int .i64 0, .slice none 0 0] 43)).alloc (.cells #[.int .i64 0, .int .i64 0, .slice none 0 0] 43)).setRow (w.heap.size + 1) #[.int .i64 r.k, .int .i64 r.n, .slice r.A r.m r.c] = W3 at H4 HB HZ ⊢
  clear hst hc hld hnz
  have hc := (H.out.below HB.out).cell0
  go_wp2_with fail
  case inr =>
    have HY := Lib.hid (show ∀ j u, (rows l)[j]? = some u → W3.cell? ((⟨b, 3, none⟩ : Addr).add j) = some u from fun j u e => by
      rw [add_at]
      refine pw_cell_below HB.out (HX.out _ _ ?_)
      have hr : rows (r :: l) = r.cells ++ rows l := by unfold rows; rw [List.flatMap_cons]
      rw [hr, List.getElem?_append_right (by simp [Rq.cells])]
      rw [show 3 + j - r.cells.length = j by simp [Rq.cells]]
      exact e)
    refine (clone_reqs ⟨b, 3, none⟩ l.length (cap - 1) (rows l) W3 (rows_length l) HY.out (rows_one l) (by omega)).mono ?_
    rintro e w4 ⟨v1, rfl, ho, hb⟩
    obtain ⟨A1, c1, hv1⟩ := own_slice ho
    subst hv1
    have hlt := H.out.lt
    have hzlt := HZ.out.lt
    have hqs := (H.out.below HB.out).below hb
    have hc2 := hqs.cell0
    have hf2 := hqs.free
    have hz := (HZ.out.below hb).put_other (g' := g) 0 (.slice A1 l.length c1) (by omega)
    have h4 := (H4.out.below hb).put_other (g' := g) 0 (.slice A1 l.length c1) (by omega)
    have hld := h4.rq.load
    have hst := hz.store 43 #[.int .i64 r.k, .int .i64 r.n, .slice r.A r.m r.c] infoR rfl rfl
    have HF := Lib.hid (((Fr.of_below HB.out (· = g)).then_ (Fr.of_below hb (· = g)) (fun _ _ e => e)).setCell (p := ⟨g, 0, none⟩) (.inl rfl) (.slice A1 l.length c1))
    have HQ5 := Lib.hid ((H.out.below HB.out).lay (l1 := l) (Fr.of_below hb (fun _ => False)) id (own_less ho (by have := H.out.hB; have := HB.out.size; omega)))
    have HR := Lib.hid (hz.set #[.int .i64 r.k, .int .i64 r.n, .slice r.A r.m r.c])
    have HO := Lib.hid (fun b2 (e : (Value.slice A1 l.length c1).ownBlock = some b2) => (own_ge ho e).1)
    clear hqs hz h4 ho hb
    go_wp2_with fail
    exact bodyPost_ret (v := .tuple #[.agg #[.int .i64 r.k, .int .i64 r.n, .slice r.A r.m r.c], .bool true]) (results_ct Try.results33 _ _ _ _ _ (0, 0) _ rfl HR.out.heap Try.underlying43 rfl infoR) rfl
      ⟨rfl, _, HQ5.out.keep (Fr.row (Fr.refl (· = w.heap.size) _) (.inl rfl) #[.int .i64 r.k, .int .i64 r.n, .slice r.A r.m r.c]) (by omega) (fun b2 e => by have := HO.out b2 e; omega), Fr.row HF.out (.inr (Nat.le_refl _)) #[.int .i64 r.k, .int .i64 r.n, .slice r.A r.m r.c], fun b2 e => by have := HO.out b2 e; omega⟩
  case inl =>
    have hl0 : l = [] := List.eq_nil_of_length_eq_zero (by simp at hcap; omega)
    have HY := Lib.hid (show ∀ j u, (rows l)[j]? = some u → W3.cell? ((⟨b, 0, none⟩ : Addr).add j) = some u from fun j u e => by
      rw [hl0] at e
      simp [rows] at e)
    clear hl0
    refine (clone_reqs ⟨b, 0, none⟩ l.length 0 (rows l) W3 (rows_length l) HY.out (rows_one l) (by omega)).mono ?_
    rintro e w4 ⟨v1, rfl, ho, hb⟩
    obtain ⟨A1, c1, hv1⟩ := own_slice ho
    subst hv1
    have hlt := H.out.lt
    have hzlt := HZ.out.lt
    have hqs := (H.out.below HB.out).below hb
    have hc2 := hqs.cell0
    have hf2 := hqs.free
    have hz := (HZ.out.below hb).put_other (g' := g) 0 (.slice A1 l.length c1) (by omega)
    have h4 := (H4.out.below hb).put_other (g' := g) 0 (.slice A1 l.length c1) (by omega)
    have hld := h4.rq.load
    have hst := hz.store 43 #[.int .i64 r.k, .int .i64 r.n, .slice r.A r.m r.c] infoR rfl rfl
    have HF := Lib.hid (((Fr.of_below HB.out (· = g)).then_ (Fr.of_below hb (· = g)) (fun _ _ e => e)).setCell (p := ⟨g, 0, none⟩) (.inl rfl) (.slice A1 l.length c1))
    have HQ5 := Lib.hid ((H.out.below HB.out).lay (l1 := l) (Fr.of_below hb (fun _ => False)) id (own_less ho (by have := H.out.hB; have := HB.out.size; omega)))
    have HR := Lib.hid (hz.set #[.int .i64 r.k, .int .i64 r.n, .slice r.A r.m r.c])
    have HO := Lib.hid (fun b2 (e : (Value.slice A1 l.length c1).ownBlock = some b2) => (own_ge ho e).1)
    clear hqs hz h4 ho hb
    go_wp2_with fail
    exact bodyPost_ret (v := .tuple #[.agg #[.int .i64 r.k, .int .i64 r.n, .slice r.A r.m r.c], .bool true]) (results_ct Try.results33 _ _ _ _ _ (0, 0) _ rfl HR.out.heap Try.underlying43 rfl infoR) rfl
      ⟨rfl, _, HQ5.out.keep (Fr.row (Fr.refl (· = w.heap.size) _) (.inl rfl) #[.int .i64 r.k, .int .i64 r.n, .slice r.A r.m r.c]) (by omega) (fun b2 e => by have := HO.out b2 e; omega), Fr.row HF.out (.inr (Nat.le_refl _)) #[.int .i64 r.k, .int .i64 r.n, .slice r.A r.m r.c], fun b2 e => by have := HO.out b2 e; omega⟩
end Go.Proofs.Ytajflegjpnmloaa.Queue
