/- Walk: the queue's Add. -/
import Derived.Test.YtajflegjpnmloaaQueueTake
import Derived.Deep.RegionHeld3
import Derived.Deep.RegionLaw
namespace Go.Proofs.Ytajflegjpnmloaa.Queue
open Go.RowKit Go.Proofs.YtajflegjpnmloaaW.PrintWords Go.Proofs.YtajflegjpnmloaaW.PrintLast Go.Proofs.Ytajflegjpnmloaa.Kit Go.Proofs.Ytajflegjpnmloaa.Field
attribute [local go_sem ↓] ldR stR
set_option linter.unusedSimpArgs false
set_option linter.unusedVariables false
theorem built3 (W : World) (a b c : Value) (t : TypeId) : ∀ j u, [a, b, c][j]? = some u → (W.alloc (.cells #[a, b, c] t)).cell? ((⟨W.heap.size, 0, none⟩ : Addr).add j) = some u := fun j u e => by
  rw [add_zero3, World.cell?_alloc_new]
  simpa using e
theorem own_addr {W : World} {B size n c : Nat} {e : TypeId} {ad : Addr} {xs : List Value} (h : W.ownsRow B e size (.slice (some ad) n c) n xs) : B ≤ ad.block ∧ ad.block < W.heap.size := by
  rcases h.2 with ⟨e, _⟩ | ⟨g, cap, cur, e, hg, hh, _⟩
  · cases e
  · injection e with e1
    injection e1 with e1
    subst e1
    exact ⟨hg, (Array.getElem?_eq_some_iff.1 hh).1⟩
set_option maxHeartbeats 2000000 in
theorem add_full (B g : Nat) (v : Value) (l : List Rq) (r : Rq) (w : World) (h : Qu w B g v l) (hl : 4 ≤ l.length) :
    Calls Try.prog 31 #[.pointer (some ⟨g, 0, none⟩), .agg #[.int .i64 r.k, .int .i64 r.n, .slice r.A r.m r.c]] w fun e w' => e = .returned (.int .i64 15) ∧ Below w.heap.size w w' := by
  have hb := below_alloc1 w (.cells #[.int .i64 r.k, .int .i64 r.n, .slice r.A r.m r.c] 43)
  have HB := Lib.hid hb
  obtain ⟨Aq, cq, rfl⟩ := h.slice
  have hc := (h.below hb).cell0
  have hl2 : (4 : Int) ≤ l.length := by omega
  clear h hb
  go_enter Try.func31, Try.ntmps31
  go_wp2_with fail
  go_ret
  exact ⟨rfl, HB.out⟩
set_option maxHeartbeats 4000000 in
set_option maxRecDepth 100000 in
theorem add_ok (B g : Nat) (v : Value) (l : List Rq) (r : Rq) (bs : List Int) (w : World) (h : Qu w B g v l) (hl : l.length < 4) (hr : ReadsInt w .u8 r.A r.m bs) (hm : r.m ≤ 1000) :
    Calls Try.prog 31 #[.pointer (some ⟨g, 0, none⟩), .agg #[.int .i64 r.k, .int .i64 r.n, .slice r.A r.m r.c]] w fun e w' => e = .returned (.int .i64 0) ∧
      ∃ v' A' c', Qu w' B g v' (l ++ [⟨r.k, r.n, A', r.m, c'⟩]) ∧ ReadsInt w' .u8 A' r.m bs ∧ (∀ ad, A' = some ad → w.heap.size ≤ ad.block ∧ ad.block < w'.heap.size ∧ v'.ownBlock ≠ some ad.block) ∧ Fr (qF g v) w w' ∧ rowNext w v v' := by
  have hb := below_alloc1 w (.cells #[.int .i64 r.k, .int .i64 r.n, .slice r.A r.m r.c] 43)
  have HB := Lib.hid hb
  have hv := h.slice
  obtain ⟨Aq, cq, rfl⟩ := hv
  have hc := (h.below hb).cell0
  have hbox := Blk.new w 43 #[.int .i64 r.k, .int .i64 r.n, .slice r.A r.m r.c] _ rfl
  have hc2 := hbox.cell 2
  have hl2 : ¬ (4 : Int) ≤ l.length := by omega
  have HX := Lib.hid hbox
  have HR := Lib.hid (hr.below hb)
  have H := Lib.hid h
  have hml := hr.1
  have HML := Lib.hid hml
  clear h hb hr hbox hml
  go_enter Try.func31, Try.ntmps31
  go_wp2_with fail
  refine (clone_calls r.A r.m r.c bs _ HR.out (by omega)).mono ?_
  rintro e w2 ⟨vb, rfl, hg⟩
  have ho := hg.1
  rw [HML.out] at ho
  obtain ⟨A2, c2, rfl, hr2⟩ := own_reads ho
  have hb2 := hg.2
  have hbox2 := HX.out.below hb2
  have hcell := hbox2.cell 2
  have hfree := hbox2.free 2
  have HX2 := Lib.hid (hbox2.put 2 (.slice A2 r.m c2))
  have HO := Lib.hid ho
  have HB2 := Lib.hid (HB.out.trans (hb2.mono HB.out.size))
  have HB3 := Lib.hid (HB2.out.setCell (p := ⟨w.heap.size, 2, none⟩) (Nat.le_refl _) (.slice A2 r.m c2))
  have HR2 := Lib.hid hr2
  clear hg ho hr2 hb2 hbox2 hc hc2 hl2
  go_upto_region 4 with fail
  have hlt := H.out.lt
  have hA2 : ∀ ad, A2 = some ad → w.heap.size + 1 ≤ ad.block := fun ad e => by
    subst e
    have := (own_addr HO.out).1
    simp at this
    omega
  have HA2 := Lib.hid hA2
  have HR3 := Lib.hid (((Fr.refl (· = w.heap.size) w2).setCell (p := ⟨w.heap.size, 2, none⟩) (.inl rfl) (.slice A2 r.m c2)).reads HR2.out (fun _ ad e => by have := HA2.out ad e; omega))
  have hx2 := HX2.out
  simp only [List.setIfInBounds_toArray, List.set_cons_succ, List.set_cons_zero] at hx2
  have hA3 : ∀ ad, A2 = some ad → ad.block < (w2.setCell ⟨w.heap.size, 2, none⟩ (.slice A2 r.m c2)).heap.size := fun ad e => by
    subst e
    have := (own_addr HO.out).2
    simpa [World.setCell] using this
  have HA3 := Lib.hid hA3
  clear hcell hfree hA2 hA3
  generalize w2.setCell ⟨w.heap.size, 2, none⟩ (.slice A2 r.m c2) = W3 at HB3 HR3 HA3 hx2 ⊢
  have hat : RqAt W3 ⟨w.heap.size, 0, none⟩ ⟨r.k, r.n, A2, r.m, c2⟩ := hx2.rq (r := ⟨r.k, r.n, A2, r.m, c2⟩)
  have hld0 := hat.load
  have hld1 := hat.drew.load
  have HQ3 := Lib.hid (H.out.below HB3.out)
  have HAT : Hid (At W3 41 g (.slice Aq l.length cq)) := Lib.hid HQ3.out.cell
  have HNE := Lib.hid HQ3.out.ne
  have hc0 := HQ3.out.cell0
  have hf0 := HQ3.out.free
  have hca := fun o => (At.alloc HAT.out o).cell
  have hW3 := HB3.out.size
  have hBg := H.out.hB
  clear hx2 hat
  go_region_law ((refine step_own B 3 40 (by rfl) (.tmp 23) (.tmp 25) 39 43 (by rfl) Try.underlying39 infoReq (by decide) (.slice Aq l.length cq) l.length (rows l) ⟨_, 0, none⟩ 1 1 [.int .i64 r.k, .int .i64 r.n, .slice A2 r.m c2] (by rfl) (by rfl) (HQ3.out.own.alloc _) (by rfl) (built3 _ _ _ _ _) (by intro u hu; simp at hu; rcases hu with rfl | rfl | rfl <;> rfl) (by unfold maxLen; omega) (by omega) (by simp; omega) ?_; intro v3 w5 ho3 hg3 hn3; obtain ⟨A3, c3, hv3⟩ := own_slice ho3; subst hv3; have hc2 := At.cell (At.grown hg3 (At.drew (At.alloc HAT.out _)) HNE.out); have hf2 := At.free (At.grown hg3 (At.drew (At.alloc HAT.out _)) HNE.out); have HO3 := Lib.hid ho3; have HG3 := Lib.hid hg3; have HN3 := Lib.hid hn3; clear ho3 hg3 hn3))
  all_goals
    have HF := Lib.hid (show Fr (fun i => (Value.slice Aq l.length cq).ownBlock = some i) w w5 from (((Fr.of_below HB3.out _).alloc _).drew).then_ (Fr.of_grown HG3.out) (fun i hi e => e))
    have HQ5 := Lib.hid (H.out.lay (l1 := l ++ [⟨r.k, r.n, A2, r.m, c2⟩]) HF.out (fun e => H.out.ne e) (by have h := HO3.out; rw [List.length_append, rows_append]; exact h))
    have HF3 := Lib.hid (show Fr (qF g (.slice Aq l.length cq)) W3 (w5.setCell ⟨g, 0, none⟩ (.slice A3 (l.length + 1) c3)) from ((((Fr.refl _ W3).alloc _).drew).then_ (Fr.of_grown HG3.out) (fun i hi e => .inr e)).setCell (.inl (.inl rfl)) _)
    clear hc0 hf0 hca hld0 hld1
    go_wp2_with fail
    go_ret
    refine ⟨rfl, _, A2, c2, HQ5.out, HF3.out.reads HR3.out (fun _ ad e hq => ?_), fun ad e => ⟨?_, Nat.lt_of_lt_of_le (HA3.out ad e) HF3.out.size, fun e2 => ?_⟩, (HF.out.mono (F' := qF g (.slice Aq l.length cq)) (fun i hi e => .inr e)).setCell (.inl (.inl rfl)) _, ?_⟩
    · have := HA2.out ad e
      rcases hq with e3 | e3
      · omega
      · have := (own_ge H.out.own e3).2; omega
    · have := HA2.out ad e; omega
    · have h2 := HA2.out ad e
      have h3 := HA3.out ad e
      rcases HN3.out with h1 | h1
      · have := (own_ge H.out.own (h1.symm.trans e2)).2; omega
      · have e4 := h1.symm.trans e2
        injection e4 with e4
        simp at e4
        omega
    · rcases HN3.out with h1 | h1
      · exact .inl h1
      · exact .inr ⟨_, h1, by simp; omega⟩
end Go.Proofs.Ytajflegjpnmloaa.Queue
