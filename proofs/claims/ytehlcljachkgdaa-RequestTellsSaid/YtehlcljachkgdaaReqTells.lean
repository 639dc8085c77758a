/- Walk: RequestTells. -/
import Derived.Test.YtehlcljachkgdaaReqSame
import Derived.OrdersHeld
namespace Go.Proofs.Ytehlcljachkgdaa.Req
open Go.RowKit Go.Proofs.YtehlcljachkgdaaW.PrintWords Go.Proofs.YtehlcljachkgdaaW.PrintLast Go.Proofs.Ytehlcljachkgdaa.Kit Go.Proofs.Ytehlcljachkgdaa.Field

set_option linter.unusedSimpArgs false

theorem reqB_le (k n : Int) (bs : List Int) : (reqB k n bs).length ≤ 1007 := by
  unfold reqB
  split
  · rename_i h
    obtain ⟨_, _, _, _, h1⟩ := right_le h
    rw [reqL_length]; omega
  · simp

theorem tells_out (k n : Int) (A : Option Addr) (m c : Nat) (x xn xg : Int) (C : Option Addr) (q d : Nat) (w : World) (h : 1200 < m ∨ 1200 < q) :
    Calls Try.prog 4 #[.agg #[.int .i64 k, .int .i64 n, .slice A m c], .agg #[.int .i64 x, .int .i64 xn, .int .i64 xg], .slice C q d] w fun e w' => e = .returned (.bool true) ∧ Below w.heap.size w w' := by
  go_enter Try.func4, Try.ntmps4
  go_wp2_with fail
  have hh0 := heap_alloc_new w (.cells #[.int .i64 k, .int .i64 n, .slice A m c] 25)
  have hb0 := below_alloc1 w (.cells #[.int .i64 k, .int .i64 n, .slice A m c] 25)
  have hb1 := below_alloc1 (w.alloc (.cells #[.int .i64 k, .int .i64 n, .slice A m c] 25)) (.cells #[.int .i64 x, .int .i64 xn, .int .i64 xg] 30)
  have es : (w.alloc (.cells #[.int .i64 k, .int .i64 n, .slice A m c] 25)).heap.size = w.heap.size + 1 := by simp
  rw [es] at hb1
  refine (live18 _).mono ?_
  rintro e w1 ⟨rfl, hb2⟩
  have HH0 := Lib.hid ((hb2.block w.heap.size (by simp; omega)).trans ((hb1.block w.heap.size (by omega)).trans hh0))
  have HB1 := Lib.hid (hb0.trans ((hb1.mono (by omega)).trans (hb2.mono (by simp; omega))))
  clear hh0 hb0 hb1 es hb2
  obtain ⟨c0, c1, c2⟩ := cells_of HH0.out
  go_wp2_with fail
  all_goals first
    | (exfalso; omega)
    | (go_ret; exact ⟨rfl, HB1.out⟩)

set_option maxHeartbeats 40000000 in
set_option maxRecDepth 100000 in
theorem tells_in (k n : Int) (A : Option Addr) (m c : Nat) (bs : List Int) (x xn xg : Int) (C : Option Addr) (q d : Nat) (ys : List Int) (w : World) (hr : ReadsInt w .u8 A m bs) (hs : Small bs) (hq : ReadsInt w .u8 C q ys) (hy : Small ys) (hm : m ≤ 1200) (hq2 : q ≤ 1200) (hqd : q ≤ d) :
    Calls Try.prog 4 #[.agg #[.int .i64 k, .int .i64 n, .slice A m c], .agg #[.int .i64 x, .int .i64 xn, .int .i64 xg], .slice C q d] w fun e w' => e = .returned (.bool true) ∧ Below w.heap.size w w' := by
  have hxl := reqB_le k n bs
  have hql := hq.1
  have hml := hr.1
  have HML := Lib.hid hml
  clear hml
  have HQL := Lib.hid hql
  obtain ⟨L, hL⟩ : ∃ L, L = (reqB k n bs).length := ⟨_, rfl⟩
  rw [← hL] at hxl
  have HL := Lib.hid hL.symm
  have HRR := Lib.hid (ref_read hy)
  have HRA := Lib.hid (ref_ans hy)
  clear hL hql
  go_enter Try.func4, Try.ntmps4
  go_wp2_with fail
  have hh0 := heap_alloc_new w (.cells #[.int .i64 k, .int .i64 n, .slice A m c] 25)
  have hb0 := below_alloc1 w (.cells #[.int .i64 k, .int .i64 n, .slice A m c] 25)
  have hh1 := heap_alloc_new (w.alloc (.cells #[.int .i64 k, .int .i64 n, .slice A m c] 25)) (.cells #[.int .i64 x, .int .i64 xn, .int .i64 xg] 30)
  have hb1 := below_alloc1 (w.alloc (.cells #[.int .i64 k, .int .i64 n, .slice A m c] 25)) (.cells #[.int .i64 x, .int .i64 xn, .int .i64 xg] 30)
  have es : (w.alloc (.cells #[.int .i64 k, .int .i64 n, .slice A m c] 25)).heap.size = w.heap.size + 1 := by simp
  rw [es] at hh1 hb1
  refine (live18 _).mono ?_
  rintro e w1 ⟨rfl, hb2⟩
  have HH0 := Lib.hid ((hb2.block w.heap.size (by simp; omega)).trans ((hb1.block w.heap.size (by omega)).trans hh0))
  have HH1 := Lib.hid ((hb2.block (w.heap.size + 1) (by simp)).trans hh1)
  have hbw := hb0.trans ((hb1.mono (by omega)).trans (hb2.mono (by simp; omega)))
  have H1 := Lib.hid (Hl.mk (w := w) (B := w.heap.size) (l := [(w.heap.size, .cells #[.int .i64 k, .int .i64 n, .slice A m c] 25), (w.heap.size + 1, .cells #[.int .i64 x, .int .i64 xn, .int .i64 xg] 30)]) (rs := [(A, m, bs), (C, q, ys)]) (W := w1) (by
    intro p hp
    simp only [List.mem_cons, List.not_mem_nil, or_false] at hp
    rcases hp with rfl | rfl
    · exact HH0.out
    · exact HH1.out) (by
    intro r hr'
    simp only [List.mem_cons, List.not_mem_nil, or_false] at hr'
    rcases hr' with rfl | rfl
    · exact ⟨hr.below hbw⟩
    · exact ⟨hq.below hbw⟩) hbw hbw.size)
  clear hh0 hb0 hh1 hb1 es hb2 HH0 HH1 hbw hr hq
  obtain ⟨c0, c1, c2⟩ := cells_of (H1.out.blk _ (.head _))
  go_wp2_with fail
  clear c0 c1 c2
  refine (bytes_calls k n A m c bs _ (H1.out.rd _ (.head _)).out).mono ?_
  rintro e w2 ⟨v2, rfl, hg⟩
  have ho := hg.1
  rw [HL.out] at ho
  obtain ⟨X, cx, rfl, hrx⟩ := own_reads ho
  have H2 := Lib.hid ((H1.out.below hg.2).add ⟨hrx⟩)
  clear hg ho hrx H1
  go_wp2_with (first
    | (at_builtin
       refine print_append_row (o := ⟨some 38, _, _, _, _, _⟩) (w0 := w2) w2.heap.size rfl (.const (.slice none 0 0)) (.tmp 37) 23 5 .u8 1 rfl Try.underlying23 info5 (by decide) _ [] ys C q d rfl rfl (own_nil _ _ _ _) (H2.out.rd _ (.tail _ (.tail _ (.head _)))).out (Below.refl _ _) (Nat.le_refl _) (by simp; omega) ?_
       intro v3 w3 own3 hb3 hg3 hat3
       rw [List.nil_append, HQL.out] at own3
       obtain ⟨A3, c3, rfl, hr3⟩ := own_reads own3
       have H3 := Lib.hid (H2.out.below hb3)
       have HR3 := Lib.hid hr3
       clear own3 hb3 hg3 hat3 hr3 H2)
    | fail)
  refine (read_calls A3 q c3 ys _ HR3.out hy (by omega)).mono ?_
  rintro e w4 hro
  obtain ⟨A4, c4, rfl, hr4, hb4⟩ := hro.opened
  obtain ⟨K, hK⟩ : ∃ K, K = rK (readReq ys) := ⟨_, rfl⟩
  obtain ⟨N, hN⟩ : ∃ N, N = rN (readReq ys) := ⟨_, rfl⟩
  obtain ⟨Z, hZ⟩ : ∃ Z, Z = rZ (readReq ys) := ⟨_, rfl⟩
  obtain ⟨E, hE⟩ : ∃ E, E = rE (readReq ys) := ⟨_, rfl⟩
  have HH := Lib.hid (show rK (readReq ys) = K ∧ rN (readReq ys) = N ∧ rZ (readReq ys) = Z ∧ rE (readReq ys) = E from ⟨hK.symm, hN.symm, hZ.symm, hE.symm⟩)
  rw [← hZ] at hr4
  rw [← hK, ← hN, ← hZ, ← hE]
  have H4 := Lib.hid ((H3.out.below hb4).add hr4)
  clear hro hr4 hb4 HR3 H3 hK hN hZ hE
  have H5 := Lib.hid (H4.out.alloc 25 #[.int .i64 K, .int .i64 N, .slice A4 Z.length c4])
  clear H4
  go_wp2_with fail
  refine (refReq_calls C q d ys _ (H5.out.rd (C, q, ys) (by simp)).out hy (by omega) hqd).mono ?_
  rw [HRR.out]
  rintro e w6 hro
  obtain ⟨A6, c6, rfl, hr6, hb6⟩ := hro.opened
  obtain ⟨h1, h2, h3, h4⟩ := HH.out
  rw [h3] at hr6
  rw [h1, h2, h3, h4]
  have H6 := Lib.hid (((H5.out.below hb6).add hr6).alloc 25 #[.int .i64 K, .int .i64 N, .slice A6 Z.length c6])
  clear hro hr6 hb6 h1 h2 h3 h4 H5
  have hs7 : w6.heap.size + 1 ≤ (w6.alloc (.cells #[.int .i64 K, .int .i64 N, .slice A6 Z.length c6] 25)).heap.size := by simp
  have hs8 : (w6.alloc (.cells #[.int .i64 K, .int .i64 N, .slice A6 Z.length c6] 25)).heap.size ≤ w6.heap.size + 1 := by simp
  go_wp2_with (first
    | (at_builtin
       refine print_append_row (o := ⟨some 49, _, _, _, _, _⟩) (w0 := w6.alloc (.cells #[.int .i64 K, .int .i64 N, .slice A6 Z.length c6] 25)) (w6.heap.size + 1) rfl (.const (.slice none 0 0)) (.tmp 48) 23 5 .u8 1 rfl Try.underlying23 info5 (by decide) _ [] ys C q d rfl rfl (own_nil _ _ _ _) (H6.out.rd (C, q, ys) (by simp)).out (Below.refl _ _) hs7 (by simp; omega) ?_
       intro v7 w7 own7 hb7 hg7 hat7
       rw [List.nil_append, HQL.out] at own7
       obtain ⟨A7, c7, rfl, hr7⟩ := own_reads own7
       have H7 := Lib.hid (H6.out.below (hb7.mono hs8))
       have HR7 := Lib.hid hr7
       clear own7 hb7 hg7 hat7 hr7 H6)
    | fail)
  refine (readA_calls A7 q c7 ys _ HR7.out hy (by omega)).mono ?_
  rintro e w8 hro
  obtain ⟨rfl, hb8⟩ := hro.opened
  obtain ⟨K2, hK⟩ : ∃ K2, K2 = aK (readAns ys) := ⟨_, rfl⟩
  obtain ⟨N2, hN⟩ : ∃ N2, N2 = aN (readAns ys) := ⟨_, rfl⟩
  obtain ⟨G2, hZ⟩ : ∃ G2, G2 = aG (readAns ys) := ⟨_, rfl⟩
  obtain ⟨E2, hE⟩ : ∃ E2, E2 = aE (readAns ys) := ⟨_, rfl⟩
  have HH2 := Lib.hid (show aK (readAns ys) = K2 ∧ aN (readAns ys) = N2 ∧ aG (readAns ys) = G2 ∧ aE (readAns ys) = E2 from ⟨hK.symm, hN.symm, hZ.symm, hE.symm⟩)
  rw [← hK, ← hN, ← hZ, ← hE]
  have H8 := Lib.hid ((H7.out.below hb8).alloc 30 #[.int .i64 K2, .int .i64 N2, .int .i64 G2])
  clear hro hb8 HR7 H7 hK hN hZ hE
  go_wp2_with fail
  refine (refA_calls C q d ys _ (H8.out.rd (C, q, ys) (by simp)).out hy (by omega) hqd).mono ?_
  rw [HRA.out]
  rintro e w9 hro
  obtain ⟨rfl, hb9⟩ := hro.opened
  obtain ⟨h1, h2, h3, h4⟩ := HH2.out
  rw [h1, h2, h3, h4]
  have H9 := Lib.hid ((H8.out.below hb9).alloc 30 #[.int .i64 K2, .int .i64 N2, .int .i64 G2])
  clear hro hb9 h1 h2 h3 h4 H8
  go_wp2_with fail
  clear hs7 hs8
  have HRE := Lib.hid (show rE (readReq ys) = E from HH.out.2.2.2)
  have HRK := Lib.hid HH.out
  obtain ⟨S, hS⟩ : ∃ S : World → Prop, S = Hl w w.heap.size
    [(w9.heap.size, .cells #[.int .i64 K2, .int .i64 N2, .int .i64 G2] 30), (w8.heap.size, .cells #[.int .i64 K2, .int .i64 N2, .int .i64 G2] 30), (w6.heap.size, .cells #[.int .i64 K, .int .i64 N, .slice A6 Z.length c6] 25), (w4.heap.size, .cells #[.int .i64 K, .int .i64 N, .slice A4 Z.length c4] 25), (w.heap.size, .cells #[.int .i64 k, .int .i64 n, .slice A m c] 25), (w.heap.size + 1, .cells #[.int .i64 x, .int .i64 xn, .int .i64 xg] 30)]
    [(A6, Z.length, Z), (A4, Z.length, Z), (X, L, reqB k n bs), (A, m, bs), (C, q, ys)] := ⟨_, rfl⟩
  have S0 : S (w9.alloc (.cells #[.int .i64 K2, .int .i64 N2, .int .i64 G2] 30)).drew := by rw [hS]; exact H9.out.drew
  have Sb : ∀ (W W' : World), S W → Below W.heap.size W W' → S W' := fun W W' h k => by rw [hS] at h ⊢; exact h.below k
  have Sq : ∀ {W : World}, S W → (W.cell? ⟨w.heap.size, 0, none⟩ = some (.int .i64 k) ∧ W.cell? ⟨w.heap.size, 1, none⟩ = some (.int .i64 n) ∧ W.cell? ⟨w.heap.size, 2, none⟩ = some (.slice A m c)) := fun {W} h => by rw [hS] at h; exact cells_of (h.blk _ (.tail _ (.tail _ (.tail _ (.tail _ (.head _))))))
  have Sr : ∀ {W : World}, S W → (W.cell? ⟨w.heap.size + 1, 0, none⟩ = some (.int .i64 x) ∧ W.cell? ⟨w.heap.size + 1, 1, none⟩ = some (.int .i64 xn) ∧ W.cell? ⟨w.heap.size + 1, 2, none⟩ = some (.int .i64 xg)) := fun {W} h => by rw [hS] at h; exact cells_of (h.blk _ (.tail _ (.tail _ (.tail _ (.tail _ (.tail _ (.head _)))))))
  have Sa : ∀ {W : World}, S W → (W.cell? ⟨w4.heap.size, 0, none⟩ = some (.int .i64 K) ∧ W.cell? ⟨w4.heap.size, 1, none⟩ = some (.int .i64 N) ∧ W.cell? ⟨w4.heap.size, 2, none⟩ = some (.slice A4 Z.length c4)) := fun {W} h => by rw [hS] at h; exact cells_of (h.blk _ (.tail _ (.tail _ (.tail _ (.head _)))))
  have Sc : ∀ {W : World}, S W → (W.cell? ⟨w6.heap.size, 0, none⟩ = some (.int .i64 K) ∧ W.cell? ⟨w6.heap.size, 1, none⟩ = some (.int .i64 N) ∧ W.cell? ⟨w6.heap.size, 2, none⟩ = some (.slice A6 Z.length c6)) := fun {W} h => by rw [hS] at h; exact cells_of (h.blk _ (.tail _ (.tail _ (.head _))))
  have Ss : ∀ {W : World}, S W → (W.cell? ⟨w8.heap.size, 0, none⟩ = some (.int .i64 K2) ∧ W.cell? ⟨w8.heap.size, 1, none⟩ = some (.int .i64 N2) ∧ W.cell? ⟨w8.heap.size, 2, none⟩ = some (.int .i64 G2)) := fun {W} h => by rw [hS] at h; exact cells_of (h.blk _ (.tail _ (.head _)))
  have St : ∀ {W : World}, S W → (W.cell? ⟨w9.heap.size, 0, none⟩ = some (.int .i64 K2) ∧ W.cell? ⟨w9.heap.size, 1, none⟩ = some (.int .i64 N2) ∧ W.cell? ⟨w9.heap.size, 2, none⟩ = some (.int .i64 G2)) := fun {W} h => by rw [hS] at h; exact cells_of (h.blk _ (.head _))
  have S6 : ∀ {W : World}, S W → Rd W A6 Z.length Z := fun {W} h => by rw [hS] at h; exact h.rd (A6, Z.length, Z) (by simp)
  have S4 : ∀ {W : World}, S W → Rd W A4 Z.length Z := fun {W} h => by rw [hS] at h; exact h.rd (A4, Z.length, Z) (by simp)
  have SX : ∀ {W : World}, S W → Rd W X L (reqB k n bs) := fun {W} h => by rw [hS] at h; exact h.rd (X, L, reqB k n bs) (by simp)
  have SA : ∀ {W : World}, S W → Rd W A m bs := fun {W} h => by rw [hS] at h; exact h.rd (A, m, bs) (by simp)
  have SB : ∀ {W : World}, S W → Below w.heap.size w W := fun {W} h => by rw [hS] at h; exact h.bel
  have HSb := Lib.hid Sb
  clear hS H9 HH HH2 HRR HRA Sb
  refine wp_region_noPanic ?_
  refine wp_region_held_drew (S := S) (by kernel_rfl) S0 (fun hHeld => ?_)
  refine wpAnyH_take (i := 0) (v := ?v0) rfl (by kernel_rfl) (by kernel_rfl) (by kernel_rfl) (fun _ _ _ h => h) (Or.inl ⟨by rfl, ?y0⟩) (by assumption) ?n0
  case y0 => (intro W hSw; go_simp; try with_reducible rfl)
  try simp only [Act.put, List.getElem_toArray, List.getElem_cons_succ, List.getElem_cons_zero, List.setIfInBounds_toArray, List.set_cons_zero, List.set_cons_succ]
  refine wpAnyH_take (i := 1) (v := ?v1) rfl (by kernel_rfl) (by kernel_rfl) (by kernel_rfl) (fun _ _ _ h => h) (Or.inl ⟨by rfl, ?y1⟩) (by assumption) ?n1
  case y1 => (intro W hSw; have q0 := (SX hSw).conv cx; go_simp; try with_reducible rfl)
  try simp only [Act.put, List.getElem_toArray, List.getElem_cons_succ, List.getElem_cons_zero, List.setIfInBounds_toArray, List.set_cons_zero, List.set_cons_succ]
  refine wpAnyH_take (i := 2) (v := ?v2) rfl (by kernel_rfl) (by kernel_rfl) (by kernel_rfl) (fun _ _ _ h => h) (Or.inl ⟨by rfl, ?y2⟩) (by assumption) ?n2
  case y2 => (intro W hSw; obtain ⟨q0, q1, q2⟩ := Sq hSw; go_simp; try with_reducible rfl)
  try simp only [Act.put, List.getElem_toArray, List.getElem_cons_succ, List.getElem_cons_zero, List.setIfInBounds_toArray, List.set_cons_zero, List.set_cons_succ]
  refine wpAnyH_ready (rs := [3]) (by kernel_rfl) (by simp) ?_
  refine AllReadyH.cons rfl (fun KK hK => ?_) AllReadyH.nil
  rw [if_pos (by rfl)]
  go_simp
  refine (reqRef_calls k n A m c bs _ (SA hHeld).out).mono ?_
  rintro e w10 ⟨v10, rfl, hg⟩
  have ho := hg.1
  rw [HL.out] at ho
  obtain ⟨A10, c10, rfl, hr10⟩ := own_reads ho
  have k10 : Rd w10 A10 L (reqB k n bs) := ⟨hr10⟩
  dsimp only
  refine hK.out _ _ (HSb.out _ _ hHeld hg.2) (fun hHeld2 => ?_)
  clear hK KK hHeld
  refine wpAnyH_more (S2 := fun W => S W ∧ Rd W A10 L (reqB k n bs)) (fun _ h => h.1) _ _ _ _ ?_
  have hHeld : S w10 ∧ Rd w10 A10 L (reqB k n bs) := And.intro hHeld2 k10
  have HSb := Lib.hid (fun (W W' : World) (h : S W ∧ Rd W A10 L (reqB k n bs)) (b : Below W.heap.size W W') => show S W' ∧ Rd W' A10 L (reqB k n bs) from ⟨HSb.out _ _ h.1 b, h.2.below b⟩)
  clear hHeld2 k10 ho hg hr10
  try simp only [Act.put, List.getElem_toArray, List.getElem_cons_succ, List.getElem_cons_zero, List.setIfInBounds_toArray, List.set_cons_zero, List.set_cons_succ]
  refine wpAnyH_take (i := 4) (v := ?v4) rfl (by kernel_rfl) (by kernel_rfl) (by kernel_rfl) (fun _ _ _ h => h) (Or.inl ⟨by rfl, ?y4⟩) (by assumption) ?n4
  case y4 => (intro W hSw; have q0 := hSw.2.conv c10; go_simp; try with_reducible rfl)
  try simp only [Act.put, List.getElem_toArray, List.getElem_cons_succ, List.getElem_cons_zero, List.setIfInBounds_toArray, List.set_cons_zero, List.set_cons_succ]
  refine wpAnyH_take (i := 5) (v := ?v5) rfl (by kernel_rfl) (by kernel_rfl) (by kernel_rfl) (fun _ _ _ h => h) (Or.inl ⟨by rfl, ?y5⟩) (by assumption) ?n5
  case y5 => (intro W hSw; go_simp; try with_reducible rfl)
  try simp only [Act.put, List.getElem_toArray, List.getElem_cons_succ, List.getElem_cons_zero, List.setIfInBounds_toArray, List.set_cons_zero, List.set_cons_succ]
  refine wpAnyH_take (i := 6) (v := ?v6) rfl (by kernel_rfl) (by kernel_rfl) (by kernel_rfl) (fun _ _ _ h => h) (Or.inl ⟨by rfl, ?y6⟩) (by assumption) ?n6
  case y6 => (intro W hSw; go_simp; try with_reducible rfl)
  try simp only [Act.put, List.getElem_toArray, List.getElem_cons_succ, List.getElem_cons_zero, List.setIfInBounds_toArray, List.set_cons_zero, List.set_cons_succ]
  refine wpAnyH_take (i := 7) (v := ?v7) rfl (by kernel_rfl) (by kernel_rfl) (by kernel_rfl) (fun _ _ _ h => h) (Or.inl ⟨by rfl, ?y7⟩) (by assumption) ?n7
  case y7 => (intro W hSw; obtain ⟨q0, q1, q2⟩ := Sa hSw.1; go_simp; try with_reducible rfl)
  try simp only [Act.put, List.getElem_toArray, List.getElem_cons_succ, List.getElem_cons_zero, List.setIfInBounds_toArray, List.set_cons_zero, List.set_cons_succ]
  refine wpAnyH_take (i := 8) (v := ?v8) rfl (by kernel_rfl) (by kernel_rfl) (by kernel_rfl) (fun _ _ _ h => h) (Or.inl ⟨by rfl, ?y8⟩) (by assumption) ?n8
  case y8 => (intro W hSw; obtain ⟨q0, q1, q2⟩ := Sc hSw.1; go_simp; try with_reducible rfl)
  try simp only [Act.put, List.getElem_toArray, List.getElem_cons_succ, List.getElem_cons_zero, List.setIfInBounds_toArray, List.set_cons_zero, List.set_cons_succ]
  refine wpAnyH_ready (rs := [9]) (by kernel_rfl) (by simp) ?_
  refine AllReadyH.cons rfl (fun KK hK => ?_) AllReadyH.nil
  rw [if_pos (by rfl)]
  go_simp
  refine (same_yes K N A4 A6 Z.length c4 c6 Z _ (S4 hHeld.1) (S6 hHeld.1)).mono ?_
  rintro e w11 ⟨rfl, hb11⟩
  dsimp only
  refine hK.out _ _ (HSb.out _ _ hHeld hb11) (fun hHeld2 => ?_)
  clear hK KK hHeld hb11
  try simp only [Act.put, List.getElem_toArray, List.getElem_cons_succ, List.getElem_cons_zero, List.setIfInBounds_toArray, List.set_cons_zero, List.set_cons_succ]
  refine wpAnyH_take (i := 10) (v := ?v10) rfl (by kernel_rfl) (by kernel_rfl) (by kernel_rfl) (fun _ _ _ h => h) (Or.inl ⟨by rfl, ?y10⟩) (by assumption) ?n10
  case y10 => (intro W hSw; go_simp; try with_reducible rfl)
  try simp only [Act.put, List.getElem_toArray, List.getElem_cons_succ, List.getElem_cons_zero, List.setIfInBounds_toArray, List.set_cons_zero, List.set_cons_succ]
  refine wpAnyH_take (i := 11) (v := ?v11) rfl (by kernel_rfl) (by kernel_rfl) (by kernel_rfl) (fun _ _ _ h => h) (Or.inl ⟨by rfl, ?y11⟩) (by assumption) ?n11
  case y11 => (intro W hSw; go_simp; try with_reducible rfl)
  try simp only [Act.put, List.getElem_toArray, List.getElem_cons_succ, List.getElem_cons_zero, List.setIfInBounds_toArray, List.set_cons_zero, List.set_cons_succ]
  refine wpAnyH_take (i := 12) (v := ?v12) rfl (by kernel_rfl) (by kernel_rfl) (by kernel_rfl) (fun _ _ _ h => h) (Or.inl ⟨by rfl, ?y12⟩) (by assumption) ?n12
  case y12 => (intro W hSw; go_simp; try with_reducible rfl)
  try simp only [Act.put, List.getElem_toArray, List.getElem_cons_succ, List.getElem_cons_zero, List.setIfInBounds_toArray, List.set_cons_zero, List.set_cons_succ]
  refine wpAnyH_take (i := 13) (v := ?v13) rfl (by kernel_rfl) (by kernel_rfl) (by kernel_rfl) (fun _ _ _ h => h) (Or.inl ⟨by rfl, ?y13⟩) (by assumption) ?n13
  case y13 => (intro W hSw; go_simp; try with_reducible rfl)
  try simp only [Act.put, List.getElem_toArray, List.getElem_cons_succ, List.getElem_cons_zero, List.setIfInBounds_toArray, List.set_cons_zero, List.set_cons_succ]
  refine wpAnyH_take (i := 15) (v := ?v15) rfl (by kernel_rfl) (by kernel_rfl) (by kernel_rfl) (fun _ _ _ h => h) (Or.inl ⟨by rfl, ?y15⟩) (by assumption) ?n15
  case y15 => (intro W hSw; go_simp; try with_reducible rfl)
  try simp only [Act.put, List.getElem_toArray, List.getElem_cons_succ, List.getElem_cons_zero, List.setIfInBounds_toArray, List.set_cons_zero, List.set_cons_succ]
  refine wpAnyH_ready (rs := [14]) (by kernel_rfl) (by simp) ?_
  refine AllReadyH.cons rfl (fun KK hK => ?_) AllReadyH.nil
  rw [if_pos (by rfl)]
  go_simp
  refine (num18 E _).mono ?_
  rintro e w' ⟨rfl, rfl⟩
  dsimp only
  refine hK.out _ _ hHeld2 (fun hHeld => ?_)
  clear hK KK hHeld2
  try simp only [Act.put, List.getElem_toArray, List.getElem_cons_succ, List.getElem_cons_zero, List.setIfInBounds_toArray, List.set_cons_zero, List.set_cons_succ]
  refine wpAnyH_take (i := 16) (v := ?v16) rfl (by kernel_rfl) (by kernel_rfl) (by kernel_rfl) (fun _ _ _ h => h) (Or.inl ⟨by rfl, ?y16⟩) (by assumption) ?n16
  case y16 => (intro W hSw; go_simp; try with_reducible rfl)
  try simp only [Act.put, List.getElem_toArray, List.getElem_cons_succ, List.getElem_cons_zero, List.setIfInBounds_toArray, List.set_cons_zero, List.set_cons_succ]
  refine wpAnyH_take (i := 17) (v := ?v17) rfl (by kernel_rfl) (by kernel_rfl) (by kernel_rfl) (fun _ _ _ h => h) (Or.inl ⟨by rfl, ?y17⟩) (by assumption) ?n17
  case y17 => (intro W hSw; go_simp; try with_reducible rfl)
  try simp only [Act.put, List.getElem_toArray, List.getElem_cons_succ, List.getElem_cons_zero, List.setIfInBounds_toArray, List.set_cons_zero, List.set_cons_succ]
  refine wpAnyH_take (i := 18) (v := ?v18) rfl (by kernel_rfl) (by kernel_rfl) (by kernel_rfl) (fun _ _ _ h => h) (Or.inl ⟨by rfl, ?y18⟩) (by assumption) ?n18
  case y18 => (intro W hSw; go_simp; try with_reducible rfl)
  try simp only [Act.put, List.getElem_toArray, List.getElem_cons_succ, List.getElem_cons_zero, List.setIfInBounds_toArray, List.set_cons_zero, List.set_cons_succ]
  refine wpAnyH_take (i := 19) (v := ?v19) rfl (by kernel_rfl) (by kernel_rfl) (by kernel_rfl) (fun _ _ _ h => h) (Or.inl ⟨by rfl, ?y19⟩) (by assumption) ?n19
  case y19 => (intro W hSw; obtain ⟨q0, q1, q2⟩ := Sr hSw.1; go_simp; try with_reducible rfl)
  try simp only [Act.put, List.getElem_toArray, List.getElem_cons_succ, List.getElem_cons_zero, List.setIfInBounds_toArray, List.set_cons_zero, List.set_cons_succ]
  refine wpAnyH_take (i := 22) (v := ?v22) rfl (by kernel_rfl) (by kernel_rfl) (by kernel_rfl) (fun _ _ _ h => h) (Or.inl ⟨by rfl, ?y22⟩) (by assumption) ?n22
  case y22 => (intro W hSw; obtain ⟨q0, q1, q2⟩ := Sr hSw.1; go_simp; try with_reducible rfl)
  try simp only [Act.put, List.getElem_toArray, List.getElem_cons_succ, List.getElem_cons_zero, List.setIfInBounds_toArray, List.set_cons_zero, List.set_cons_succ]
  refine wpAnyH_ready (rs := [20]) (by kernel_rfl) (by simp) ?_
  refine AllReadyH.cons rfl (fun KK hK => ?_) AllReadyH.nil
  rw [if_pos (by rfl)]
  go_simp
  refine (answer_calls x xn xg _).mono ?_
  rintro e w12 ⟨v12, rfl, hg⟩
  obtain ⟨A12, c12, rfl, hr12⟩ := hg.reads
  have k12 : Rd w12 A12 (ansB x xn xg).length (ansB x xn xg) := ⟨hr12⟩
  dsimp only
  refine hK.out _ _ (HSb.out _ _ hHeld hg.2) (fun hHeld2 => ?_)
  clear hK KK hHeld
  refine wpAnyH_more (S2 := fun W => (S W ∧ Rd W A10 L (reqB k n bs)) ∧ Rd W A12 (ansB x xn xg).length (ansB x xn xg)) (fun _ h => h.1) _ _ _ _ ?_
  have hHeld := And.intro hHeld2 k12
  have HSb := Lib.hid (fun (W W' : World) (h : (S W ∧ Rd W A10 L (reqB k n bs)) ∧ Rd W A12 (ansB x xn xg).length (ansB x xn xg)) (b : Below W.heap.size W W') => show (S W' ∧ Rd W' A10 L (reqB k n bs)) ∧ Rd W' A12 (ansB x xn xg).length (ansB x xn xg) from ⟨HSb.out _ _ h.1 b, h.2.below b⟩)
  clear hHeld2 k12 hg hr12
  try simp only [Act.put, List.getElem_toArray, List.getElem_cons_succ, List.getElem_cons_zero, List.setIfInBounds_toArray, List.set_cons_zero, List.set_cons_succ]
  refine wpAnyH_take (i := 21) (v := ?v21) rfl (by kernel_rfl) (by kernel_rfl) (by kernel_rfl) (fun _ _ _ h => h) (Or.inl ⟨by rfl, ?y21⟩) (by assumption) ?n21
  case y21 => (intro W hSw; have q0 := hSw.2.conv c12; go_simp; try with_reducible rfl)
  try simp only [Act.put, List.getElem_toArray, List.getElem_cons_succ, List.getElem_cons_zero, List.setIfInBounds_toArray, List.set_cons_zero, List.set_cons_succ]
  refine wpAnyH_ready (rs := [23]) (by kernel_rfl) (by simp) ?_
  refine AllReadyH.cons rfl (fun KK hK => ?_) AllReadyH.nil
  rw [if_pos (by rfl)]
  go_simp
  refine (ansRef_calls x xn xg _).mono ?_
  rintro e w13 ⟨v13, rfl, hg⟩
  obtain ⟨A13, c13, rfl, hr13⟩ := hg.reads
  have k13 : Rd w13 A13 (ansB x xn xg).length (ansB x xn xg) := ⟨hr13⟩
  dsimp only
  refine hK.out _ _ (HSb.out _ _ hHeld hg.2) (fun hHeld2 => ?_)
  clear hK KK hHeld
  refine wpAnyH_more (S2 := fun W => ((S W ∧ Rd W A10 L (reqB k n bs)) ∧ Rd W A12 (ansB x xn xg).length (ansB x xn xg)) ∧ Rd W A13 (ansB x xn xg).length (ansB x xn xg)) (fun _ h => h.1) _ _ _ _ ?_
  have hHeld := And.intro hHeld2 k13
  clear hHeld2 k13 hg hr13 HSb
  try simp only [Act.put, List.getElem_toArray, List.getElem_cons_succ, List.getElem_cons_zero, List.setIfInBounds_toArray, List.set_cons_zero, List.set_cons_succ]
  refine wpAnyH_take (i := 24) (v := ?v24) rfl (by kernel_rfl) (by kernel_rfl) (by kernel_rfl) (fun _ _ _ h => h) (Or.inl ⟨by rfl, ?y24⟩) (by assumption) ?n24
  case y24 => (intro W hSw; have q0 := hSw.2.conv c13; go_simp; try with_reducible rfl)
  try simp only [Act.put, List.getElem_toArray, List.getElem_cons_succ, List.getElem_cons_zero, List.setIfInBounds_toArray, List.set_cons_zero, List.set_cons_succ]
  refine wpAnyH_take (i := 25) (v := ?v25) rfl (by kernel_rfl) (by kernel_rfl) (by kernel_rfl) (fun _ _ _ h => h) (Or.inl ⟨by rfl, ?y25⟩) (by assumption) ?n25
  case y25 => (intro W hSw; go_simp; try with_reducible rfl)
  try simp only [Act.put, List.getElem_toArray, List.getElem_cons_succ, List.getElem_cons_zero, List.setIfInBounds_toArray, List.set_cons_zero, List.set_cons_succ]
  refine wpAnyH_take (i := 26) (v := ?v26) rfl (by kernel_rfl) (by kernel_rfl) (by kernel_rfl) (fun _ _ _ h => h) (Or.inl ⟨by rfl, ?y26⟩) (by assumption) ?n26
  case y26 => (intro W hSw; go_simp; try with_reducible rfl)
  try simp only [Act.put, List.getElem_toArray, List.getElem_cons_succ, List.getElem_cons_zero, List.setIfInBounds_toArray, List.set_cons_zero, List.set_cons_succ]
  refine wpAnyH_take (i := 27) (v := ?v27) rfl (by kernel_rfl) (by kernel_rfl) (by kernel_rfl) (fun _ _ _ h => h) (Or.inl ⟨by rfl, ?y27⟩) (by assumption) ?n27
  case y27 => (intro W hSw; go_simp; try with_reducible rfl)
  try simp only [Act.put, List.getElem_toArray, List.getElem_cons_succ, List.getElem_cons_zero, List.setIfInBounds_toArray, List.set_cons_zero, List.set_cons_succ]
  refine wpAnyH_take (i := 28) (v := ?v28) rfl (by kernel_rfl) (by kernel_rfl) (by kernel_rfl) (fun _ _ _ h => h) (Or.inl ⟨by rfl, ?y28⟩) (by assumption) ?n28
  case y28 => (intro W hSw; obtain ⟨q0, q1, q2⟩ := Ss hSw.1.1.1; go_simp; try with_reducible rfl)
  try simp only [Act.put, List.getElem_toArray, List.getElem_cons_succ, List.getElem_cons_zero, List.setIfInBounds_toArray, List.set_cons_zero, List.set_cons_succ]
  refine wpAnyH_take (i := 29) (v := ?v29) rfl (by kernel_rfl) (by kernel_rfl) (by kernel_rfl) (fun _ _ _ h => h) (Or.inl ⟨by rfl, ?y29⟩) (by assumption) ?n29
  case y29 => (intro W hSw; obtain ⟨q0, q1, q2⟩ := St hSw.1.1.1; go_simp; try with_reducible rfl)
  try simp only [Act.put, List.getElem_toArray, List.getElem_cons_succ, List.getElem_cons_zero, List.setIfInBounds_toArray, List.set_cons_zero, List.set_cons_succ]
  refine wpAnyH_take (i := 30) (v := ?v30) rfl (by kernel_rfl) (by kernel_rfl) (by kernel_rfl) (fun _ _ _ h => h) (Or.inl ⟨by rfl, ?y30⟩) (by assumption) ?n30
  case y30 => (intro W hSw; go_simp; try with_reducible rfl)
  try simp only [Act.put, List.getElem_toArray, List.getElem_cons_succ, List.getElem_cons_zero, List.setIfInBounds_toArray, List.set_cons_zero, List.set_cons_succ]
  refine wpAnyH_take (i := 31) (v := ?v31) rfl (by kernel_rfl) (by kernel_rfl) (by kernel_rfl) (fun _ _ _ h => h) (Or.inl ⟨by rfl, ?y31⟩) (by assumption) ?n31
  case y31 => (intro W hSw; go_simp; try with_reducible rfl)
  try simp only [Act.put, List.getElem_toArray, List.getElem_cons_succ, List.getElem_cons_zero, List.setIfInBounds_toArray, List.set_cons_zero, List.set_cons_succ]
  refine wpAnyH_take (i := 32) (v := ?v32) rfl (by kernel_rfl) (by kernel_rfl) (by kernel_rfl) (fun _ _ _ h => h) (Or.inl ⟨by rfl, ?y32⟩) (by assumption) ?n32
  case y32 => (intro W hSw; go_simp; try with_reducible rfl)
  try simp only [Act.put, List.getElem_toArray, List.getElem_cons_succ, List.getElem_cons_zero, List.setIfInBounds_toArray, List.set_cons_zero, List.set_cons_succ]
  refine wpAnyH_take (i := 33) (v := ?v33) rfl (by kernel_rfl) (by kernel_rfl) (by kernel_rfl) (fun _ _ _ h => h) (Or.inl ⟨by rfl, ?y33⟩) (by assumption) ?n33
  case y33 => (intro W hSw; go_simp; try with_reducible rfl)
  try simp only [Act.put, List.getElem_toArray, List.getElem_cons_succ, List.getElem_cons_zero, List.setIfInBounds_toArray, List.set_cons_zero, List.set_cons_succ]
  refine wpAnyH_take (i := 35) (v := ?v35) rfl (by kernel_rfl) (by kernel_rfl) (by kernel_rfl) (fun _ _ _ h => h) (Or.inl ⟨by rfl, ?y35⟩) (by assumption) ?n35
  case y35 => (intro W hSw; go_simp; try with_reducible rfl)
  try simp only [Act.put, List.getElem_toArray, List.getElem_cons_succ, List.getElem_cons_zero, List.setIfInBounds_toArray, List.set_cons_zero, List.set_cons_succ]
  refine wpAnyH_ready (rs := [34]) (by kernel_rfl) (by simp) ?_
  refine AllReadyH.cons rfl (fun KK hK => ?_) AllReadyH.nil
  rw [if_pos (by rfl)]
  go_simp
  refine (num18 E2 _).mono ?_
  rintro e w' ⟨rfl, rfl⟩
  dsimp only
  refine hK.out _ _ hHeld (fun hHeld2 => ?_)
  clear hK KK hHeld
  try simp only [Act.put, List.getElem_toArray, List.getElem_cons_succ, List.getElem_cons_zero, List.setIfInBounds_toArray, List.set_cons_zero, List.set_cons_succ]
  refine wpAnyH_take (i := 36) (v := ?v36) rfl (by kernel_rfl) (by kernel_rfl) (by kernel_rfl) (fun _ _ _ h => h) (Or.inl ⟨by rfl, ?y36⟩) (by assumption) ?n36
  case y36 => (intro W hSw; go_simp; try with_reducible rfl)
  try simp only [Act.put, List.getElem_toArray, List.getElem_cons_succ, List.getElem_cons_zero, List.setIfInBounds_toArray, List.set_cons_zero, List.set_cons_succ]
  refine wpAnyH_take (i := 37) (v := ?v37) rfl (by kernel_rfl) (by kernel_rfl) (by kernel_rfl) (fun _ _ _ h => h) (Or.inl ⟨by rfl, ?y37⟩) (by assumption) ?n37
  case y37 => (intro W hSw; go_simp; try with_reducible rfl)
  try simp only [Act.put, List.getElem_toArray, List.getElem_cons_succ, List.getElem_cons_zero, List.setIfInBounds_toArray, List.set_cons_zero, List.set_cons_succ]
  refine wpAnyH_done (by kernel_rfl) ?_ _
  refine NoPanic.normal ?_
  have hb14 := SB hHeld2.1.1.1
  have hrx := SX hHeld2.1.1.1
  obtain ⟨q0, q1, q2⟩ := Sq hHeld2.1.1.1
  have hra := SA hHeld2.1.1.1
  have HB14 := Lib.hid hb14
  have HRX := Lib.hid hrx
  have HRA := Lib.hid hra
  have HQ := Lib.hid (And.intro q0 (And.intro q1 q2))
  clear hHeld2 SX Sa Sc Sr Ss St S4 S6 SA SB hb14 hrx hra q0 q1 q2 HRE HRK
  by_cases h0 : L = 0
  · have h0' : ((L : Int) == 0) = true := by simp [h0]
    clear h0
    go_wp2_with fail
    go_ret
    exact ⟨rfl, HB14.out⟩
  · have h0' : ((L : Int) == 0) = false := by simp [h0]
    have hyes : right k n bs.length = true := by
      cases hc : right k n bs.length with
      | true => rfl
      | false =>
        exfalso
        apply h0
        rw [← HL.out]
        unfold reqB
        rw [hc]
        rfl
    have hbk : readReq (reqB k n bs) = some (k, n, bs) := by
      unfold reqB
      rw [if_pos hyes]
      exact read_back hs hyes
    have HBK := Lib.hid hbk
    clear h0 hyes hbk
    go_wp2_with fail
    refine (read_calls X L cx (reqB k n bs) _ HRX.out.out (reqB_small hs) (by omega)).mono ?_
    rw [HBK.out]
    rintro e w15 ⟨v15, rfl, hg⟩
    obtain ⟨A15, c15, rfl, hr15⟩ := hg.reads
    have hr15' : Rd w15 A15 m bs := ⟨by have := hr15; rwa [HML.out] at this⟩
    rw [HML.out]
    have hb15 := hg.2
    have hq := HQ.out
    have hh15 := heap_alloc_new w15 (.cells #[.int .i64 k, .int .i64 n, .slice A15 m c15] 25)
    have hbl := below_alloc1 w15 (.cells #[.int .i64 k, .int .i64 n, .slice A15 m c15] 25)
    have HR15 := Lib.hid (hr15'.below hbl)
    have HRA2 := Lib.hid ((HRA.out.below hb15).below hbl)
    have p0 := pw_cell_below (hb15.trans (hbl.mono hb15.size)) hq.1
    have p1 := pw_cell_below (hb15.trans (hbl.mono hb15.size)) hq.2.1
    have p2 := pw_cell_below (hb15.trans (hbl.mono hb15.size)) hq.2.2
    obtain ⟨d0, d1, d2⟩ := cells_of hh15
    have HB15 := Lib.hid (HB14.out.trans ((hb15.trans (hbl.mono hb15.size)).mono HB14.out.size))
    clear hg hr15 hr15' hb15 hq hh15 hbl HRA HRX HB14
    go_wp2_with fail
    refine (num18 0 _).mono ?_
    rintro e w' ⟨rfl, rfl⟩
    go_wp2_with fail
    refine (same_yes k n A15 A m c15 c bs _ HR15.out HRA2.out).mono ?_
    rintro e w16 ⟨rfl, hb16⟩
    go_wp2_with fail
    go_ret
    exact ⟨rfl, HB15.out.trans (hb16.mono HB15.out.size)⟩

theorem tells_walk (k n : Int) (A : Option Addr) (m c : Nat) (zs : List Int) (x xn xg : Int) (C : Option Addr) (q d : Nat) (ys : List Int) (w : World) (h : IsBytes w A m c zs) (hq : IsBytes w C q d ys) :
    Calls Try.prog 4 #[.agg #[.int .i64 k, .int .i64 n, .slice A m c], .agg #[.int .i64 x, .int .i64 xn, .int .i64 xg], .slice C q d] w fun e w' => e = .returned (.bool true) ∧ Below w.heap.size w w' := by
  obtain ⟨l, rfl, hr, _, hw, _⟩ := ReadsInt.ofRowC h
  obtain ⟨p, rfl, hr2, _, hv, hc2⟩ := ReadsInt.ofRowC hq
  by_cases hl : 1200 < l.length ∨ 1200 < p.length
  · exact tells_out k n A _ c x xn xg C _ d w hl
  · exact tells_in k n A _ c l x xn xg C _ d p w hr (small_of hw) hr2 (small_of hv) (by omega) (by omega) hc2
end Go.Proofs.Ytehlcljachkgdaa.Req
