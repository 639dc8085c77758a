/- Walk: the reference's Do, of a boot. -/
import Derived.Test.YtajflegjpnmloaaBootGo
namespace Go.Proofs.Ytajflegjpnmloaa.Boot
open Go.RowKit Go.Proofs.YtajflegjpnmloaaW.PrintWords Go.Proofs.YtajflegjpnmloaaW.PrintLast Go.Proofs.Ytajflegjpnmloaa.Kit
theorem ldF (p : Addr) : loadVar 67 p = ld 67 p := rfl
theorem info67 : (Try.prog.info? 67).map (·.size) = some 35 := by kernel_rfl
theorem ldF_run (W : World) (g o : Nat) (h : o + 35 ≤ (Kit.rowAt W g).size) : (ld 67 ⟨g, o, none⟩).run Try.prog W = .ok (.agg ((Kit.rowAt W g).extract o (o + 35))) W :=
  ld_run 67 35 Try.underlying67 rfl info67 W g o h (by decide)
attribute [local go_sem ↓] ldI ldM ldF stI stM stR ldR
attribute [local go_sem] ldI_run ldM_run ldR_run ldF_run
set_option linter.unusedSimpArgs false

theorem wf64 {n : Int} (h0 : -9223372036854775808 ≤ n) (h1 : n ≤ 9223372036854775807) : (Lit.int .i64 n).wf = true := by
  simp [Lit.wf, IntKind.min, IntKind.max, IntKind.signed, IntKind.bits]
  omega
/-- what is kept behind a boot may be kept -/
theorem Met.next_ok {m : Met} (hm : m.Ok) (hr : m.right = true) : m.next.Ok := by
  unfold Met.next Met.setOth
  split
  · exact hm
  · split
    · have := (Met.right_facts hr).2
      unfold Met.ranges at this
      exact ⟨hm.i0, hm.i1, hm.co, hm.wa, hm.wmn, hm.wph, hm.wgot, wf64 (n := m.tr - 1) (by omega) (by omega)⟩
    · split
      · exact ⟨hm.i0, Img.zero_ok, hm.co, hm.wa, hm.wmn, rfl, hm.wgot, hm.wtr⟩
      · exact ⟨Img.zero_ok, hm.i1, hm.co, hm.wa, hm.wmn, rfl, hm.wgot, hm.wtr⟩
/-- the boxes of the reference's Do -/
structure Boxes5 (w W : World) (cs q F : Array Value) : Prop where
  m : Blk W 58 w.heap.size cs
  q : Blk W 43 (w.heap.size + 1) q
  f : Blk W 67 (w.heap.size + 1 + 1) F
  r : Blk W 58 (w.heap.size + 1 + 1 + 1) Try.zeroCells58
  n : Blk W 63 (w.heap.size + 1 + 1 + 1 + 1) #[.int .i64 0, .int .i64 0, .int .i64 0]
  below : Below w.heap.size w W
theorem Boxes5.new (w : World) (cs q F : Array Value) : Boxes5 w (((((w.alloc (.cells cs 58)).alloc (.cells q 43)).alloc (.cells F 67)).alloc (.cells Try.zeroCells58 58)).alloc (.cells #[.int .i64 0, .int .i64 0, .int .i64 0] 63)) cs q F :=
  ⟨((((Blk.new w _ cs _ rfl).alloc _).alloc _).alloc _).alloc _, (((Blk.new _ _ q _ (by simp)).alloc _).alloc _).alloc _, ((Blk.new _ _ F _ (by simp)).alloc _).alloc _, (Blk.new _ _ _ _ (by simp)).alloc _, Blk.new _ _ _ _ (by simp), ((((below_alloc1 w _).alloc (by simp) _).alloc (by simp; omega) _).alloc (by simp; omega) _).alloc (by simp; omega) _⟩
theorem Boxes5.step {w W W' : World} {cs q F : Array Value} (h : Boxes5 w W cs q F) (k : Below W.heap.size W W') : Boxes5 w W' cs q F :=
  ⟨h.m.below k, h.q.below k, h.f.below k, h.r.below k, h.n.below k, h.below.trans (k.mono h.below.size)⟩

set_option maxHeartbeats 8000000 in
set_option maxRecDepth 100000 in
theorem refdo (m : Met) (hm : m.Ok) (hr : m.right = true) (F : Array Value) (hF : F[34]? = some (.bool false)) (hFs : F.size = 35) (w : World) :
    Calls Try.prog 40 #[.agg m.enc.toArray, .agg #[.int .i64 5, .int .i64 0, .slice none 0 0], .agg F, .int .i64 1] w fun e w' => e = .returned (.tuple #[.agg m.next.enc.toArray, .agg #[.int .i64 0, .int .i64 (m.aft 0), .int .i64 0]]) ∧ Below w.heap.size w w' := by
  have hR : ∀ w : World, Calls Try.prog 37 #[.agg m.enc.toArray] w fun e w' => e = .returned (.bool true) ∧ Below w.heap.size w w' := fun w => by
    rw [← hr]; exact refright_m m hm w
  have hD := fun w => refboot m hm hr F hF hFs w
  obtain ⟨cs, hcs⟩ : ∃ cs, cs = m.enc.toArray := ⟨_, rfl⟩
  obtain ⟨c2, hc2⟩ : ∃ c2, c2 = m.next.enc.toArray := ⟨_, rfl⟩
  obtain ⟨aft, haft⟩ : ∃ a, a = m.aft 0 := ⟨_, rfl⟩
  rw [← hcs] at hR
  rw [← hcs, ← hc2, ← haft] at hD
  rw [← hcs, ← hc2, ← haft]
  have HR := Lib.hid hR
  have HD := Lib.hid hD
  have hsz : cs.size = 107 := by rw [hcs]; simp [Met.enc_length hm]
  have hone : cs.toList.all (·.oneCell') = true := by rw [hcs]; exact enc_one m
  have hone2 : c2.toList.all (·.oneCell') = true := by rw [hc2]; exact enc_one _
  have hok : m.next.Ok := Met.next_ok hm hr
  have hsz2 : c2.size = 107 := by rw [hc2]; simp [Met.enc_length hok]
  have le0 : 0 + 107 ≤ cs.size := by omega
  have e107 : cs.extract 0 107 = cs := by rw [← hsz]; exact Array.extract_size
  have leF : 0 + 35 ≤ F.size := by omega
  have e35 : F.extract 0 35 = F := by rw [← hFs]; exact Array.extract_size
  have HO := Lib.hid hone
  have HO2 := Lib.hid hone2
  have HS2 := Lib.hid hsz2
  clear hcs hc2 haft hR hD hF hFs hone hone2 hsz2 hsz hok
  go_enter Try.func40, Try.ntmps40
  go_upto_region 1 with fail
  have hB := Boxes5.new w cs #[.int .i64 5, .int .i64 0, .slice none 0 0] F
  generalize (((((w.alloc (.cells cs 58)).alloc (.cells #[.int .i64 5, .int .i64 0, .slice none 0 0] 43)).alloc (.cells F 67)).alloc (.cells Try.zeroCells58 58)).alloc (.cells #[.int .i64 0, .int .i64 0, .int .i64 0] 63)) = W0 at hB ⊢
  have r0 := hB.m.row
  have HB := Lib.hid hB
  clear hB
  go_wp2_with fail
  refine (HR.out _).mono ?_
  rintro e w1 ⟨rfl, hb⟩
  have HB := Lib.hid (HB.out.step hb)
  have r1 := HB.out.m.row
  have rf := HB.out.f.row
  have q0 := HB.out.q.cell 0
  clear r0 hb
  go_wp2_with fail
  refine (HD.out _).mono ?_
  rintro e w2 ⟨rfl, hb⟩
  have HB := Lib.hid (HB.out.step hb)
  clear r1 rf q0 hb
  have hst1 := HB.out.r.store 58 c2 (by rw [HS2.out]; exact info58) (by rw [HS2.out]; exact z58) HO2.out
  have hst2 := (HB.out.n.set_other (g' := w.heap.size + 1 + 1 + 1) c2 (by omega)).store 63 #[.int .i64 0, .int .i64 aft, .int .i64 0] info63 rfl rfl
  have b58 := (HB.out.r.set c2).set_other (g' := w.heap.size + 1 + 1 + 1 + 1) #[.int .i64 0, .int .i64 aft, .int .i64 0] (by omega)
  have b63 := (HB.out.n.set_other (g' := w.heap.size + 1 + 1 + 1) c2 (by omega)).set #[.int .i64 0, .int .i64 aft, .int .i64 0]
  have hbel := below_setRow (g := w.heap.size + 1 + 1 + 1 + 1) (below_setRow (g := w.heap.size + 1 + 1 + 1) HB.out.below (by omega) c2) (by omega) #[.int .i64 0, .int .i64 aft, .int .i64 0]
  have B58 := Lib.hid b58
  have B63 := Lib.hid b63
  have HBEL := Lib.hid hbel
  clear b58 b63 hbel
  go_wp2_with fail
  exact bodyPost_ret (v := .tuple #[.agg c2, .agg #[.int .i64 0, .int .i64 aft, .int .i64 0]]) (results_cc Try.results40 _ _ _ _ _ _ _ _ (0, 0) (0, 0) _ _ rfl B58.out.heap Try.underlying58 rfl (by rw [HS2.out]; exact info58) rfl B63.out.heap Try.underlying63 rfl info63) rfl ⟨rfl, HBEL.out⟩

theorem zero_none : Img.zero.none = true := by simp [Img.none]
theorem zero_may : Img.zero.may = true := by unfold Img.may; rw [zero_none]; rfl
/-- what is kept behind a boot is right -/
theorem Met.next_right {m : Met} (hr : m.right = true) : m.next.right = true := by
  unfold Met.next
  split
  · exact hr
  · rename_i h3
    have h3 : m.ph = 3 := by simpa using h3
    obtain ⟨ha, hg⟩ := Met.right_facts hr
    unfold Met.ranges at hg
    have hr2 := hr
    unfold Met.right at hr2
    simp only [Bool.and_eq_true] at hr2
    obtain ⟨k0, k1, k2, k3, k4, k5, k6⟩ := hr2
    unfold Met.phase phaseB at k6
    rw [if_neg (by omega), if_neg (by omega), if_neg (by omega), if_pos h3] at k6
    simp only [Bool.and_eq_true, decide_eq_true_eq] at k6
    split
    · rename_i ht
      unfold Met.right
      simp only [Bool.and_eq_true]
      refine ⟨k0, k1, k2, k3, k4, decide_eq_true (by unfold Met.ranges; simp only; omega), ?_⟩
      unfold Met.phase phaseB
      simp only
      rw [if_neg (by omega), if_neg (by omega), if_neg (by omega), if_pos h3]
      simp only [Bool.and_eq_true, decide_eq_true_eq]
      exact k6
    · rename_i ht
      unfold Met.setOth
      split
      · rename_i h0
        unfold Met.right
        simp only [Bool.and_eq_true]
        refine ⟨k0, k1, zero_may, k3, ?_, decide_eq_true (by unfold Met.ranges; simp only; omega), ?_⟩
        · unfold Met.act at k4 ⊢
          simp only
          rw [if_pos h0] at k4 ⊢
          exact k4
        · unfold Met.phase phaseB
          simp only [if_true, Bool.and_eq_true, decide_eq_true_eq]
          exact ⟨k6.1, k6.2.1, by omega⟩
      · rename_i h0
        unfold Met.right
        simp only [Bool.and_eq_true]
        refine ⟨k0, zero_may, k2, k3, ?_, decide_eq_true (by unfold Met.ranges; simp only; omega), ?_⟩
        · unfold Met.act at k4 ⊢
          simp only
          rw [if_neg h0] at k4 ⊢
          exact k4
        · unfold Met.phase phaseB
          simp only [if_true, Bool.and_eq_true, decide_eq_true_eq]
          exact ⟨k6.1, k6.2.1, by omega⟩
/-- behind a boot, a boot tells what one more would have told -/
theorem Met.next_aft {m : Met} (hr : m.right = true) (n : Int) (hn : 0 ≤ n) : m.next.aft n = m.aft (n + 1) := by
  obtain ⟨ha, hg⟩ := Met.right_facts hr
  unfold Met.ranges at hg
  unfold Met.next
  split
  · rename_i h3
    unfold Met.aft
    rw [if_neg (fun h => h3 h.1), if_neg (fun h => h3 h.1)]
  · rename_i h3
    have h3 : m.ph = 3 := by simpa using h3
    split
    · rename_i ht
      unfold Met.aft
      simp only
      by_cases h : n < m.tr - 1
      · rw [if_pos ⟨h3, h⟩, if_pos ⟨h3, by omega⟩]
      · rw [if_neg (fun k => h k.2), if_neg (fun k => by have := k.2; omega)]
    · rename_i ht
      have e : (m.setOth .zero).a = m.a := by unfold Met.setOth; split <;> rfl
      unfold Met.aft
      simp only
      rw [if_neg (fun k => by have := k.1; omega), if_neg (fun k => by have := k.2; omega), e]
def Met.nth (m : Met) : Nat → Met
  | 0 => m
  | i + 1 => (m.nth i).next
theorem Met.nth_right {m : Met} (hm : m.Ok) (hr : m.right = true) : ∀ i, (m.nth i).right = true ∧ (m.nth i).Ok
  | 0 => ⟨hr, hm⟩
  | i + 1 => by
    obtain ⟨h1, h2⟩ := Met.nth_right hm hr i
    exact ⟨Met.next_right h1, Met.next_ok h2 h1⟩
theorem Met.nth_aft {m : Met} (hm : m.Ok) (hr : m.right = true) : ∀ (i : Nat) (n : Int), 0 ≤ n → (m.nth i).aft n = m.aft (n + i)
  | 0, n, _ => by simp [Met.nth]
  | i + 1, n, hn => by
    have h := Met.nth_aft hm hr i (n + 1) (by omega)
    rw [Met.nth, Met.next_aft (Met.nth_right hm hr i).1 n hn, h]
    congr 1
    omega
end Go.Proofs.Ytajflegjpnmloaa.Boot
