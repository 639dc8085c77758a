/- Walk: BootGoes. -/
import Derived.Test.YtajflegjpnmloaaBootDo
import Derived.Test.YtajflegjpnmloaaBootEnds
import Derived.OrdersHeld
import Derived.Deep.RegionHeld
namespace Go.Proofs.Ytajflegjpnmloaa.Boot
open Go.RowKit Go.Proofs.YtajflegjpnmloaaW.PrintWords Go.Proofs.YtajflegjpnmloaaW.PrintLast Go.Proofs.Ytajflegjpnmloaa.Kit
attribute [local go_sem ↓] ldI ldM ldF stI stM stR ldR
attribute [local go_sem] ldI_run ldM_run ldR_run ldF_run
set_option linter.unusedSimpArgs false

set_option maxHeartbeats 8000000 in
set_option maxRecDepth 100000 in
theorem goes_not (m : Met) (hm : m.Ok) (n : Int) (h : m.right = false ∨ n < 0 ∨ 10 < n) (w : World) :
    Calls Try.prog 13 #[.agg m.enc.toArray, .int .i64 n] w fun e w' => e = .returned (.bool true) ∧ Below w.heap.size w w' := by
  have hR := fun w => refright_m m hm w
  obtain ⟨cs, hcs⟩ : ∃ cs, cs = m.enc.toArray := ⟨_, rfl⟩
  have hsz : cs.size = 107 := by rw [hcs]; simp [Met.enc_length hm]
  rw [← hcs] at hR ⊢
  have le0 : 0 + 107 ≤ cs.size := by omega
  have e107 : cs.extract 0 107 = cs := by rw [← hsz]; exact Array.extract_size
  obtain ⟨r, hr⟩ : ∃ r, r = m.right := ⟨_, rfl⟩
  rw [← hr] at hR h
  have HR := Lib.hid hR
  clear hR hcs hr hsz
  go_enter Try.func13, Try.ntmps13
  go_wp2_with fail
  refine (live23 _).mono ?_
  rintro e w1 ⟨rfl, hb⟩
  have hB := (Blk.new w 58 cs _ rfl).below hb
  have r0 := hB.row
  have HB := Lib.hid ((below_alloc1 w _).trans (hb.mono (below_alloc1 w _).size))
  clear hB hb
  go_wp2_with fail
  refine (HR.out _).mono ?_
  rintro e w2 ⟨rfl, hb⟩
  have HB2 := Lib.hid (HB.out.trans (hb.mono HB.out.size))
  clear r0 hb
  cases r with
  | false =>
    go_wp2_with fail
    go_ret
    exact ⟨rfl, HB2.out⟩
  | true =>
    have h' : n < 0 ∨ 10 < n := by rcases h with h | h; · cases h
                                   · exact h
    clear h
    rcases h' with h | h
    · go_wp2_with fail
      go_ret
      exact ⟨rfl, HB2.out⟩
    · have h0 : ¬ n < 0 := by omega
      go_wp2_with fail
      go_ret
      exact ⟨rfl, HB2.out⟩

/-- what the loop keeps -/
structure Goes (w W : World) (g : Nat) (m : Met) (k : Nat) : Prop where
  bm : Blk W 58 w.heap.size m.enc.toArray
  bx : Blk W 58 g (m.nth k).enc.toArray
  below : Below w.heap.size w W
  lt : w.heap.size < g
theorem Goes.step {w W W' : World} {g : Nat} {m : Met} {k : Nat} (h : Goes w W g m k) (b : Below W.heap.size W W') : Goes w W' g m k :=
  ⟨h.bm.below b, h.bx.below b, h.below.trans (b.mono h.below.size), h.lt⟩
theorem Goes.drew {w W : World} {g : Nat} {m : Met} {k : Nat} (h : Goes w W g m k) : Goes w W.drew g m k := ⟨h.bm.drew, h.bx.drew, h.below.drew, h.lt⟩

set_option maxHeartbeats 20000000 in
set_option maxRecDepth 100000 in
theorem goes_in (m : Met) (hm : m.Ok) (hr : m.right = true) (n : Nat) (hn : n ≤ 10) (w : World) :
    Calls Try.prog 13 #[.agg m.enc.toArray, .int .i64 n] w fun e w' => e = .returned (.bool true) ∧ Below w.heap.size w w' := by
  have hR : ∀ w : World, Calls Try.prog 37 #[.agg m.enc.toArray] w fun e w' => e = .returned (.bool true) ∧ Below w.heap.size w w' := fun w => by
    rw [← hr]; exact refright_m m hm w
  have hsz : m.enc.toArray.size = 107 := by simp [Met.enc_length hm]
  have le0 : 0 + 107 ≤ m.enc.toArray.size := by omega
  have e107 : m.enc.toArray.extract 0 107 = m.enc.toArray := by rw [← hsz]; exact Array.extract_size
  have HR := Lib.hid hR
  have HM := Lib.hid hm
  have HRT := Lib.hid hr
  have hone := enc_one m
  have HO := Lib.hid hone
  have HSZ := Lib.hid hsz
  clear hR hm hr hone hsz
  obtain ⟨cs, hcs⟩ : ∃ cs, cs = m.enc.toArray := ⟨_, rfl⟩
  rw [← hcs] at HR le0 e107 HSZ ⊢
  have HC := Lib.hid hcs
  clear hcs
  go_enter Try.func13, Try.ntmps13
  go_wp2_with fail
  refine (live23 _).mono ?_
  rintro e w1 ⟨rfl, hb⟩
  have hB := (Blk.new w 58 cs _ rfl).below hb
  have r0 := hB.row
  have HBX := Lib.hid hB
  have HB := Lib.hid ((below_alloc1 w _).trans (hb.mono (below_alloc1 w _).size))
  clear hB hb
  go_wp2_with fail
  refine (HR.out _).mono ?_
  rintro e w2 ⟨rfl, hb⟩
  have HBX := Lib.hid (HBX.out.below hb)
  have HB := Lib.hid (HB.out.trans (hb.mono HB.out.size))
  have r1 := HBX.out.row
  have hst := (Blk.new w2 58 Try.zeroCells58 _ rfl).store 58 cs (by rw [HSZ.out]; exact info58) (by rw [HSZ.out]; exact z58) (by rw [HC.out]; exact HO.out)
  have rA := (HBX.out.alloc (.cells Try.zeroCells58 58)).row
  have hG : Goes w ((w2.alloc (.cells Try.zeroCells58 58)).setRow w2.heap.size cs) w2.heap.size m 0 := by
    have hlt : w.heap.size < w2.heap.size := HBX.out.lt
    have h1 := (HBX.out.alloc (.cells Try.zeroCells58 58)).set_other (g' := w2.heap.size) cs (by omega)
    have h2 := (Blk.new w2 58 Try.zeroCells58 _ rfl).set cs
    refine ⟨by rw [← HC.out]; exact h1, by rw [show m.nth 0 = m from rfl, ← HC.out]; exact h2, below_setRow (HB.out.trans ((below_alloc1 w2 _).mono HB.out.size)) HB.out.size cs, hlt⟩
  have HG := Lib.hid hG
  clear r0 hb hG
  go_wp2_with fail
  go_loopw [7] (fun i wr => ∃ k : Nat, k ≤ n + 1 ∧ i = .int .i64 k ∧ Goes w wr w2.heap.size m k) (fun i _ => n + 1 - (intOf i).toNat)
  case atStart => exact ⟨0, Nat.zero_le _, rfl, HG.out⟩
  case round =>
    obtain ⟨k, hk, rfl, hg⟩ := hrel
    have HG := Lib.hid hg
    clear hg
    by_cases hlt : k ≤ n
    · obtain ⟨hkr, hko⟩ := Met.nth_right HM.out HRT.out k
      have hp := fun w => pick_m (m.nth k) hko hkr w
      have haf := Met.nth_aft HM.out HRT.out k 0 (Int.le_refl _)
      rw [Int.zero_add] at haf
      rw [haf] at hp
      have ha := fun w => after_m m HM.out HRT.out k (by omega) w
      have hd := fun w => refdo (m.nth k) hko hkr #[.bool false, .bool false, .int .u8 0, .int .u8 0, .int .u8 0, .int .u8 0, .int .u8 0, .int .u8 0, .int .u8 0, .int .u8 0, .int .u8 0, .int .u8 0, .int .u8 0, .int .u8 0, .int .u8 0, .int .u8 0, .int .u8 0, .int .u8 0, .int .u8 0, .int .u8 0, .int .u8 0, .int .u8 0, .int .u8 0, .int .u8 0, .int .u8 0, .int .u8 0, .int .u8 0, .int .u8 0, .int .u8 0, .int .u8 0, .int .u8 0, .int .u8 0, .int .u8 0, .int .u8 0, .bool false] rfl rfl w
      have hnx : (m.nth k).next = m.nth (k + 1) := rfl
      rw [haf, hnx] at hd
      rw [← HC.out] at ha
      obtain ⟨ck, hck⟩ : ∃ ck, ck = (m.nth k).enc.toArray := ⟨_, rfl⟩
      obtain ⟨cn, hcn⟩ : ∃ cn, cn = (m.nth (k + 1)).enc.toArray := ⟨_, rfl⟩
      have hks : ck.size = 107 := by rw [hck]; simp [Met.enc_length hko]
      have hns : cn.size = 107 := by rw [hcn]; simp [Met.enc_length (Met.nth_right HM.out HRT.out (k + 1)).2]
      have hno : cn.toList.all (·.oneCell') = true := by rw [hcn]; exact enc_one _
      rw [← hck] at hp hd
      rw [← hcn] at hd
      have lek : 0 + 107 ≤ ck.size := by omega
      have ek : ck.extract 0 107 = ck := by rw [← hks]; exact Array.extract_size
      have len : 0 + 107 ≤ cn.size := by omega
      have en : cn.extract 0 107 = cn := by rw [← hns]; exact Array.extract_size
      obtain ⟨af, haf2⟩ : ∃ af, af = m.aft k := ⟨_, rfl⟩
      rw [← haf2] at hp ha hd
      have HP := Lib.hid hp
      have HA := Lib.hid ha
      have HD := Lib.hid hd
      have HCK := Lib.hid hck
      have HCN := Lib.hid hcn
      have HNS := Lib.hid hns
      have HNO := Lib.hid hno
      have HKS := Lib.hid hks
      clear hp ha hd hck hcn haf haf2 hkr hko hnx hns hno hks
      have hgm := HG.out.bm
      have hgx := HG.out.bx
      rw [← HC.out] at hgm
      rw [← HCK.out] at hgx
      have HGM := Lib.hid hgm
      have HGX := Lib.hid hgx
      clear hgm hgx
      go_wp2_with fail
      refine wp_region_noPanic ?_
      refine wp_region_held_drew (S := fun W => Blk W 58 w.heap.size cs ∧ Blk W 58 w2.heap.size ck) (by kernel_rfl) (⟨HGM.out.drew, HGX.out.drew⟩) (fun hHeld => ?_)
      have hBW := HG.out.below.drew
      refine wpAnyH_take (i := 0) (v := ?v0p) rfl (by kernel_rfl) (by kernel_rfl) (by kernel_rfl) (fun _ _ _ h => h) (Or.inl ⟨by rfl, ?y0p⟩) (by assumption) ?n0p
      case y0p => (intro W hSw; have q0 := hSw.2.row; go_simp; try with_reducible rfl)
      try simp only [Act.put, List.getElem_toArray, List.getElem_cons_succ, List.getElem_cons_zero, List.setIfInBounds_toArray, List.set_cons_zero, List.set_cons_succ]
      refine wpAnyH_take (i := 2) (v := ?v2p) rfl (by kernel_rfl) (by kernel_rfl) (by kernel_rfl) (fun _ _ _ h => h) (Or.inl ⟨by rfl, ?y2p⟩) (by assumption) ?n2p
      case y2p => (intro W hSw; have q0 := hSw.1.row; go_simp; try with_reducible rfl)
      try simp only [Act.put, List.getElem_toArray, List.getElem_cons_succ, List.getElem_cons_zero, List.setIfInBounds_toArray, List.set_cons_zero, List.set_cons_succ]
      refine wpAnyH_take (i := 3) (v := ?v3p) rfl (by kernel_rfl) (by kernel_rfl) (by kernel_rfl) (fun _ _ _ h => h) (Or.inl ⟨by rfl, ?y3p⟩) (by assumption) ?n3p
      case y3p => (intro W hSw; go_simp; try with_reducible rfl)
      try simp only [Act.put, List.getElem_toArray, List.getElem_cons_succ, List.getElem_cons_zero, List.setIfInBounds_toArray, List.set_cons_zero, List.set_cons_succ]
      refine wpAnyH_ready (rs := [1]) (by kernel_rfl) (by simp) ?_
      refine AllReadyH.cons rfl (fun KK hK => ?_) AllReadyH.nil
      rw [if_pos (by rfl)]
      go_simp
      refine (HP.out _).mono ?_
      rintro e w4 ⟨rfl, hb⟩
      have hBW := hBW.trans (hb.mono hBW.size)
      try dsimp only
      refine hK.out _ _ (⟨hHeld.1.below hb, hHeld.2.below hb⟩) (fun hHeld => ?_)
      clear hK KK
      try simp only [Act.put, List.getElem_toArray, List.getElem_cons_succ, List.getElem_cons_zero, List.setIfInBounds_toArray, List.set_cons_zero, List.set_cons_succ]
      refine wpAnyH_ready (rs := [4]) (by kernel_rfl) (by simp) ?_
      refine AllReadyH.cons rfl (fun KK hK => ?_) AllReadyH.nil
      rw [if_pos (by rfl)]
      go_simp
      refine (HA.out _).mono ?_
      rintro e w5 ⟨rfl, hb⟩
      have hBW := hBW.trans (hb.mono hBW.size)
      try dsimp only
      refine hK.out _ _ (⟨hHeld.1.below hb, hHeld.2.below hb⟩) (fun hHeld => ?_)
      clear hK KK
      try simp only [Act.put, List.getElem_toArray, List.getElem_cons_succ, List.getElem_cons_zero, List.setIfInBounds_toArray, List.set_cons_zero, List.set_cons_succ]
      refine wpAnyH_take (i := 5) (v := ?v5p) rfl (by kernel_rfl) (by kernel_rfl) (by kernel_rfl) (fun _ _ _ h => h) (Or.inl ⟨by rfl, ?y5p⟩) (by assumption) ?n5p
      case y5p => (intro W hSw; go_simp; try with_reducible rfl)
      try simp only [Act.put, List.getElem_toArray, List.getElem_cons_succ, List.getElem_cons_zero, List.setIfInBounds_toArray, List.set_cons_zero, List.set_cons_succ]
      refine wpAnyH_done (by kernel_rfl) ?_ _
      refine NoPanic.normal ?_
      have hcA := hHeld.1
      have hcB := hHeld.2
      have HBW := Lib.hid hBW
      have HGM := Lib.hid hcA
      have HGX := Lib.hid hcB
      have rx := hcB.row
      clear hHeld hcA hcB hBW
      go_wp2_with fail
      refine (HD.out _).mono ?_
      rintro e w3 ⟨rfl, hb⟩
      have HGM := Lib.hid (HGM.out.below hb)
      have HGX := Lib.hid (HGX.out.below hb)
      have HBW := Lib.hid (HBW.out.trans (hb.mono HBW.out.size))
      clear rx hb
      have hy := (Blk.new w3 58 Try.zeroCells58 _ rfl).alloc (.cells #[.int .i64 0, .int .i64 0, .int .i64 0] 63)
      have hz := Blk.new (w3.alloc (.cells Try.zeroCells58 58)) 63 #[.int .i64 0, .int .i64 0, .int .i64 0] (w3.heap.size + 1) (by simp)
      have hst1 := hy.store 58 cn (by rw [HNS.out]; exact info58) (by rw [HNS.out]; exact z58) HNO.out
      have hst2 := (hz.set_other (g' := w3.heap.size) cn (by omega)).store 63 #[.int .i64 0, .int .i64 af, .int .i64 0] info63 rfl rfl
      have hlm := HGM.out.lt
      have hlx := HGX.out.lt
      have BY := Lib.hid ((hy.set cn).set_other (g' := w3.heap.size + 1) #[.int .i64 0, .int .i64 af, .int .i64 0] (by omega))
      have BR := Lib.hid ((hz.set_other (g' := w3.heap.size) cn (by omega)).set #[.int .i64 0, .int .i64 af, .int .i64 0])
      have BM := Lib.hid ((((HGM.out.alloc (.cells Try.zeroCells58 58)).alloc (.cells #[.int .i64 0, .int .i64 0, .int .i64 0] 63)).set_other (g' := w3.heap.size) cn (by omega)).set_other (g' := w3.heap.size + 1) #[.int .i64 0, .int .i64 af, .int .i64 0] (by omega))
      have BX := Lib.hid ((((HGX.out.alloc (.cells Try.zeroCells58 58)).alloc (.cells #[.int .i64 0, .int .i64 0, .int .i64 0] 63)).set_other (g' := w3.heap.size) cn (by omega)).set_other (g' := w3.heap.size + 1) #[.int .i64 0, .int .i64 af, .int .i64 0] (by omega))
      have BB := Lib.hid (below_setRow (g := w3.heap.size + 1) (below_setRow (g := w3.heap.size) ((HBW.out.trans ((below_alloc1 w3 (.cells Try.zeroCells58 58)).mono HBW.out.size)).trans ((below_alloc1 _ (.cells #[.int .i64 0, .int .i64 0, .int .i64 0] 63)).mono (by simp; omega))) (by omega) cn) (by omega) #[.int .i64 0, .int .i64 af, .int .i64 0])
      clear hy hz hlm
      go_wp2_with fail
      generalize (((w3.alloc (.cells Try.zeroCells58 58)).alloc (.cells #[.int .i64 0, .int .i64 0, .int .i64 0] 63)).setRow w3.heap.size cn).setRow (w3.heap.size + 1) #[.int .i64 0, .int .i64 af, .int .i64 0] = W4 at BY BR BM BX BB ⊢
      clear hst1 hst2 HGM HGX HBW
      refine wp_region_noPanic ?_
      refine wp_region_held_drew (S := fun W => Blk W 58 w.heap.size cs ∧ Blk W 58 w2.heap.size ck ∧ Blk W 58 w3.heap.size cn ∧ Blk W 63 (w3.heap.size + 1) #[.int .i64 0, .int .i64 af, .int .i64 0]) (by kernel_rfl) (⟨BM.out.drew, BX.out.drew, BY.out.drew, BR.out.drew⟩) (fun hHeld => ?_)
      have hBW := BB.out.drew
      refine wpAnyH_take (i := 0) (v := ?v0q) rfl (by kernel_rfl) (by kernel_rfl) (by kernel_rfl) (fun _ _ _ h => h) (Or.inl ⟨by rfl, ?y0q⟩) (by assumption) ?n0q
      case y0q => (intro W hSw; go_simp; try with_reducible rfl)
      try simp only [Act.put, List.getElem_toArray, List.getElem_cons_succ, List.getElem_cons_zero, List.setIfInBounds_toArray, List.set_cons_zero, List.set_cons_succ]
      refine wpAnyH_take (i := 1) (v := ?v1q) rfl (by kernel_rfl) (by kernel_rfl) (by kernel_rfl) (fun _ _ _ h => h) (Or.inl ⟨by rfl, ?y1q⟩) (by assumption) ?n1q
      case y1q => (intro W hSw; have q0 := hSw.2.2.2.cell 1; go_simp; try with_reducible rfl)
      try simp only [Act.put, List.getElem_toArray, List.getElem_cons_succ, List.getElem_cons_zero, List.setIfInBounds_toArray, List.set_cons_zero, List.set_cons_succ]
      refine wpAnyH_take (i := 2) (v := ?v2q) rfl (by kernel_rfl) (by kernel_rfl) (by kernel_rfl) (fun _ _ _ h => h) (Or.inl ⟨by rfl, ?y2q⟩) (by assumption) ?n2q
      case y2q => (intro W hSw; have q0 := hSw.1.row; go_simp; try with_reducible rfl)
      try simp only [Act.put, List.getElem_toArray, List.getElem_cons_succ, List.getElem_cons_zero, List.setIfInBounds_toArray, List.set_cons_zero, List.set_cons_succ]
      refine wpAnyH_take (i := 3) (v := ?v3q) rfl (by kernel_rfl) (by kernel_rfl) (by kernel_rfl) (fun _ _ _ h => h) (Or.inl ⟨by rfl, ?y3q⟩) (by assumption) ?n3q
      case y3q => (intro W hSw; go_simp; try with_reducible rfl)
      try simp only [Act.put, List.getElem_toArray, List.getElem_cons_succ, List.getElem_cons_zero, List.setIfInBounds_toArray, List.set_cons_zero, List.set_cons_succ]
      refine wpAnyH_ready (rs := [4]) (by kernel_rfl) (by simp) ?_
      refine AllReadyH.cons rfl (fun KK hK => ?_) AllReadyH.nil
      rw [if_pos (by rfl)]
      go_simp
      refine (HA.out _).mono ?_
      rintro e w6 ⟨rfl, hb⟩
      have hBW := hBW.trans (hb.mono hBW.size)
      try dsimp only
      refine hK.out _ _ (⟨hHeld.1.below hb, hHeld.2.1.below hb, hHeld.2.2.1.below hb, hHeld.2.2.2.below hb⟩) (fun hHeld => ?_)
      clear hK KK
      try simp only [Act.put, List.getElem_toArray, List.getElem_cons_succ, List.getElem_cons_zero, List.setIfInBounds_toArray, List.set_cons_zero, List.set_cons_succ]
      refine wpAnyH_take (i := 5) (v := ?v5q) rfl (by kernel_rfl) (by kernel_rfl) (by kernel_rfl) (fun _ _ _ h => h) (Or.inl ⟨by rfl, ?y5q⟩) (by assumption) ?n5q
      case y5q => (intro W hSw; go_simp; try with_reducible rfl)
      try simp only [Act.put, List.getElem_toArray, List.getElem_cons_succ, List.getElem_cons_zero, List.setIfInBounds_toArray, List.set_cons_zero, List.set_cons_succ]
      refine wpAnyH_done (by kernel_rfl) ?_ _
      refine NoPanic.normal ?_
      obtain ⟨kM, kX, kY, kR⟩ := hHeld
      have ry := kY.row
      have hst3 := kX.store 58 cn (by rw [HNS.out]; exact info58) (by rw [HNS.out, HKS.out]) HNO.out
      have hne : w.heap.size ≠ w2.heap.size := by have := HG.out.lt; omega
      have g1 := kM.set_other cn hne
      have g2 := kX.set cn
      have g3 := below_setRow hBW (Nat.le_of_lt HG.out.lt) cn
      have HGN := Lib.hid (show Goes w (w6.setRow w2.heap.size cn) w2.heap.size m (k + 1) from ⟨by rw [← HC.out]; exact g1, by rw [← HCN.out]; exact g2, g3, HG.out.lt⟩)
      clear kM kX kY kR g1 g2 g3 hBW hne
      go_wp2_with fail
      go_roundw
      case rel => exact ⟨k + 1, by omega, by go_num, HGN.out⟩
      case measure => simp [intOf]; omega
    · obtain rfl : k = n + 1 := by omega
      have hnl : ¬ ((n : Int) + 1 ≤ n) := by omega
      have HBW := Lib.hid HG.out.below
      clear hlt hk HG
      go_wp2_with fail
      go_ret
      exact ⟨rfl, HBW.out⟩
end Go.Proofs.Ytajflegjpnmloaa.Boot
