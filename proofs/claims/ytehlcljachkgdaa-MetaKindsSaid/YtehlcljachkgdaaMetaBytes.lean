/- Walks: meta.Bytes, and the reference's. -/
import Derived.Test.YtehlcljachkgdaaMetaPut
namespace Go.Proofs.Ytehlcljachkgdaa.Boot
open Go.RowKit Go.Proofs.YtehlcljachkgdaaW.PrintWords Go.Proofs.YtehlcljachkgdaaW.PrintLast Go.Proofs.Ytehlcljachkgdaa.Kit Go.Proofs.Ytehlcljachkgdaa.Field
attribute [local go_sem ↓] ldI ldM
attribute [local go_sem] ldI_run ldM_run
set_option linter.unusedSimpArgs false
set_option linter.unusedVariables false
theorem own_less {W : World} {B C size n : Nat} {e : TypeId} {v : Value} {xs : List Value} (h : W.ownsRow B e size v n xs) (k : C ≤ B) : W.ownsRow C e size v n xs := by
  refine ⟨h.1, ?_⟩
  rcases h.2 with hn | ⟨g, cap, cur, hv, hb, rest⟩
  · exact .inl hn
  · exact .inr ⟨g, cap, cur, hv, by omega, rest⟩

set_option maxHeartbeats 8000000 in
set_option maxRecDepth 100000 in
theorem bytes_m (m : Met) (hm : m.Ok) (w : World) : Calls Try.prog 22 #[.agg m.enc.toArray] w fun e w' => ∃ v, e = .returned v ∧ Gives w w' v (bytesM m) := by
  have hI := Met.is hm
  have hR := fun w => right_m m hm w
  obtain ⟨cs, hcs⟩ : ∃ cs, cs = m.enc.toArray := ⟨_, rfl⟩
  rw [← hcs] at hI hR ⊢
  have sz := hI.size
  have le0 : 0 + 107 ≤ cs.size := by omega
  have e107 : cs.extract 0 107 = cs := by rw [← sz]; exact Array.extract_size
  have le1 : 1 + 34 ≤ cs.size := by omega
  have le2 : 35 + 34 ≤ cs.size := by omega
  have le3 : 71 + 34 ≤ cs.size := by omega
  have x0 := hI.e0
  have x1 := hI.e1
  have xC := hI.eC
  obtain ⟨rt, hrt⟩ : ∃ rt, rt = m.right := ⟨_, rfl⟩
  rw [← hrt] at hR
  have HBM := Lib.hid (show bytesM m = if rt then metL m else [] by rw [hrt]; rfl)
  have HI := Lib.hid hI
  have HR := Lib.hid hR
  have hX := Bx.new w cs 52
  have r0 := hX.row
  have HX := Lib.hid hX
  have HB1 := Lib.hid (below_alloc1 w (.cells cs 52))
  clear hcs hI hR hrt hX sz
  go_enter Try.func22, Try.ntmps22
  go_wp2_with fail
  refine (HR.out _).mono ?_
  rintro e w2 ⟨rfl, hb⟩
  have HX := Lib.hid (HX.out.below hb)
  have HB2 := Lib.hid (HB1.out.trans (hb.mono HB1.out.size))
  clear r0 hb HB1
  cases rt with
  | false =>
    go_wp2_with fail
    go_ret
    exact ⟨_, rfl, by rw [HBM.out]; exact Gives.none_ HB2.out⟩
  | true =>
    have hlt := HX.out.lt
    have hP : Put (w2.alloc (.cells #[.slice none 0 0] 65)) (w2.alloc (.cells #[.slice none 0 0] 65)) 65 w2.heap.size w2.heap.size (.slice none 0 0) (.slice none 0 0) [] 52 w.heap.size cs :=
      ⟨⟨Nat.le_refl _, heap_alloc_new _ _, own_nil _ _ _ _⟩, .refl _ _, .refl _ _, HX.out.below (below_alloc1 _ _), by omega, by simp [Value.ownBlock]⟩
    have HP := Lib.hid hP
    have hBs : w2.heap.size ≤ (w2.alloc (.cells #[.slice none 0 0] 65)).heap.size := by simp
    have HBS := Lib.hid hBs
    obtain ⟨W0, hW0⟩ : ∃ W0, W0 = w2.alloc (.cells #[.slice none 0 0] 65) := ⟨_, rfl⟩
    have HW0 := Lib.hid hW0
    clear hP hBs hW0
    have hcell := (HP.out.box.cell 0).trans HI.out.a
    rw [← HW0.out] at HP HBS
    go_wp2_with fail
    rw [← HW0.out]
    refine (num_put w2.heap.size w2.heap.size _ ([]) m.a 1 _ HP.out.wr (by simp [numL_length, imgL_length]) (Nat.le_trans HBS.out HP.out.fr.size)).mono ?_
    rintro e w3 ⟨rfl, v3, hw, hn, hf⟩
    rw [clip1] at hw
    have HP := Lib.hid (HP.out.step hw hn hf)
    clear hw hn hf hcell
    have q1 := HP.out.box.row
    go_wp2_with fail
    refine (put_m w2.heap.size w2.heap.size _ (numL m.a 1) m.i0 hm.i0 _ HP.out.wr (by simp [numL_length, imgL_length]) (Nat.le_trans HBS.out HP.out.fr.size)).mono ?_
    rintro e w4 ⟨rfl, v4, hw, hn, hf⟩
    have HP := Lib.hid (HP.out.step hw hn hf)
    clear hw hn hf q1
    have q2 := HP.out.box.row
    go_wp2_with fail
    refine (put_m w2.heap.size w2.heap.size _ (numL m.a 1 ++ imgL m.i0) m.i1 hm.i1 _ HP.out.wr (by simp [numL_length, imgL_length]) (Nat.le_trans HBS.out HP.out.fr.size)).mono ?_
    rintro e w5 ⟨rfl, v5, hw, hn, hf⟩
    have HP := Lib.hid (HP.out.step hw hn hf)
    clear hw hn hf q2
    have q3 := (HP.out.box.cell 69).trans HI.out.mn
    go_wp2_with fail
    refine (num_put w2.heap.size w2.heap.size _ (numL m.a 1 ++ imgL m.i0 ++ imgL m.i1) m.mn 4 _ HP.out.wr (by simp [numL_length, imgL_length]) (Nat.le_trans HBS.out HP.out.fr.size)).mono ?_
    rintro e w6 ⟨rfl, v6, hw, hn, hf⟩
    rw [clip4] at hw
    have HP := Lib.hid (HP.out.step hw hn hf)
    clear hw hn hf q3
    have q4 := (HP.out.box.cell 70).trans HI.out.ph
    go_wp2_with fail
    refine (num_put w2.heap.size w2.heap.size _ (numL m.a 1 ++ imgL m.i0 ++ imgL m.i1 ++ numL m.mn 4) m.ph 1 _ HP.out.wr (by simp [numL_length, imgL_length]) (Nat.le_trans HBS.out HP.out.fr.size)).mono ?_
    rintro e w7 ⟨rfl, v7, hw, hn, hf⟩
    rw [clip1] at hw
    have HP := Lib.hid (HP.out.step hw hn hf)
    clear hw hn hf q4
    have q5 := HP.out.box.row
    go_wp2_with fail
    refine (put_m w2.heap.size w2.heap.size _ (numL m.a 1 ++ imgL m.i0 ++ imgL m.i1 ++ numL m.mn 4 ++ numL m.ph 1) m.co hm.co _ HP.out.wr (by simp [numL_length, imgL_length]) (Nat.le_trans HBS.out HP.out.fr.size)).mono ?_
    rintro e w8 ⟨rfl, v8, hw, hn, hf⟩
    have HP := Lib.hid (HP.out.step hw hn hf)
    clear hw hn hf q5
    have q6 := (HP.out.box.cell 105).trans HI.out.got
    go_wp2_with fail
    refine (num_put w2.heap.size w2.heap.size _ (numL m.a 1 ++ imgL m.i0 ++ imgL m.i1 ++ numL m.mn 4 ++ numL m.ph 1 ++ imgL m.co) m.got 1 _ HP.out.wr (by simp [numL_length, imgL_length]) (Nat.le_trans HBS.out HP.out.fr.size)).mono ?_
    rintro e w9 ⟨rfl, v9, hw, hn, hf⟩
    rw [clip1] at hw
    have HP := Lib.hid (HP.out.step hw hn hf)
    clear hw hn hf q6
    have q7 := (HP.out.box.cell 106).trans HI.out.tr
    go_wp2_with fail
    refine (num_put w2.heap.size w2.heap.size _ (numL m.a 1 ++ imgL m.i0 ++ imgL m.i1 ++ numL m.mn 4 ++ numL m.ph 1 ++ imgL m.co ++ numL m.got 1) m.tr 1 _ HP.out.wr (by simp [numL_length, imgL_length]) (Nat.le_trans HBS.out HP.out.fr.size)).mono ?_
    rintro e w10 ⟨rfl, v10, hw, hn, hf⟩
    rw [clip1] at hw
    have HP := Lib.hid (HP.out.step hw hn hf)
    clear hw hn hf q7
    go_wp2_with fail
    refine (bytes_put w2.heap.size w2.heap.size _ (numL m.a 1 ++ imgL m.i0 ++ imgL m.i1 ++ numL m.mn 4 ++ numL m.ph 1 ++ imgL m.co ++ numL m.got 1 ++ numL m.tr 1) _ HP.out.wr (by simp [numL_length, imgL_length])).mono ?_
    rintro e w12 ⟨v12, rfl, hg⟩
    have hbw : Below w2.heap.size W0 w10 := (Fr.to_below HP.out.fr (fun i hi hf => by
      rcases hf with hf | hf
      · omega
      · simp [Value.ownBlock] at hf) HBS.out)
    have hb3 : Below w2.heap.size w2 W0 := by rw [HW0.out]; exact below_alloc1 _ _
    have HFIN := Lib.hid (HB2.out.trans (((hb3.trans hbw).trans (hg.2.mono (Nat.le_trans hb3.size hbw.size))).mono HB2.out.size))
    have HO := Lib.hid (own_less hg.1 (Nat.le_trans HB2.out.size (Nat.le_trans hb3.size hbw.size)))
    clear hg hbw hb3
    go_wp2_with fail
    go_ret
    refine ⟨_, rfl, ?_, HFIN.out⟩
    rw [HBM.out]
    exact HO.out

set_option maxHeartbeats 8000000 in
set_option maxRecDepth 100000 in
theorem bytes_ref (m : Met) (hm : m.Ok) (w : World) : Calls Try.prog 26 #[.agg m.enc.toArray] w fun e w' => ∃ v, e = .returned v ∧ Gives w w' v (bytesM m) := by
  have hI := Met.is hm
  have hR := fun w => refright_m m hm w
  obtain ⟨cs, hcs⟩ : ∃ cs, cs = m.enc.toArray := ⟨_, rfl⟩
  rw [← hcs] at hI hR ⊢
  have sz := hI.size
  have le0 : 0 + 107 ≤ cs.size := by omega
  have e107 : cs.extract 0 107 = cs := by rw [← sz]; exact Array.extract_size
  have le1 : 1 + 34 ≤ cs.size := by omega
  have le2 : 35 + 34 ≤ cs.size := by omega
  have le3 : 71 + 34 ≤ cs.size := by omega
  have x0 := hI.e0
  have x1 := hI.e1
  have xC := hI.eC
  obtain ⟨rt, hrt⟩ : ∃ rt, rt = m.right := ⟨_, rfl⟩
  rw [← hrt] at hR
  have HBM := Lib.hid (show bytesM m = if rt then metL m else [] by rw [hrt]; rfl)
  have HI := Lib.hid hI
  have HR := Lib.hid hR
  have hX := Bx.new w cs 52
  have r0 := hX.row
  have HX := Lib.hid hX
  have HB1 := Lib.hid (below_alloc1 w (.cells cs 52))
  clear hcs hI hR hrt hX sz
  go_enter Try.func26, Try.ntmps26
  go_wp2_with fail
  refine (HR.out _).mono ?_
  rintro e w2 ⟨rfl, hb⟩
  have HX := Lib.hid (HX.out.below hb)
  have HB2 := Lib.hid (HB1.out.trans (hb.mono HB1.out.size))
  clear r0 hb HB1
  cases rt with
  | false =>
    go_wp2_with fail
    go_ret
    exact ⟨_, rfl, by rw [HBM.out]; exact Gives.none_ HB2.out⟩
  | true =>
    have hlt := HX.out.lt
    have hP : Put (w2.alloc (.cells #[.slice none 0 0] 79)) (w2.alloc (.cells #[.slice none 0 0] 79)) 79 w2.heap.size w2.heap.size (.slice none 0 0) (.slice none 0 0) [] 52 w.heap.size cs :=
      ⟨⟨Nat.le_refl _, heap_alloc_new _ _, own_nil _ _ _ _⟩, .refl _ _, .refl _ _, HX.out.below (below_alloc1 _ _), by omega, by simp [Value.ownBlock]⟩
    have HP := Lib.hid hP
    have hBs : w2.heap.size ≤ (w2.alloc (.cells #[.slice none 0 0] 79)).heap.size := by simp
    have HBS := Lib.hid hBs
    obtain ⟨W0, hW0⟩ : ∃ W0, W0 = w2.alloc (.cells #[.slice none 0 0] 79) := ⟨_, rfl⟩
    have HW0 := Lib.hid hW0
    clear hP hBs hW0
    have hcell := (HP.out.box.cell 0).trans HI.out.a
    rw [← HW0.out] at HP HBS
    go_wp2_with fail
    rw [← HW0.out]
    refine (num_ref w2.heap.size w2.heap.size _ ([]) m.a 1 _ HP.out.wr (by simp [numL_length, imgL_length]) (Nat.le_trans HBS.out HP.out.fr.size)).mono ?_
    rintro e w3 ⟨rfl, v3, hw, hn, hf⟩
    rw [clip1] at hw
    have HP := Lib.hid (HP.out.step hw hn hf)
    clear hw hn hf hcell
    have q1 := HP.out.box.row
    go_wp2_with fail
    refine (put_ref w2.heap.size w2.heap.size _ (numL m.a 1) m.i0 hm.i0 _ HP.out.wr (by simp [numL_length, imgL_length]) (Nat.le_trans HBS.out HP.out.fr.size)).mono ?_
    rintro e w4 ⟨rfl, v4, hw, hn, hf⟩
    have HP := Lib.hid (HP.out.step hw hn hf)
    clear hw hn hf q1
    have q2 := HP.out.box.row
    go_wp2_with fail
    refine (put_ref w2.heap.size w2.heap.size _ (numL m.a 1 ++ imgL m.i0) m.i1 hm.i1 _ HP.out.wr (by simp [numL_length, imgL_length]) (Nat.le_trans HBS.out HP.out.fr.size)).mono ?_
    rintro e w5 ⟨rfl, v5, hw, hn, hf⟩
    have HP := Lib.hid (HP.out.step hw hn hf)
    clear hw hn hf q2
    have q3 := (HP.out.box.cell 69).trans HI.out.mn
    go_wp2_with fail
    refine (num_ref w2.heap.size w2.heap.size _ (numL m.a 1 ++ imgL m.i0 ++ imgL m.i1) m.mn 4 _ HP.out.wr (by simp [numL_length, imgL_length]) (Nat.le_trans HBS.out HP.out.fr.size)).mono ?_
    rintro e w6 ⟨rfl, v6, hw, hn, hf⟩
    rw [clip4] at hw
    have HP := Lib.hid (HP.out.step hw hn hf)
    clear hw hn hf q3
    have q4 := (HP.out.box.cell 70).trans HI.out.ph
    go_wp2_with fail
    refine (num_ref w2.heap.size w2.heap.size _ (numL m.a 1 ++ imgL m.i0 ++ imgL m.i1 ++ numL m.mn 4) m.ph 1 _ HP.out.wr (by simp [numL_length, imgL_length]) (Nat.le_trans HBS.out HP.out.fr.size)).mono ?_
    rintro e w7 ⟨rfl, v7, hw, hn, hf⟩
    rw [clip1] at hw
    have HP := Lib.hid (HP.out.step hw hn hf)
    clear hw hn hf q4
    have q5 := HP.out.box.row
    go_wp2_with fail
    refine (put_ref w2.heap.size w2.heap.size _ (numL m.a 1 ++ imgL m.i0 ++ imgL m.i1 ++ numL m.mn 4 ++ numL m.ph 1) m.co hm.co _ HP.out.wr (by simp [numL_length, imgL_length]) (Nat.le_trans HBS.out HP.out.fr.size)).mono ?_
    rintro e w8 ⟨rfl, v8, hw, hn, hf⟩
    have HP := Lib.hid (HP.out.step hw hn hf)
    clear hw hn hf q5
    have q6 := (HP.out.box.cell 105).trans HI.out.got
    go_wp2_with fail
    refine (num_ref w2.heap.size w2.heap.size _ (numL m.a 1 ++ imgL m.i0 ++ imgL m.i1 ++ numL m.mn 4 ++ numL m.ph 1 ++ imgL m.co) m.got 1 _ HP.out.wr (by simp [numL_length, imgL_length]) (Nat.le_trans HBS.out HP.out.fr.size)).mono ?_
    rintro e w9 ⟨rfl, v9, hw, hn, hf⟩
    rw [clip1] at hw
    have HP := Lib.hid (HP.out.step hw hn hf)
    clear hw hn hf q6
    have q7 := (HP.out.box.cell 106).trans HI.out.tr
    go_wp2_with fail
    refine (num_ref w2.heap.size w2.heap.size _ (numL m.a 1 ++ imgL m.i0 ++ imgL m.i1 ++ numL m.mn 4 ++ numL m.ph 1 ++ imgL m.co ++ numL m.got 1) m.tr 1 _ HP.out.wr (by simp [numL_length, imgL_length]) (Nat.le_trans HBS.out HP.out.fr.size)).mono ?_
    rintro e w10 ⟨rfl, v10, hw, hn, hf⟩
    rw [clip1] at hw
    have HP := Lib.hid (HP.out.step hw hn hf)
    clear hw hn hf q7
    have hc := HP.out.wr.cell0
    have hbw : Below w2.heap.size W0 w10 := (Fr.to_below HP.out.fr (fun i hi hf => by
      rcases hf with hf | hf
      · omega
      · simp [Value.ownBlock] at hf) HBS.out)
    have hb3 : Below w2.heap.size w2 W0 := by rw [HW0.out]; exact below_alloc1 _ _
    have HFIN := Lib.hid (HB2.out.trans ((hb3.trans hbw).mono HB2.out.size))
    have HO := Lib.hid (own_less HP.out.wr.own HB2.out.size)
    clear hbw hb3
    go_wp2_with fail
    go_ret
    refine ⟨_, rfl, ?_, HFIN.out⟩
    rw [HBM.out]
    exact HO.out
end Go.Proofs.Ytehlcljachkgdaa.Boot
