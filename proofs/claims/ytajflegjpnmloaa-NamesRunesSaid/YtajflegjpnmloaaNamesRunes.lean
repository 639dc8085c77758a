/- Walk: NamesRunes returns true. -/
import Derived.Test.YtajflegjpnmloaaNamesClean
namespace Go.Proofs.Ytajflegjpnmloaa.Names
open Go.RowKit Go.Proofs.YtajflegjpnmloaaW.PrintWords Go.Proofs.YtajflegjpnmloaaW.PrintLast Go.Proofs.Ytajflegjpnmloaa.Kit Go.Proofs.Ytajflegjpnmloaa.Runes Go.Proofs.Ytajflegjpnmloaa.RunePlain

theorem conv_one (c : Int) (W : World) : (convert 33 9 (.slice (some ⟨W.heap.size, 0, none⟩) 1 1)).run Try.prog (W.alloc (.cells #[.int .i32 c] 21)) = .ok (.string (runesBytes [c])) (W.alloc (.cells #[.int .i32 c] 21)) :=
  conv_runes 1 (reads_mark32 W 21 (0, 0) [c] (by simp))
theorem conv_two {c : Int} {t : ByteArray} (h : ∀ W : World, (convert 33 9 (.slice (some ⟨W.heap.size, 0, none⟩) 1 1)).run Try.prog (W.alloc (.cells #[.int .i32 c] 21)) = .ok (.string t) (W.alloc (.cells #[.int .i32 c] 21))) (w : World) (o : Obj) :
    (convert 33 9 (.slice (some ⟨w.heap.size + 1, 0, none⟩) 1 1)).run Try.prog ((w.alloc o).alloc (.cells #[.int .i32 c] 21)) = .ok (.string t) ((w.alloc o).alloc (.cells #[.int .i32 c] 21)) := by
  have e : (w.alloc o).heap.size = w.heap.size + 1 := by simp
  have := h (w.alloc o)
  rwa [e] at this
theorem step1 {w w1 w2 : World} {o : Obj} (hb : Below w.heap.size w w1) (h : Below (w1.alloc o).heap.size (w1.alloc o) w2) : Below w.heap.size w w2 :=
  (hb.alloc hb.size o).trans (h.mono (hb.alloc hb.size o).size)
theorem step2 {w w1 w2 : World} {o o' : Obj} (hb : Below w.heap.size w w1) (h : Below ((w1.alloc o).alloc o').heap.size ((w1.alloc o).alloc o') w2) : Below w.heap.size w w2 :=
  step1 (hb.alloc hb.size o) h
theorem one_size (c : Int) : (runesBytes [c]).size ≤ 4 := runesBytes_size_le [c]
theorem cleanL_one (c : Int) : cleanL [c] = if mayB (smallI c) then [smallI c] else [] := by
  unfold cleanL
  by_cases h : mayB (smallI c) = true
  · simp [h]
  · simp [h]

theorem runes_out (c : Int) (w : World) (h : c < 0 ∨ (1114111 < c) ∨ (55296 ≤ c ∧ c ≤ 57343)) :
    Calls Try.prog 9 #[.int .i32 c] w fun e w' => e = .returned (.bool true) ∧ Below w.heap.size w w' := by
  rcases h with h | h | ⟨h, h'⟩
  all_goals
    go_enter Try.func9, Try.ntmps9
    go_wp2_with fail
    refine (live _).mono ?_
    rintro e w1 ⟨rfl, hb⟩
    go_wp2_with fail
    all_goals first
      | (exfalso; omega)
      | (go_ret; exact ⟨rfl, hb⟩)

set_option maxHeartbeats 4000000 in
theorem runes_small (c : Int) (w : World) (h : (97 ≤ c ∧ c ≤ 122) ∨ (48 ≤ c ∧ c ≤ 57) ∨ (945 ≤ c ∧ c ≤ 969)) :
    Calls Try.prog 9 #[.int .i32 c] w fun e w' => e = .returned (.bool true) ∧ Below w.heap.size w w' := by
  have HM : mayB c = true := by simp [mayB]; omega
  have HV : validB (runes (runesBytes [c])) = true := by
    rw [runes_runesBytes [c] (by intro r hr; simp at hr; rw [hr]; exact may_valid HM)]; simp [validB, HM]
  have HCl : runesBytes (cleanL (runes (runesBytes [c]))) = runesBytes [c] := by
    rw [runes_runesBytes [c] (by intro r hr; simp at hr; rw [hr]; exact may_valid HM), cleanL_one, smallI_may HM, if_pos HM]
  clear HM
  rcases h with ⟨h, h'⟩ | ⟨h, h'⟩ | ⟨h, h'⟩
  all_goals
    have hrs : runes (runesBytes [c]) = [c] := runes_runesBytes [c] (by intro r hr; simp at hr; rw [hr]; simp [validRune]; omega)
    have hs4 := one_size c
    have kc := conv_one c
    have kc2 := conv_one (c + 32)
    rw [hrs] at HV HCl
    obtain ⟨s, hs⟩ : ∃ s, s = runesBytes [c] := ⟨_, rfl⟩
    rw [← hs] at hrs kc hs4
    try rw [← hs] at HCl
    obtain ⟨t, ht⟩ : ∃ t, t = runesBytes [c + 32] := ⟨_, rfl⟩
    rw [← ht] at kc2
    try rw [← ht] at HCl
    have HR := Lib.hid hrs
    have HV := Lib.hid HV
    have HCl := Lib.hid HCl
    clear hrs hs ht
    first | have hne : (c != 930) = true := (by simp; omega) | have hne : (c != 930) = false := (by simp; omega)
    go_enter Try.func9, Try.ntmps9
    go_wp2_with fail
    refine (live _).mono ?_
    rintro e w1 ⟨rfl, hb⟩
    have kc := kc w1
    go_wp2_with (first
      | (go_at_call 26; refine (valid _ _ (by omega)).mono ?_; rintro e w2 ⟨rfl, hb1⟩; (first | replace hb := step1 hb hb1 | replace hb := step2 hb hb1); clear hb1; rw [HR.out, HV.out])
      | (go_at_call 28; refine (clean _ _).mono ?_; rintro e w2 ⟨rfl, hb1⟩; replace hb := hb.trans (hb1.mono hb.size); clear hb1; rw [HR.out, HCl.out])
      | (go_at_call 24; refine (count _ _ (by omega)).mono ?_; rintro e w2 ⟨rfl, hb1⟩; replace hb := hb.trans (hb1.mono hb.size); clear hb1; rw [HR.out])
      | fail)
    go_ret
    exact ⟨by first | rfl | (simp; done) | (simp; omega), hb⟩
set_option maxHeartbeats 4000000 in
theorem runes_great (c : Int) (w : World) (h : (65 ≤ c ∧ c ≤ 90) ∨ (913 ≤ c ∧ c ≤ 929) ∨ (931 ≤ c ∧ c ≤ 937)) :
    Calls Try.prog 9 #[.int .i32 c] w fun e w' => e = .returned (.bool true) ∧ Below w.heap.size w w' := by
  have HM : mayB c = false := by simp [mayB]; omega
  have HS : smallI c = c + 32 := by unfold smallI; rw [if_pos (by omega)]
  have HM2 : mayB (c + 32) = true := by simp [mayB]; omega
  have hv0 : runes (runesBytes [c]) = [c] := runes_runesBytes [c] (by intro r hr; simp at hr; rw [hr]; simp [validRune]; omega)
  have HV : validB (runes (runesBytes [c])) = false := by rw [hv0]; simp [validB, HM]
  have HCl : runesBytes (cleanL (runes (runesBytes [c]))) = runesBytes [c + 32] := by rw [hv0, cleanL_one, HS, if_pos HM2]
  clear HM HM2 HS hv0
  rcases h with ⟨h, h'⟩ | ⟨h, h'⟩ | ⟨h, h'⟩
  all_goals
    have hrs : runes (runesBytes [c]) = [c] := runes_runesBytes [c] (by intro r hr; simp at hr; rw [hr]; simp [validRune]; omega)
    have hs4 := one_size c
    have kc := conv_one c
    have kc2 := conv_one (c + 32)
    rw [hrs] at HV HCl
    obtain ⟨s, hs⟩ : ∃ s, s = runesBytes [c] := ⟨_, rfl⟩
    rw [← hs] at hrs kc hs4
    try rw [← hs] at HCl
    obtain ⟨t, ht⟩ : ∃ t, t = runesBytes [c + 32] := ⟨_, rfl⟩
    rw [← ht] at kc2
    try rw [← ht] at HCl
    have HR := Lib.hid hrs
    have HV := Lib.hid HV
    have HCl := Lib.hid HCl
    clear hrs hs ht
    first | have hne : (c != 930) = true := (by simp; omega) | have hne : (c != 930) = false := (by simp; omega)
    go_enter Try.func9, Try.ntmps9
    go_wp2_with fail
    refine (live _).mono ?_
    rintro e w1 ⟨rfl, hb⟩
    have kc := kc w1
    have kc2 := conv_two kc2 w1 (.cells #[.int .i32 c] 21)
    go_wp2_with (first
      | (go_at_call 26; refine (valid _ _ (by omega)).mono ?_; rintro e w2 ⟨rfl, hb1⟩; (first | replace hb := step1 hb hb1 | replace hb := step2 hb hb1); clear hb1; rw [HR.out, HV.out])
      | (go_at_call 28; refine (clean _ _).mono ?_; rintro e w2 ⟨rfl, hb1⟩; replace hb := hb.trans (hb1.mono hb.size); clear hb1; rw [HR.out, HCl.out])
      | (go_at_call 24; refine (count _ _ (by omega)).mono ?_; rintro e w2 ⟨rfl, hb1⟩; replace hb := hb.trans (hb1.mono hb.size); clear hb1; rw [HR.out])
      | fail)
    go_ret
    exact ⟨by first | rfl | (simp; done) | (simp; omega), hb⟩
set_option maxHeartbeats 4000000 in
theorem runes_none (c : Int) (w : World) (h : (0 ≤ c ∧ c ≤ 47) ∨ (58 ≤ c ∧ c ≤ 64) ∨ (91 ≤ c ∧ c ≤ 96) ∨ (123 ≤ c ∧ c ≤ 912) ∨ (930 ≤ c ∧ c ≤ 930) ∨ (938 ≤ c ∧ c ≤ 944) ∨ (970 ≤ c ∧ c ≤ 55295) ∨ (57344 ≤ c ∧ c ≤ 1114111)) :
    Calls Try.prog 9 #[.int .i32 c] w fun e w' => e = .returned (.bool true) ∧ Below w.heap.size w w' := by
  have HM : mayB c = false := by simp [mayB]; omega
  have HS : smallI c = c := by unfold smallI; rw [if_neg (by omega)]
  have hv0 : runes (runesBytes [c]) = [c] := runes_runesBytes [c] (by intro r hr; simp at hr; rw [hr]; simp [validRune]; omega)
  have HV : validB (runes (runesBytes [c])) = false := by rw [hv0]; simp [validB, HM]
  have HCl : runesBytes (cleanL (runes (runesBytes [c]))) = ⟨#[]⟩ := by rw [hv0, cleanL_one, HS, if_neg (by rw [HM]; decide)]; rfl
  clear HM HS hv0
  rcases h with ⟨h, h'⟩ | ⟨h, h'⟩ | ⟨h, h'⟩ | ⟨h, h'⟩ | ⟨h, h'⟩ | ⟨h, h'⟩ | ⟨h, h'⟩ | ⟨h, h'⟩
  all_goals
    have hrs : runes (runesBytes [c]) = [c] := runes_runesBytes [c] (by intro r hr; simp at hr; rw [hr]; simp [validRune]; omega)
    have hs4 := one_size c
    have kc := conv_one c
    have kc2 := conv_one (c + 32)
    rw [hrs] at HV HCl
    obtain ⟨s, hs⟩ : ∃ s, s = runesBytes [c] := ⟨_, rfl⟩
    rw [← hs] at hrs kc hs4
    try rw [← hs] at HCl
    obtain ⟨t, ht⟩ : ∃ t, t = runesBytes [c + 32] := ⟨_, rfl⟩
    rw [← ht] at kc2
    try rw [← ht] at HCl
    have HR := Lib.hid hrs
    have HV := Lib.hid HV
    have HCl := Lib.hid HCl
    clear hrs hs ht
    first | have hne : (c != 930) = true := (by simp; omega) | have hne : (c != 930) = false := (by simp; omega)
    go_enter Try.func9, Try.ntmps9
    go_wp2_with fail
    refine (live _).mono ?_
    rintro e w1 ⟨rfl, hb⟩
    have kc := kc w1
    go_wp2_with (first
      | (go_at_call 26; refine (valid _ _ (by omega)).mono ?_; rintro e w2 ⟨rfl, hb1⟩; (first | replace hb := step1 hb hb1 | replace hb := step2 hb hb1); clear hb1; rw [HR.out, HV.out])
      | (go_at_call 28; refine (clean _ _).mono ?_; rintro e w2 ⟨rfl, hb1⟩; replace hb := hb.trans (hb1.mono hb.size); clear hb1; rw [HR.out, HCl.out])
      | (go_at_call 24; refine (count _ _ (by omega)).mono ?_; rintro e w2 ⟨rfl, hb1⟩; replace hb := hb.trans (hb1.mono hb.size); clear hb1; rw [HR.out])
      | fail)
    go_ret
    exact ⟨by first | rfl | (simp; done) | (simp; omega), hb⟩
theorem runes_law (c : Int) (w : World) : Calls Try.prog 9 #[.int .i32 c] w fun e w' => e = .returned (.bool true) ∧ Below w.heap.size w w' := by
  by_cases ho : c < 0 ∨ (1114111 < c) ∨ (55296 ≤ c ∧ c ≤ 57343)
  · exact runes_out c w ho
  · by_cases hs : (97 ≤ c ∧ c ≤ 122) ∨ (48 ≤ c ∧ c ≤ 57) ∨ (945 ≤ c ∧ c ≤ 969)
    · exact runes_small c w hs
    · by_cases hg : (65 ≤ c ∧ c ≤ 90) ∨ (913 ≤ c ∧ c ≤ 929) ∨ (931 ≤ c ∧ c ≤ 937)
      · exact runes_great c w hg
      · exact runes_none c w (by omega)
end Go.Proofs.Ytajflegjpnmloaa.Names
