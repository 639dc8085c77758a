/- Walk: NamesClean returns true. -/
import Derived.Test.YtajflegjpnmloaaNamesTell
import Derived.Test.YtajflegjpnmloaaRunePlain
namespace Go.Proofs.Ytajflegjpnmloaa.Names
open Go.RowKit Go.Proofs.YtajflegjpnmloaaW.PrintWords Go.Proofs.YtajflegjpnmloaaW.PrintLast Go.Proofs.Ytajflegjpnmloaa.Kit Go.Proofs.Ytajflegjpnmloaa.Runes Go.Proofs.Ytajflegjpnmloaa.RunePlain

theorem smallI_may {c : Int} (h : mayB c = true) : smallI c = c := by
  simp [mayB] at h
  unfold smallI
  rw [if_neg (by omega)]
theorem map_small : ∀ l : List Int, l.all mayB = true → l.map smallI = l
  | [], _ => rfl
  | c :: l, h => by
    simp only [List.all_cons, Bool.and_eq_true] at h
    rw [List.map_cons, smallI_may h.1, map_small l h.2]
theorem cleanL_same {l : List Int} (h : l.all mayB = true) (h8 : l.length ≤ 8) : cleanL l = l := by
  unfold cleanL
  rw [map_small l h, List.filter_eq_self.2 (by simpa using h), List.take_of_length_le h8]
theorem cleanL_may (l : List Int) : (cleanL l).all mayB = true := by
  simp only [List.all_eq_true]
  intro x hx
  exact (List.mem_filter.1 (List.mem_of_mem_take hx)).2
theorem runes_clean (l : List Int) : runes (runesBytes (cleanL l)) = cleanL l :=
  runes_runesBytes _ fun r hr => may_valid (by have h := cleanL_may l; simp only [List.all_eq_true] at h; exact h r hr)
theorem clean_again (l : List Int) : cleanL (cleanL l) = cleanL l := cleanL_same (cleanL_may l) (cleanL_length l)
theorem valid_clean_same (s : ByteArray) (h : validB (runes s) = true) : runesBytes (cleanL (runes s)) = s := by
  simp only [validB, Bool.and_eq_true, decide_eq_true_eq] at h
  rw [cleanL_same h.1.1 h.2, runesBytes_runes s h.1.1]
theorem clean_nil_or (l : List Int) : runesBytes (cleanL l) = ⟨#[]⟩ ∨ (runesBytes (cleanL l) ≠ ⟨#[]⟩ ∧ validB (cleanL l) = true) := by
  by_cases h : cleanL l = []
  · rw [h]; exact Or.inl rfl
  · refine Or.inr ⟨?_, valid_yes (cleanL_may l) (List.length_pos_iff.2 h) (cleanL_length l)⟩
    intro e
    have h2 := runes_clean l
    rw [e] at h2
    exact h h2.symm

theorem empty_yes {c : ByteArray} (h : c = ⟨#[]⟩) : c.toList.isEmpty = true := by
  rw [Lib.toList_data, h]; rfl
theorem empty_no {c : ByteArray} (h : c ≠ ⟨#[]⟩) : c.toList.isEmpty = false := by
  rw [Lib.toList_data]
  cases hq : c.data.toList with
  | cons _ _ => rfl
  | nil => exact absurd (bytes_ext hq) h

theorem cleans (s : ByteArray) (w : World) : Calls Try.prog 8 #[.string s] w fun e w' => e = .returned (.bool true) ∧ Below w.heap.size w w' := by
  by_cases hn : s.size ≤ 300
  · obtain ⟨c, hc⟩ : ∃ c, c = runesBytes (cleanL (runes s)) := ⟨_, rfl⟩
    have hsz : c.size ≤ 32 := by
      have h1 := runesBytes_size_le (cleanL (runes s)); have h2 := cleanL_length (runes s); rw [hc]; omega
    have hrc : runes c = cleanL (runes s) := by rw [hc]; exact runes_clean _
    have hcc : runesBytes (cleanL (runes c)) = c := by rw [hrc, clean_again, ← hc]
    have hlen : ((runes c).length : Int) ≤ 8 := by rw [hrc]; have := cleanL_length (runes s); omega
    have hor : c = ⟨#[]⟩ ∨ (c ≠ ⟨#[]⟩ ∧ validB (runes c) = true) := by rw [hrc, hc]; exact clean_nil_or _
    have hsame : validB (runes s) = true → c = s := fun h => by rw [hc]; exact valid_clean_same s h
    have HC := Lib.hid hc.symm
    have HCC := Lib.hid hcc
    have HOR := Lib.hid hor
    have HS := Lib.hid hsame
    clear hc hcc hor hsame hrc
    go_enter Try.func8, Try.ntmps8
    go_wp2_with fail
    refine (live _).mono ?_
    rintro e w1 ⟨rfl, hb⟩
    go_wp2_with fail
    refine (clean _ _).mono ?_
    rintro e w2 ⟨rfl, hb1⟩
    replace hb := hb.trans (hb1.mono hb.size); clear hb1
    rw [HC.out]
    go_wp2_with fail
    refine (valid _ _ (by omega)).mono ?_
    rintro e w2 ⟨rfl, hb1⟩
    replace hb := hb.trans (hb1.mono hb.size); clear hb1
    have hv : validB (runes s) = false ∨ (validB (runes s) = true ∧ (c.toList == s.toList) = true) := by
      cases hq : validB (runes s) with
      | false => exact Or.inl rfl
      | true => exact Or.inr ⟨rfl, by simp [HS.out hq]⟩
    rcases hv with hv | ⟨hv, hcs⟩
    all_goals
      rw [hv]
      clear hv
      rcases HOR.out with h0 | ⟨h0, hvc⟩
      · have h0' := empty_yes h0
        clear h0
        go_wp2_with (first
          | (go_at_call 28; refine (clean _ _).mono ?_; rintro e w2 ⟨rfl, hb1⟩; replace hb := hb.trans (hb1.mono hb.size); clear hb1; rw [HCC.out])
          | (go_at_call 24; refine (count _ _ (by omega)).mono ?_; rintro e w2 ⟨rfl, hb1⟩; replace hb := hb.trans (hb1.mono hb.size); clear hb1)
          | fail)
        go_ret
        exact ⟨by first | rfl | (simp; done) | (simp; omega), hb⟩
      · have h0' := empty_no h0
        have HV := Lib.hid hvc
        clear h0 hvc
        go_wp2_with (first
          | (go_at_call 26; refine (valid _ _ (by omega)).mono ?_; rintro e w2 ⟨rfl, hb1⟩; replace hb := hb.trans (hb1.mono hb.size); clear hb1; rw [HV.out])
          | (go_at_call 28; refine (clean _ _).mono ?_; rintro e w2 ⟨rfl, hb1⟩; replace hb := hb.trans (hb1.mono hb.size); clear hb1; rw [HCC.out])
          | (go_at_call 24; refine (count _ _ (by omega)).mono ?_; rintro e w2 ⟨rfl, hb1⟩; replace hb := hb.trans (hb1.mono hb.size); clear hb1)
          | fail)
        go_ret
        exact ⟨by first | rfl | (simp; done) | (simp; omega), hb⟩
  · go_enter Try.func8, Try.ntmps8
    go_wp2_with fail
    refine (live _).mono ?_
    rintro e w1 ⟨rfl, hb⟩
    go_wp2_with fail
    all_goals first
      | (exfalso; omega)
      | (go_ret; exact ⟨rfl, hb⟩)
end Go.Proofs.Ytajflegjpnmloaa.Names
