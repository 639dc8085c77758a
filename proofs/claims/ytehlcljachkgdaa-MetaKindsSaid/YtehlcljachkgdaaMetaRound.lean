/- What was written is read again; what is short, or has more behind, is not. -/
import Derived.Test.YtehlcljachkgdaaMetaRead
import Derived.Test.YtehlcljachkgdaaMetaBytes
namespace Go.Proofs.Ytehlcljachkgdaa.Boot
open Go.RowKit Go.Proofs.YtehlcljachkgdaaW.PrintWords Go.Proofs.YtehlcljachkgdaaW.PrintLast Go.Proofs.Ytehlcljachkgdaa.Kit Go.Proofs.Ytehlcljachkgdaa.Field
set_option linter.unusedSimpArgs false
set_option linter.unusedVariables false

theorem take_front {l r : List Int} {k : Nat} (h : l.length = k) : Field.got (l ++ r) false k = l ∧ Field.rest (l ++ r) false k = r ∧ takeOk (l ++ r) false k = true := by
  have ht : takeOk (l ++ r) false k = true := by simp [takeOk, h]
  subst h
  refine ⟨?_, ?_, ht⟩
  · unfold Field.got; rw [if_pos ht]; simp
  · unfold Field.rest; rw [if_pos ht]; simp
theorem rd_back {x : Int} {k : Nat} (r : List Int) (h0 : 0 ≤ x) (h1 : x < 256 ^ k) (hk : k ≤ 7) : rdNum k (numL x k ++ r, false) = (x, r, false) := by
  obtain ⟨a, b, c⟩ := take_front (r := r) (numL_length x k)
  unfold rdNum
  simp only [a, b, c]
  rw [numOf_small (numL_small x k) (by rw [numL_length]; exact hk), val_back h0 h1]
  rfl
theorem img_back {i : Img} (hi : i.Ok) (hm : i.may = true) (r : List Int) : rdImg (imgL i ++ r, false) = (i, r, false) := by
  have hv : 0 ≤ i.v ∧ i.v ≤ 1073741824 ∧ 0 ≤ i.s ∧ i.s ≤ 1920 := by
    rcases may_cases hm with ⟨_, h1, h2⟩ | ⟨_, h1, h2, h3, h4⟩ <;> omega
  have p4 : (256 : Int) ^ 4 = 4294967296 := by decide
  have h1 : rdNum 4 (imgL i ++ r, false) = (i.v, numL i.s 4 ++ (rawL i.d 32 ++ r), false) := by
    rw [imgL, List.append_assoc, List.append_assoc]
    exact rd_back _ hv.1 (by omega) (by decide)
  have h2 : rdNum 4 (numL i.s 4 ++ (rawL i.d 32 ++ r), false) = (i.s, rawL i.d 32 ++ r, false) := rd_back _ hv.2.2.1 (by omega) (by decide)
  have h3 : rdRaw 32 (rawL i.d 32 ++ r, false) = (rawL i.d 32, r, false) := by
    obtain ⟨a, b, c⟩ := take_front (r := r) (rawL_length i.d 32)
    unfold rdRaw
    simp only [a, b, c]
    rfl
  have hd : rawL i.d 32 = i.d := by rw [← hi.len]; exact rawL_self _
  unfold rdImg
  rw [h1]
  simp only
  rw [h2]
  simp only
  rw [h3]
  simp only
  rw [hd, hd]
theorem met_back {m : Met} (hm : m.Ok) (hr : m.right = true) (zs : List Int) : rdMet (metL m ++ zs) = m ∧ (q8 (metL m ++ zs)).2 = (zs, false) := by
  obtain ⟨ha, h0, h1, hC, hg⟩ : (0 ≤ m.a ∧ m.a ≤ 1) ∧ m.i0.may = true ∧ m.i1.may = true ∧ m.co.may = true ∧ m.ranges := by
    have h := hr
    unfold Met.right at h
    simp only [Bool.and_eq_true, decide_eq_true_eq] at h
    exact ⟨h.1, h.2.1, h.2.2.1, h.2.2.2.1, h.2.2.2.2.2.1⟩
  have hph : 0 ≤ m.ph ∧ m.ph ≤ 3 := by
    have h := hr
    unfold Met.right Met.phase phaseB at h
    simp only [Bool.and_eq_true] at h
    have h := h.2.2.2.2.2.2
    split at h
    · omega
    · split at h
      · omega
      · split at h
        · omega
        · split at h
          · omega
          · cases h
  unfold Met.ranges at hg
  have p1 : (256 : Int) ^ 1 = 256 := by decide
  have p4 : (256 : Int) ^ 4 = 4294967296 := by decide
  have e : metL m ++ zs = numL m.a 1 ++ (imgL m.i0 ++ (imgL m.i1 ++ (numL m.mn 4 ++ (numL m.ph 1 ++ (imgL m.co ++ (numL m.got 1 ++ (numL m.tr 1 ++ zs))))))) := by simp [metL]
  have k1 : q1 (metL m ++ zs) = (m.a, imgL m.i0 ++ (imgL m.i1 ++ (numL m.mn 4 ++ (numL m.ph 1 ++ (imgL m.co ++ (numL m.got 1 ++ (numL m.tr 1 ++ zs)))))), false) := by
    rw [q1, e]; exact rd_back _ ha.1 (by omega) (by decide)
  have k2 : q2 (metL m ++ zs) = (m.i0, imgL m.i1 ++ (numL m.mn 4 ++ (numL m.ph 1 ++ (imgL m.co ++ (numL m.got 1 ++ (numL m.tr 1 ++ zs))))), false) := by
    rw [q2, k1]; exact img_back hm.i0 h0 _
  have k3 : q3 (metL m ++ zs) = (m.i1, numL m.mn 4 ++ (numL m.ph 1 ++ (imgL m.co ++ (numL m.got 1 ++ (numL m.tr 1 ++ zs)))), false) := by
    rw [q3, k2]; exact img_back hm.i1 h1 _
  have k4 : q4 (metL m ++ zs) = (m.mn, numL m.ph 1 ++ (imgL m.co ++ (numL m.got 1 ++ (numL m.tr 1 ++ zs))), false) := by
    rw [q4, k3]; exact rd_back _ (by omega) (by omega) (by decide)
  have k5 : q5 (metL m ++ zs) = (m.ph, imgL m.co ++ (numL m.got 1 ++ (numL m.tr 1 ++ zs)), false) := by
    rw [q5, k4]; exact rd_back _ (by omega) (by omega) (by decide)
  have k6 : q6 (metL m ++ zs) = (m.co, numL m.got 1 ++ (numL m.tr 1 ++ zs), false) := by
    rw [q6, k5]; exact img_back hm.co hC _
  have k7 : q7 (metL m ++ zs) = (m.got, numL m.tr 1 ++ zs, false) := by
    rw [q7, k6]; exact rd_back _ (by omega) (by omega) (by decide)
  have k8 : q8 (metL m ++ zs) = (m.tr, zs, false) := by
    rw [q8, k7]; exact rd_back _ (by omega) (by omega) (by decide)
  refine ⟨?_, by rw [k8]⟩
  unfold rdMet
  rw [k1, k2, k3, k4, k5, k6, k7, k8]
theorem readB_back {m : Met} (hm : m.Ok) (hr : m.right = true) (zs : List Int) : readB (metL m ++ zs) = zerosB zs := by
  obtain ⟨h1, h2⟩ := met_back hm hr zs
  unfold readB
  rw [h1, h2, hr]
  simp
theorem read_yes {m : Met} (hm : m.Ok) (hr : m.right = true) {zs : List Int} (hz : zerosB zs = true) : readM (metL m ++ zs) = m ∧ readE (metL m ++ zs) = 0 := by
  have hb := (readB_back hm hr zs).trans hz
  unfold readM readE
  rw [hb]
  exact ⟨(met_back hm hr zs).1, rfl⟩
theorem read_no {m : Met} (hm : m.Ok) (hr : m.right = true) {zs : List Int} (hz : zerosB zs = false) : readM (metL m ++ zs) = .zero ∧ readE (metL m ++ zs) = 6 := by
  have hb := (readB_back hm hr zs).trans hz
  unfold readM readE
  rw [hb]
  exact ⟨rfl, rfl⟩
theorem read_short {xs : List Int} (h : xs.length < 128) : readM xs = .zero ∧ readE xs = 6 := by
  have hb : readB xs = false := by
    unfold readB
    cases hq : (q8 xs).2.2 with
    | true => rfl
    | false => have := (q8_left xs hq).2; omega
  unfold readM readE
  rw [hb]
  exact ⟨rfl, rfl⟩
theorem bytesM_yes {m : Met} (h : m.right = true) : bytesM m = metL m := if_pos h
theorem bytesM_no {m : Met} (h : m.right = false) : bytesM m = [] := by unfold bytesM; rw [h]; rfl
theorem metL_small {m : Met} (hm : m.Ok) : Small (metL m) := by
  have hi : ∀ i : Img, i.Ok → Small (imgL i) := fun i h => small_append (small_append (numL_small _ _) (numL_small _ _)) (rawL_small (small_of h.by_) _)
  exact small_append (small_append (small_append (small_append (small_append (small_append (small_append (numL_small _ _) (hi _ hm.i0)) (hi _ hm.i1)) (numL_small _ _)) (numL_small _ _)) (hi _ hm.co)) (numL_small _ _)) (numL_small _ _)
theorem bytesM_small {m : Met} (hm : m.Ok) : Small (bytesM m) := by
  unfold bytesM
  split
  · exact metL_small hm
  · exact small_nil
theorem bytesM_length (m : Met) : (bytesM m).length = if m.right then 128 else 0 := by
  unfold bytesM
  split
  · exact metL_length m
  · rfl
end Go.Proofs.Ytehlcljachkgdaa.Boot
