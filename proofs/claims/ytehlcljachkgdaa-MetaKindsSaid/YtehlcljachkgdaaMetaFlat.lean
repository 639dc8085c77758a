/- A row of Metas in one block: its cells, and the rows that MetaKinds goes through. -/
import Derived.Test.YtehlcljachkgdaaMetaLive
namespace Go.Proofs.Ytehlcljachkgdaa.Boot
open Go.RowKit Go.Proofs.YtehlcljachkgdaaW.PrintWords Go.Proofs.YtehlcljachkgdaaW.PrintLast Go.Proofs.Ytehlcljachkgdaa.Kit Go.Proofs.Ytehlcljachkgdaa.Field
set_option linter.unusedSimpArgs false
set_option linter.unusedVariables false
def flatL (ms : List Met) : List Value := ms.flatMap Met.enc
def flat (ms : List Met) : Array Value := (flatL ms).toArray
theorem flatL_length : ∀ {ms : List Met}, (∀ m ∈ ms, m.Len) → (flatL ms).length = ms.length * 107
  | [], _ => rfl
  | m :: ms, h => by
    have ih := flatL_length (ms := ms) fun x hx => h x (.tail _ hx)
    unfold flatL at ih ⊢
    rw [List.flatMap_cons, List.length_append, Met.len_enc (h m (.head _)), ih, List.length_cons]
    omega
theorem flat_size {ms : List Met} (h : ∀ m ∈ ms, m.Len) : (flat ms).size = ms.length * 107 := flatL_length h
theorem flatL_split (ms : List Met) (i : Nat) (hi : i < ms.length) : flatL ms = flatL (ms.take i) ++ (ms[i].enc ++ flatL (ms.drop (i + 1))) := by
  conv => lhs; rw [← List.take_append_drop i ms, List.drop_eq_getElem_cons hi]
  unfold flatL
  rw [List.flatMap_append, List.flatMap_cons]
theorem flatL_set (ms : List Met) (i : Nat) (hi : i < ms.length) (m : Met) : flatL (ms.set i m) = flatL (ms.take i) ++ (m.enc ++ flatL (ms.drop (i + 1))) := by
  have h := flatL_split (ms.set i m) i (by rw [List.length_set]; exact hi)
  rw [h, List.drop_set_of_lt (by omega), List.take_set, List.set_eq_of_length_le (by rw [List.length_take]; omega), List.getElem_set_self]
theorem pre_length {ms : List Met} (h : ∀ m ∈ ms, m.Len) (i : Nat) (hi : i < ms.length) : (flatL (ms.take i)).length = i * 107 := by
  rw [flatL_length fun m hm => h m (List.mem_of_mem_take hm), List.length_take, Nat.min_eq_left (by omega)]
theorem flat_at {ms : List Met} (h : ∀ m ∈ ms, m.Len) (i k : Nat) (hi : i < ms.length) (hk : k < 107) : (flat ms)[i * 107 + k]? = ms[i].enc.toArray[k]? := by
  have hl : ms[i].enc.length = 107 := Met.len_enc (h _ (List.getElem_mem hi))
  unfold flat
  rw [flatL_split ms i hi]
  simp only [List.getElem?_toArray]
  rw [List.getElem?_append_right (by rw [pre_length h i hi]; omega), pre_length h i hi, Nat.add_sub_cancel_left, List.getElem?_append_left (by omega)]
theorem flat_put {ms : List Met} (h : ∀ m ∈ ms, m.Len) (i k : Nat) (hi : i < ms.length) (hk : k < 107) (v : Value) (m : Met) (e : ms[i].enc.toArray.setIfInBounds k v = m.enc.toArray) : (flat ms).setIfInBounds (i * 107 + k) v = flat (ms.set i m) := by
  have hl : ms[i].enc.length = 107 := Met.len_enc (h _ (List.getElem_mem hi))
  have e2 : ms[i].enc.set k v = m.enc := by simpa using e
  unfold flat
  rw [flatL_set ms i hi, flatL_split ms i hi]
  simp only [List.setIfInBounds_toArray]
  rw [List.set_append_right _ _ (by rw [pre_length h i hi]; omega), pre_length h i hi, Nat.add_sub_cancel_left, List.set_append_left _ _ (by omega), e2]
theorem flat_mid {ms : List Met} (h : ∀ m ∈ ms, m.Len) (i o : Nat) (hi : i < ms.length) (X : Array Value) (ho : o + X.size ≤ 107) (m : Met) (e : (ms[i].enc.toArray.toList.take o ++ X.toList ++ ms[i].enc.toArray.toList.drop (o + X.size)).toArray = m.enc.toArray) :
    ((flat ms).toList.take (i * 107 + o) ++ X.toList ++ (flat ms).toList.drop (i * 107 + o + X.size)).toArray = flat (ms.set i m) := by
  have hl : ms[i].enc.length = 107 := Met.len_enc (h _ (List.getElem_mem hi))
  have e2 : ms[i].enc.take o ++ X.toList ++ ms[i].enc.drop (o + X.size) = m.enc := by simpa using congrArg Array.toList e
  have hp := pre_length h i hi
  unfold flat
  rw [flatL_set ms i hi, ← e2]
  simp only [List.toList_toArray]
  have t1 : (flatL ms).take (i * 107 + o) = flatL (ms.take i) ++ ms[i].enc.take o := by
    rw [flatL_split ms i hi, ← hp, List.take_length_add_append, List.take_append_of_le_length (by omega)]
  have t2 : (flatL ms).drop (i * 107 + o + X.size) = ms[i].enc.drop (o + X.size) ++ flatL (ms.drop (i + 1)) := by
    rw [flatL_split ms i hi, ← hp, Nat.add_assoc, List.drop_length_add_append, List.drop_append_of_le_length (by omega)]
  rw [t1, t2]
  simp
theorem flat_cut {ms : List Met} (h : ∀ m ∈ ms, m.Len) (i : Nat) (hi : i < ms.length) : (flat ms).extract (i * 107) (i * 107 + 107) = ms[i].enc.toArray := by
  have hl : ms[i].enc.length = 107 := Met.len_enc (h _ (List.getElem_mem hi))
  have hp := pre_length h i hi
  unfold flat
  rw [flatL_split ms i hi, List.extract_toArray, List.extract_eq_take_drop, ← hp, List.drop_left, Nat.add_sub_cancel_left, ← hl, List.take_left]
/-- lengths, told by a test -/
def lens (ms : List Met) : Bool := ms.all fun m => m.i0.d.length == 32 && m.i1.d.length == 32 && m.co.d.length == 32
theorem lens_of {ms : List Met} (h : lens ms = true) : ∀ m ∈ ms, m.Len := fun m hm => by
  unfold lens at h
  rw [List.all_eq_true] at h
  have := h m hm
  simp only [Bool.and_eq_true, beq_iff_eq] at this
  exact ⟨this.1.1, this.1.2, this.2⟩
def img2 : Img := ⟨2, 321, List.replicate 32 0⟩
theorem img2_ok : img2.Ok := ⟨by simp [img2], fun x hx => by simp only [img2] at hx; rw [List.eq_of_mem_replicate hx]; rfl, rfl, rfl⟩
def k0 : Met := met15
def k1 : Met := { k0 with a := 1 }
def k2 : Met := { k0 with co := img2 }
def k3 : Met := { k0 with i1 := img2 }
def k4 : Met := { k0 with ph := 1 }
def k5a : Met := { k0 with ph := 1 }
def k5b : Met := { k5a with co := img2 }
def k5 : Met := { k5b with got := 2 }
def k6 : Met := { k5 with got := 3 }
def k7 : Met := { k5 with ph := 2 }
def k8 : Met := { k7 with got := 1 }
def k9a : Met := { k0 with ph := 3 }
def k9b : Met := { k9a with i1 := img2 }
def k9 : Met := { k9b with tr := 2 }
def kA : Met := { k9 with i1 := .zero }
def kB : Met := { k5 with i1 := img15 }
def R0 : List Met := [k0, k0, k0, k0, k0, k0, k0, k0, k0, k0, k0, k0]
theorem R0_len : ∀ m ∈ R0, m.Len := lens_of (by kernel_rfl)
theorem R0_size : (flat R0).size = 1284 := flat_size R0_len
def R1 : List Met := [k0, k1, k0, k0, k0, k0, k0, k0, k0, k0, k0, k0]
theorem R1_len : ∀ m ∈ R1, m.Len := lens_of (by kernel_rfl)
theorem R1_size : (flat R1).size = 1284 := flat_size R1_len
def R2 : List Met := [k0, k1, k2, k0, k0, k0, k0, k0, k0, k0, k0, k0]
theorem R2_len : ∀ m ∈ R2, m.Len := lens_of (by kernel_rfl)
theorem R2_size : (flat R2).size = 1284 := flat_size R2_len
def R3 : List Met := [k0, k1, k2, k3, k0, k0, k0, k0, k0, k0, k0, k0]
theorem R3_len : ∀ m ∈ R3, m.Len := lens_of (by kernel_rfl)
theorem R3_size : (flat R3).size = 1284 := flat_size R3_len
def R4 : List Met := [k0, k1, k2, k3, k4, k0, k0, k0, k0, k0, k0, k0]
theorem R4_len : ∀ m ∈ R4, m.Len := lens_of (by kernel_rfl)
theorem R4_size : (flat R4).size = 1284 := flat_size R4_len
def R5 : List Met := [k0, k1, k2, k3, k4, k5a, k0, k0, k0, k0, k0, k0]
theorem R5_len : ∀ m ∈ R5, m.Len := lens_of (by kernel_rfl)
theorem R5_size : (flat R5).size = 1284 := flat_size R5_len
def R6 : List Met := [k0, k1, k2, k3, k4, k5b, k0, k0, k0, k0, k0, k0]
theorem R6_len : ∀ m ∈ R6, m.Len := lens_of (by kernel_rfl)
theorem R6_size : (flat R6).size = 1284 := flat_size R6_len
def R7 : List Met := [k0, k1, k2, k3, k4, k5, k0, k0, k0, k0, k0, k0]
theorem R7_len : ∀ m ∈ R7, m.Len := lens_of (by kernel_rfl)
theorem R7_size : (flat R7).size = 1284 := flat_size R7_len
def R8 : List Met := [k0, k1, k2, k3, k4, k5, k5, k0, k0, k0, k0, k0]
theorem R8_len : ∀ m ∈ R8, m.Len := lens_of (by kernel_rfl)
theorem R8_size : (flat R8).size = 1284 := flat_size R8_len
def R9 : List Met := [k0, k1, k2, k3, k4, k5, k6, k0, k0, k0, k0, k0]
theorem R9_len : ∀ m ∈ R9, m.Len := lens_of (by kernel_rfl)
theorem R9_size : (flat R9).size = 1284 := flat_size R9_len
def R10 : List Met := [k0, k1, k2, k3, k4, k5, k6, k5, k0, k0, k0, k0]
theorem R10_len : ∀ m ∈ R10, m.Len := lens_of (by kernel_rfl)
theorem R10_size : (flat R10).size = 1284 := flat_size R10_len
def R11 : List Met := [k0, k1, k2, k3, k4, k5, k6, k7, k0, k0, k0, k0]
theorem R11_len : ∀ m ∈ R11, m.Len := lens_of (by kernel_rfl)
theorem R11_size : (flat R11).size = 1284 := flat_size R11_len
def R12 : List Met := [k0, k1, k2, k3, k4, k5, k6, k7, k7, k0, k0, k0]
theorem R12_len : ∀ m ∈ R12, m.Len := lens_of (by kernel_rfl)
theorem R12_size : (flat R12).size = 1284 := flat_size R12_len
def R13 : List Met := [k0, k1, k2, k3, k4, k5, k6, k7, k8, k0, k0, k0]
theorem R13_len : ∀ m ∈ R13, m.Len := lens_of (by kernel_rfl)
theorem R13_size : (flat R13).size = 1284 := flat_size R13_len
def R14 : List Met := [k0, k1, k2, k3, k4, k5, k6, k7, k8, k9a, k0, k0]
theorem R14_len : ∀ m ∈ R14, m.Len := lens_of (by kernel_rfl)
theorem R14_size : (flat R14).size = 1284 := flat_size R14_len
def R15 : List Met := [k0, k1, k2, k3, k4, k5, k6, k7, k8, k9b, k0, k0]
theorem R15_len : ∀ m ∈ R15, m.Len := lens_of (by kernel_rfl)
theorem R15_size : (flat R15).size = 1284 := flat_size R15_len
def R16 : List Met := [k0, k1, k2, k3, k4, k5, k6, k7, k8, k9, k0, k0]
theorem R16_len : ∀ m ∈ R16, m.Len := lens_of (by kernel_rfl)
theorem R16_size : (flat R16).size = 1284 := flat_size R16_len
def R17 : List Met := [k0, k1, k2, k3, k4, k5, k6, k7, k8, k9, k9, k0]
theorem R17_len : ∀ m ∈ R17, m.Len := lens_of (by kernel_rfl)
theorem R17_size : (flat R17).size = 1284 := flat_size R17_len
def R18 : List Met := [k0, k1, k2, k3, k4, k5, k6, k7, k8, k9, kA, k0]
theorem R18_len : ∀ m ∈ R18, m.Len := lens_of (by kernel_rfl)
theorem R18_size : (flat R18).size = 1284 := flat_size R18_len
def R19 : List Met := [k0, k1, k2, k3, k4, k5, k6, k7, k8, k9, kA, k5]
theorem R19_len : ∀ m ∈ R19, m.Len := lens_of (by kernel_rfl)
theorem R19_size : (flat R19).size = 1284 := flat_size R19_len
def R20 : List Met := [k0, k1, k2, k3, k4, k5, k6, k7, k8, k9, kA, kB]
theorem R20_len : ∀ m ∈ R20, m.Len := lens_of (by kernel_rfl)
theorem R20_size : (flat R20).size = 1284 := flat_size R20_len
theorem at0 : ∃ q, (flat R0)[107]? = some (.int .i64 q) := ⟨_, (flat_at R0_len 1 0 (by decide) (by decide)).trans (by kernel_rfl : (k0 : Met).enc.toArray[0]? = some (.int .i64 k0.a))⟩
theorem go0 : (flat R0).setIfInBounds 107 (.int .i64 1) = flat R1 := flat_put R0_len 1 0 (by decide) (by decide) _ k1 (Met.put_a k0 1)
theorem go1 : ((flat R1).toList.take 285 ++ (img2 : Img).enc.toArray.toList ++ (flat R1).toList.drop (285 + (img2 : Img).enc.toArray.size)).toArray = flat R2 := flat_mid R1_len 2 71 (by decide) _ (by decide) k2 (Met.put_co (R1_len k0 (by simp [R1])) img2 (by rfl))
theorem go2 : ((flat R2).toList.take 356 ++ (img2 : Img).enc.toArray.toList ++ (flat R2).toList.drop (356 + (img2 : Img).enc.toArray.size)).toArray = flat R3 := flat_mid R2_len 3 35 (by decide) _ (by decide) k3 (Met.put_i1 (R2_len k0 (by simp [R2])) img2 (by rfl))
theorem at3 : ∃ q, (flat R3)[498]? = some (.int .i64 q) := ⟨_, (flat_at R3_len 4 70 (by decide) (by decide)).trans (by kernel_rfl : (k0 : Met).enc.toArray[70]? = some (.int .i64 k0.ph))⟩
theorem go3 : (flat R3).setIfInBounds 498 (.int .i64 1) = flat R4 := flat_put R3_len 4 70 (by decide) (by decide) _ k4 (Met.put_ph (R3_len k0 (by simp [R3])) 1)
theorem at4 : ∃ q, (flat R4)[605]? = some (.int .i64 q) := ⟨_, (flat_at R4_len 5 70 (by decide) (by decide)).trans (by kernel_rfl : (k0 : Met).enc.toArray[70]? = some (.int .i64 k0.ph))⟩
theorem go4 : (flat R4).setIfInBounds 605 (.int .i64 1) = flat R5 := flat_put R4_len 5 70 (by decide) (by decide) _ k5a (Met.put_ph (R4_len k0 (by simp [R4])) 1)
theorem go5 : ((flat R5).toList.take 606 ++ (img2 : Img).enc.toArray.toList ++ (flat R5).toList.drop (606 + (img2 : Img).enc.toArray.size)).toArray = flat R6 := flat_mid R5_len 5 71 (by decide) _ (by decide) k5b (Met.put_co (R5_len k5a (by simp [R5])) img2 (by rfl))
theorem at6 : ∃ q, (flat R6)[640]? = some (.int .i64 q) := ⟨_, (flat_at R6_len 5 105 (by decide) (by decide)).trans (by kernel_rfl : (k5b : Met).enc.toArray[105]? = some (.int .i64 k5b.got))⟩
theorem go6 : (flat R6).setIfInBounds 640 (.int .i64 2) = flat R7 := flat_put R6_len 5 105 (by decide) (by decide) _ k5 (Met.put_got (R6_len k5b (by simp [R6])) 2)
theorem cut7 : (flat R7).extract 535 642 = k5.enc.toArray := flat_cut R7_len 5 (by decide)
theorem go7 : ((flat R7).toList.take 642 ++ k5.enc.toArray.toList ++ (flat R7).toList.drop (642 + k5.enc.toArray.size)).toArray = flat R8 := flat_mid R7_len 6 0 (by decide) _ (by decide) k5 (by kernel_rfl)
theorem at8 : ∃ q, (flat R8)[747]? = some (.int .i64 q) := ⟨_, (flat_at R8_len 6 105 (by decide) (by decide)).trans (by kernel_rfl : (k5 : Met).enc.toArray[105]? = some (.int .i64 k5.got))⟩
theorem go8 : (flat R8).setIfInBounds 747 (.int .i64 3) = flat R9 := flat_put R8_len 6 105 (by decide) (by decide) _ k6 (Met.put_got (R8_len k5 (by simp [R8])) 3)
theorem cut9 : (flat R9).extract 535 642 = k5.enc.toArray := flat_cut R9_len 5 (by decide)
theorem go9 : ((flat R9).toList.take 749 ++ k5.enc.toArray.toList ++ (flat R9).toList.drop (749 + k5.enc.toArray.size)).toArray = flat R10 := flat_mid R9_len 7 0 (by decide) _ (by decide) k5 (by kernel_rfl)
theorem at10 : ∃ q, (flat R10)[819]? = some (.int .i64 q) := ⟨_, (flat_at R10_len 7 70 (by decide) (by decide)).trans (by kernel_rfl : (k5 : Met).enc.toArray[70]? = some (.int .i64 k5.ph))⟩
theorem go10 : (flat R10).setIfInBounds 819 (.int .i64 2) = flat R11 := flat_put R10_len 7 70 (by decide) (by decide) _ k7 (Met.put_ph (R10_len k5 (by simp [R10])) 2)
theorem cut11 : (flat R11).extract 749 856 = k7.enc.toArray := flat_cut R11_len 7 (by decide)
theorem go11 : ((flat R11).toList.take 856 ++ k7.enc.toArray.toList ++ (flat R11).toList.drop (856 + k7.enc.toArray.size)).toArray = flat R12 := flat_mid R11_len 8 0 (by decide) _ (by decide) k7 (by kernel_rfl)
theorem at12 : ∃ q, (flat R12)[961]? = some (.int .i64 q) := ⟨_, (flat_at R12_len 8 105 (by decide) (by decide)).trans (by kernel_rfl : (k7 : Met).enc.toArray[105]? = some (.int .i64 k7.got))⟩
theorem go12 : (flat R12).setIfInBounds 961 (.int .i64 1) = flat R13 := flat_put R12_len 8 105 (by decide) (by decide) _ k8 (Met.put_got (R12_len k7 (by simp [R12])) 1)
theorem at13 : ∃ q, (flat R13)[1033]? = some (.int .i64 q) := ⟨_, (flat_at R13_len 9 70 (by decide) (by decide)).trans (by kernel_rfl : (k0 : Met).enc.toArray[70]? = some (.int .i64 k0.ph))⟩
theorem go13 : (flat R13).setIfInBounds 1033 (.int .i64 3) = flat R14 := flat_put R13_len 9 70 (by decide) (by decide) _ k9a (Met.put_ph (R13_len k0 (by simp [R13])) 3)
theorem go14 : ((flat R14).toList.take 998 ++ (img2 : Img).enc.toArray.toList ++ (flat R14).toList.drop (998 + (img2 : Img).enc.toArray.size)).toArray = flat R15 := flat_mid R14_len 9 35 (by decide) _ (by decide) k9b (Met.put_i1 (R14_len k9a (by simp [R14])) img2 (by rfl))
theorem at15 : ∃ q, (flat R15)[1069]? = some (.int .i64 q) := ⟨_, (flat_at R15_len 9 106 (by decide) (by decide)).trans (by kernel_rfl : (k9b : Met).enc.toArray[106]? = some (.int .i64 k9b.tr))⟩
theorem go15 : (flat R15).setIfInBounds 1069 (.int .i64 2) = flat R16 := flat_put R15_len 9 106 (by decide) (by decide) _ k9 (Met.put_tr (R15_len k9b (by simp [R15])) 2)
theorem cut16 : (flat R16).extract 963 1070 = k9.enc.toArray := flat_cut R16_len 9 (by decide)
theorem go16 : ((flat R16).toList.take 1070 ++ k9.enc.toArray.toList ++ (flat R16).toList.drop (1070 + k9.enc.toArray.size)).toArray = flat R17 := flat_mid R16_len 10 0 (by decide) _ (by decide) k9 (by kernel_rfl)
theorem go17 : ((flat R17).toList.take 1105 ++ (.zero : Img).enc.toArray.toList ++ (flat R17).toList.drop (1105 + (.zero : Img).enc.toArray.size)).toArray = flat R18 := flat_mid R17_len 10 35 (by decide) _ (by decide) kA (Met.put_i1 (R17_len k9 (by simp [R17])) .zero (by rfl))
theorem cut18 : (flat R18).extract 535 642 = k5.enc.toArray := flat_cut R18_len 5 (by decide)
theorem go18 : ((flat R18).toList.take 1177 ++ k5.enc.toArray.toList ++ (flat R18).toList.drop (1177 + k5.enc.toArray.size)).toArray = flat R19 := flat_mid R18_len 11 0 (by decide) _ (by decide) k5 (by kernel_rfl)
theorem go19 : ((flat R19).toList.take 1212 ++ (img15 : Img).enc.toArray.toList ++ (flat R19).toList.drop (1212 + (img15 : Img).enc.toArray.size)).toArray = flat R20 := flat_mid R19_len 11 35 (by decide) _ (by decide) kB (Met.put_i1 (R19_len k5 (by simp [R19])) img15 (by rfl))
theorem end0 : (flat R20).extract 0 107 = k0.enc.toArray := flat_cut R20_len 0 (by decide)
theorem end1 : (flat R20).extract 107 214 = k1.enc.toArray := flat_cut R20_len 1 (by decide)
theorem end2 : (flat R20).extract 214 321 = k2.enc.toArray := flat_cut R20_len 2 (by decide)
theorem end3 : (flat R20).extract 321 428 = k3.enc.toArray := flat_cut R20_len 3 (by decide)
theorem end4 : (flat R20).extract 428 535 = k4.enc.toArray := flat_cut R20_len 4 (by decide)
theorem end5 : (flat R20).extract 535 642 = k5.enc.toArray := flat_cut R20_len 5 (by decide)
theorem end6 : (flat R20).extract 642 749 = k6.enc.toArray := flat_cut R20_len 6 (by decide)
theorem end7 : (flat R20).extract 749 856 = k7.enc.toArray := flat_cut R20_len 7 (by decide)
theorem end8 : (flat R20).extract 856 963 = k8.enc.toArray := flat_cut R20_len 8 (by decide)
theorem end9 : (flat R20).extract 963 1070 = k9.enc.toArray := flat_cut R20_len 9 (by decide)
theorem end10 : (flat R20).extract 1070 1177 = kA.enc.toArray := flat_cut R20_len 10 (by decide)
theorem end11 : (flat R20).extract 1177 1284 = kB.enc.toArray := flat_cut R20_len 11 (by decide)
theorem right0 : k0.right = true := by kernel_rfl
theorem right1 : k1.right = false := by kernel_rfl
theorem right2 : k2.right = false := by kernel_rfl
theorem right3 : k3.right = true := by kernel_rfl
theorem right4 : k4.right = false := by kernel_rfl
theorem right5 : k5.right = true := by kernel_rfl
theorem right6 : k6.right = false := by kernel_rfl
theorem right7 : k7.right = true := by kernel_rfl
theorem right8 : k8.right = false := by kernel_rfl
theorem right9 : k9.right = true := by kernel_rfl
theorem right10 : kA.right = false := by kernel_rfl
theorem right11 : kB.right = false := by kernel_rfl
theorem k0_ok : k0.Ok := met15_ok
theorem k1_ok : k1.Ok := ⟨k0_ok.i0, k0_ok.i1, k0_ok.co, rfl, k0_ok.wmn, k0_ok.wph, k0_ok.wgot, k0_ok.wtr⟩
theorem k2_ok : k2.Ok := ⟨k0_ok.i0, k0_ok.i1, img2_ok, k0_ok.wa, k0_ok.wmn, k0_ok.wph, k0_ok.wgot, k0_ok.wtr⟩
theorem k3_ok : k3.Ok := ⟨k0_ok.i0, img2_ok, k0_ok.co, k0_ok.wa, k0_ok.wmn, k0_ok.wph, k0_ok.wgot, k0_ok.wtr⟩
theorem k4_ok : k4.Ok := ⟨k0_ok.i0, k0_ok.i1, k0_ok.co, k0_ok.wa, k0_ok.wmn, rfl, k0_ok.wgot, k0_ok.wtr⟩
theorem k5a_ok : k5a.Ok := ⟨k0_ok.i0, k0_ok.i1, k0_ok.co, k0_ok.wa, k0_ok.wmn, rfl, k0_ok.wgot, k0_ok.wtr⟩
theorem k5b_ok : k5b.Ok := ⟨k5a_ok.i0, k5a_ok.i1, img2_ok, k5a_ok.wa, k5a_ok.wmn, k5a_ok.wph, k5a_ok.wgot, k5a_ok.wtr⟩
theorem k5_ok : k5.Ok := ⟨k5b_ok.i0, k5b_ok.i1, k5b_ok.co, k5b_ok.wa, k5b_ok.wmn, k5b_ok.wph, rfl, k5b_ok.wtr⟩
theorem k6_ok : k6.Ok := ⟨k5_ok.i0, k5_ok.i1, k5_ok.co, k5_ok.wa, k5_ok.wmn, k5_ok.wph, rfl, k5_ok.wtr⟩
theorem k7_ok : k7.Ok := ⟨k5_ok.i0, k5_ok.i1, k5_ok.co, k5_ok.wa, k5_ok.wmn, rfl, k5_ok.wgot, k5_ok.wtr⟩
theorem k8_ok : k8.Ok := ⟨k7_ok.i0, k7_ok.i1, k7_ok.co, k7_ok.wa, k7_ok.wmn, k7_ok.wph, rfl, k7_ok.wtr⟩
theorem k9a_ok : k9a.Ok := ⟨k0_ok.i0, k0_ok.i1, k0_ok.co, k0_ok.wa, k0_ok.wmn, rfl, k0_ok.wgot, k0_ok.wtr⟩
theorem k9b_ok : k9b.Ok := ⟨k9a_ok.i0, img2_ok, k9a_ok.co, k9a_ok.wa, k9a_ok.wmn, k9a_ok.wph, k9a_ok.wgot, k9a_ok.wtr⟩
theorem k9_ok : k9.Ok := ⟨k9b_ok.i0, k9b_ok.i1, k9b_ok.co, k9b_ok.wa, k9b_ok.wmn, k9b_ok.wph, k9b_ok.wgot, rfl⟩
theorem kA_ok : kA.Ok := ⟨k9_ok.i0, Img.zero_ok, k9_ok.co, k9_ok.wa, k9_ok.wmn, k9_ok.wph, k9_ok.wgot, k9_ok.wtr⟩
theorem kB_ok : kB.Ok := ⟨k5_ok.i0, img15_ok, k5_ok.co, k5_ok.wa, k5_ok.wmn, k5_ok.wph, k5_ok.wgot, k5_ok.wtr⟩
end Go.Proofs.Ytehlcljachkgdaa.Boot
