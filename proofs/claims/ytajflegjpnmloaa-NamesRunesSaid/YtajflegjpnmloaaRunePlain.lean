/- Plain: bytes and runes, there and back. -/
import Derived.Test.YtajflegjpnmloaaNames
import Derived.Lib.MapLaws
import Derived.Lib.RuneBytes
namespace Go.Proofs.Ytajflegjpnmloaa.RunePlain
open Go.Lib Go.Proofs.Ytajflegjpnmloaa.Runes Go.Proofs.Ytajflegjpnmloaa.Names

/-- the runes of a row of bytes -/
def runesL : Nat → List UInt8 → List Int
  | 0, _ => []
  | _ + 1, [] => []
  | f + 1, b :: t => ((decodeL (b :: t)).1 : Int) :: runesL f ((b :: t).drop (decodeL (b :: t)).2)
theorem runesL_nil : ∀ f, runesL f [] = []
  | 0 => rfl
  | _ + 1 => rfl
theorem runesFrom_eq (s : ByteArray) : ∀ f pos, runesFrom s f pos = runesL f (s.data.toList.drop pos)
  | 0, _ => rfl
  | f + 1, pos => by
    have hsz : s.size = s.data.toList.length := by simp
    unfold runesFrom
    by_cases h : pos < s.size
    · rw [if_pos h, ← decodeL_drop, runesFrom_eq s f]
      cases hd : s.data.toList.drop pos with
      | nil => simp at hd; omega
      | cons b t =>
        have e : runesL (f + 1) (b :: t) = ((decodeL (b :: t)).1 : Int) :: runesL f ((b :: t).drop (decodeL (b :: t)).2) := rfl
        rw [e, ← hd, List.drop_drop]
    · rw [if_neg h, List.drop_eq_nil_of_le (by omega), runesL_nil]
theorem width1 (l : List UInt8) : 1 ≤ (decodeL l).2 := by unfold decodeL; exact width_pos _ _
theorem runesL_fuel : ∀ (f g : Nat) (l : List UInt8), l.length ≤ f → l.length ≤ g → runesL f l = runesL g l
  | _, _, [], _, _ => by rw [runesL_nil, runesL_nil]
  | 0, _, _ :: _, h, _ => by simp at h
  | _, 0, _ :: _, _, h => by simp at h
  | f + 1, g + 1, b :: t, h, k => by
    have hw := width1 (b :: t)
    simp only [List.length_cons] at h k
    unfold runesL
    rw [runesL_fuel f g _ (by simp only [List.length_drop, List.length_cons]; omega) (by simp only [List.length_drop, List.length_cons]; omega)]
/-- the runes of a row of bytes -/
def runesOf (l : List UInt8) : List Int := runesL l.length l
theorem runes_eq (s : ByteArray) : runes s = runesOf s.data.toList := by
  unfold runes runesOf
  rw [runesFrom_eq, List.drop_zero]
  exact runesL_fuel _ _ _ (by simp) (Nat.le_refl _)
theorem runesOf_nil : runesOf [] = [] := rfl
theorem runesOf_cons (l : List UInt8) (h : l ≠ []) : runesOf l = ((decodeL l).1 : Int) :: runesOf (l.drop (decodeL l).2) := by
  cases l with
  | nil => exact absurd rfl h
  | cons b t =>
    have hw := width1 (b :: t)
    show runesL (t.length + 1) (b :: t) = _
    unfold runesL
    rw [show runesOf ((b :: t).drop (decodeL (b :: t)).2) = runesL t.length ((b :: t).drop (decodeL (b :: t)).2) from runesL_fuel _ _ _ (Nat.le_refl _) (by simp only [List.length_drop, List.length_cons]; omega)]

theorem enc_byte (x : Int) (_ : 0 ≤ x) (h1 : x < 256) : x.toNat.toUInt8.toNat = x.toNat := by
  simp; omega
/-- a good rune, written, is read again -/
theorem decode_enc (r : Int) (h : validRune r = true) (t : List UInt8) : decodeL (encodeRune r ++ t) = (r.toNat, (encodeRune r).length) := by
  have hv : (0 ≤ r ∧ r < 55296) ∨ (57343 < r ∧ r ≤ 1114111) := by simpa [validRune] using h
  rw [decodeL_N]
  unfold encodeRune
  by_cases h1 : r ≤ 127
  · rw [encodeRuneZ_one (by omega) h1]
    have e0 := enc_byte r (by omega) (by omega)
    simp only [List.map_cons, List.map_nil, List.cons_append, List.nil_append, List.getD_cons_zero, e0, List.length_cons, List.length_nil]
    unfold decodeN
    rw [if_pos (by omega)]
  · by_cases h2 : r ≤ 2047
    · rw [encodeRuneZ_two (by omega) h2]
      have e0 := enc_byte (192 + r / 64) (by omega) (by omega)
      have e1 := enc_byte (128 + r % 64) (by omega) (by omega)
      simp only [List.map_cons, List.map_nil, List.cons_append, List.nil_append, List.getD_cons_zero, List.getD_cons_succ, e0, e1, List.length_cons, List.length_nil]
      unfold decodeN
      rw [if_neg (by omega), if_pos (by omega), if_pos (by omega)]
      congr 1; omega
    · by_cases h3 : r ≤ 65535
      · rw [encodeRuneZ_three (by omega)]
        have e0 := enc_byte (224 + r / 4096) (by omega) (by omega)
        have e1 := enc_byte (128 + r / 64 % 64) (by omega) (by omega)
        have e2 := enc_byte (128 + r % 64) (by omega) (by omega)
        simp only [List.map_cons, List.map_nil, List.cons_append, List.nil_append, List.getD_cons_zero, List.getD_cons_succ, e0, e1, e2, List.length_cons, List.length_nil]
        unfold decodeN
        rw [if_neg (by omega), if_neg (by omega), if_pos (by omega), if_pos (by omega)]
        congr 1; omega
      · rw [encodeRuneZ_four (by omega) (by omega)]
        have e0 := enc_byte (240 + r / 262144) (by omega) (by omega)
        have e1 := enc_byte (128 + r / 4096 % 64) (by omega) (by omega)
        have e2 := enc_byte (128 + r / 64 % 64) (by omega) (by omega)
        have e3 := enc_byte (128 + r % 64) (by omega) (by omega)
        simp only [List.map_cons, List.map_nil, List.cons_append, List.nil_append, List.getD_cons_zero, List.getD_cons_succ, e0, e1, e2, e3, List.length_cons, List.length_nil]
        unfold decodeN
        rw [if_neg (by omega), if_neg (by omega), if_neg (by omega), if_pos (by omega), if_pos (by omega)]
        congr 1; omega
/-- the bytes of runes -/
def bytesOf (l : List Int) : List UInt8 := l.flatMap encodeRune
theorem enc_ne (r : Int) : encodeRune r ≠ [] := by
  have h := (encodeRuneZ_length r).1
  intro e
  have : (encodeRune r).length = 0 := by rw [e]; rfl
  simp [encodeRune] at this
  rw [this] at h
  simp at h
theorem runesOf_bytesOf : ∀ l : List Int, (∀ r ∈ l, validRune r = true) → runesOf (bytesOf l) = l
  | [], _ => rfl
  | r :: l, h => by
    have hr := h r (by simp)
    have hv : (0 ≤ r ∧ r < 55296) ∨ (57343 < r ∧ r ≤ 1114111) := by simpa [validRune] using hr
    have e : bytesOf (r :: l) = encodeRune r ++ bytesOf l := rfl
    rw [e, runesOf_cons _ (by simp [enc_ne]), decode_enc r hr]
    simp only [List.drop_left]
    rw [runesOf_bytesOf l (fun x hx => h x (by simp [hx]))]
    congr 1; omega
theorem encode_data (r : Int) : (Utf8.encode r).data.toList = encodeRune r := by
  unfold Utf8.encode
  rw [validRune_eq]
  by_cases hv : validRune r = true
  · have hv' : (0 ≤ r ∧ r < 55296) ∨ (57343 < r ∧ r ≤ 1114111) := by simpa [validRune] using hv
    rw [if_pos hv]
    unfold encodeRune
    dsimp only
    by_cases h1 : r ≤ 127
    · rw [encodeRuneZ_one (by omega) h1, if_pos (by omega)]; rfl
    · by_cases h2 : r ≤ 2047
      · rw [encodeRuneZ_two (by omega) h2, if_neg (by omega), if_pos (by omega)]
        simp only [List.map_cons, List.map_nil]
        rw [show (192 + r / 64).toNat = 192 + r.toNat / 64 by omega, show (128 + r % 64).toNat = 128 + r.toNat % 64 by omega]
      · by_cases h3 : r ≤ 65535
        · rw [encodeRuneZ_three (by omega), if_neg (by omega), if_neg (by omega), if_pos (by omega)]
          simp only [List.map_cons, List.map_nil]
          rw [show (224 + r / 4096).toNat = 224 + r.toNat / 4096 by omega, show (128 + r / 64 % 64).toNat = 128 + r.toNat / 64 % 64 by omega, show (128 + r % 64).toNat = 128 + r.toNat % 64 by omega]
        · rw [encodeRuneZ_four (by omega) (by omega), if_neg (by omega), if_neg (by omega), if_neg (by omega)]
          simp only [List.map_cons, List.map_nil]
          rw [show (240 + r / 262144).toNat = 240 + r.toNat / 262144 by omega, show (128 + r / 4096 % 64).toNat = 128 + r.toNat / 4096 % 64 by omega, show (128 + r / 64 % 64).toNat = 128 + r.toNat / 64 % 64 by omega, show (128 + r % 64).toNat = 128 + r.toNat % 64 by omega]
  · have hv' : r < 0 ∨ (55296 ≤ r ∧ r ≤ 57343) ∨ 1114111 < r := by
      simp [validRune] at hv; omega
    rw [if_neg hv]
    unfold encodeRune
    rw [encodeRuneZ_bad hv']
    rfl
theorem fold_data (l : List Int) : ∀ s : ByteArray, (l.foldl (fun r n => r ++ Utf8.encode n) s).data.toList = s.data.toList ++ bytesOf l := by
  induction l with
  | nil => intro s; simp [bytesOf]
  | cons r l ih =>
    intro s
    rw [List.foldl_cons, ih]
    simp [bytesOf, encode_data, ByteArray.data_append]
theorem runesBytes_data (l : List Int) : (runesBytes l).data.toList = bytesOf l := by
  unfold runesBytes
  rw [fold_data]
  simp
theorem bytes_ext {a b : ByteArray} (h : a.data.toList = b.data.toList) : a = b := by
  cases a; cases b
  simp only [ByteArray.mk.injEq]
  exact Array.toList_inj.1 h
theorem runes_runesBytes (l : List Int) (h : ∀ r ∈ l, validRune r = true) : runes (runesBytes l) = l := by
  rw [runes_eq, runesBytes_data, runesOf_bytesOf l h]
theorem may_valid {r : Int} (h : mayB r = true) : validRune r = true := by
  simp [mayB] at h
  simp [validRune]; omega
theorem may_not {r : Int} (h : mayB r = true) : r ≠ 65533 := by
  simp [mayB] at h
  omega
/-- bytes whose runes are all of a name are the bytes of these runes -/
theorem bytesOf_runesOf : ∀ (n : Nat) (l : List UInt8), l.length ≤ n → (∀ r ∈ runesOf l, mayB r = true) → bytesOf (runesOf l) = l
  | _, [], _, _ => rfl
  | 0, _ :: _, h, _ => by simp at h
  | n + 1, b :: t, h, hm => by
    have hw := width1 (b :: t)
    rw [runesOf_cons (b :: t) (by simp)] at hm ⊢
    have h1 := may_not (hm _ (List.mem_cons_self ..))
    have e := encode_decode (b :: t) (by simp) (fun h2 => h1 (by rw [h2.1]; rfl))
    have ih := bytesOf_runesOf n ((b :: t).drop (decodeL (b :: t)).2) (by simp only [List.length_drop, List.length_cons] at h ⊢; omega) (fun r hr => hm r (by simp [hr]))
    show encodeRune _ ++ bytesOf _ = _
    rw [e, ih, List.take_append_drop]
theorem runesBytes_runes (s : ByteArray) (h : (runes s).all mayB = true) : runesBytes (runes s) = s := by
  apply bytes_ext
  rw [runesBytes_data, runes_eq]
  rw [runes_eq] at h
  exact bytesOf_runesOf _ _ (Nat.le_refl _) (by simpa using h)
end Go.Proofs.Ytajflegjpnmloaa.RunePlain
