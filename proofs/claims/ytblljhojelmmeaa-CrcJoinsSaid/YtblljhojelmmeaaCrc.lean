/- Plain facts on CRC-32 as one works it out bit by bit; no program in sight. -/
namespace Go.Proofs.Ytblljhojelmmeaa.Crc
def poly : BitVec 32 := 0xedb88320#32
def one (x : BitVec 32) : BitVec 32 := if x.getLsbD 0 then (x >>> 1) ^^^ poly else x >>> 1
def rep : Nat → BitVec 32 → BitVec 32
  | 0, x => x
  | n + 1, x => rep n (one x)
def byte (x : BitVec 32) (c : BitVec 8) : BitVec 32 := rep 8 (x ^^^ c.setWidth 32)
def run (x : BitVec 32) (l : List (BitVec 8)) : BitVec 32 := l.foldl byte x

theorem one_top (x : BitVec 32) : (one x).getLsbD 31 = x.getLsbD 0 := by
  unfold one
  have hp : poly.getLsbD 31 = true := by decide
  by_cases h : x.getLsbD 0 = true
  · rw [if_pos h, BitVec.getLsbD_xor, hp, BitVec.getLsbD_ushiftRight, h]
    rw [BitVec.getLsbD_of_ge _ _ (by omega)]; rfl
  · rw [if_neg h, BitVec.getLsbD_ushiftRight, BitVec.getLsbD_of_ge _ _ (by omega)]
    simpa using h

theorem one_inj {x y : BitVec 32} (h : one x = one y) : x = y := by
  have hl : x.getLsbD 0 = y.getLsbD 0 := by rw [← one_top, ← one_top, h]
  have hs : x >>> 1 = y >>> 1 := by
    unfold one at h
    rw [hl] at h
    by_cases hy : y.getLsbD 0 = true
    · rw [if_pos hy, if_pos hy] at h
      have := congrArg (· ^^^ poly) h
      simpa [BitVec.xor_assoc] using this
    · rw [if_neg hy, if_neg hy] at h
      exact h
  apply BitVec.eq_of_getLsbD_eq
  intro i hi
  rcases i with _ | i
  · exact hl
  · have := congrArg (fun z => z.getLsbD i) hs
    simpa [BitVec.getLsbD_ushiftRight, Nat.add_comm] using this

theorem rep_inj : ∀ (n : Nat) {x y : BitVec 32}, rep n x = rep n y → x = y
  | 0, _, _, h => h
  | n + 1, _, _, h => one_inj (rep_inj n h)

theorem xor_cancel {x y z : BitVec 32} (h : x ^^^ z = y ^^^ z) : x = y := by
  have := congrArg (· ^^^ z) h
  simpa [BitVec.xor_assoc] using this
theorem xor_cancel_left {x y z : BitVec 32} (h : z ^^^ x = z ^^^ y) : x = y := by
  have := congrArg (z ^^^ ·) h
  simpa [← BitVec.xor_assoc] using this

theorem byte_inj {x y : BitVec 32} {c : BitVec 8} (h : byte x c = byte y c) : x = y := xor_cancel (rep_inj 8 h)
theorem byte_inj' {x : BitVec 32} {c d : BitVec 8} (h : byte x c = byte x d) : c = d := by
  have := xor_cancel_left (rep_inj 8 h)
  apply BitVec.eq_of_getLsbD_eq
  intro i hi
  have := congrArg (fun z => z.getLsbD i) this
  simpa [hi, show i < 32 by omega] using this

theorem run_inj {x y : BitVec 32} : ∀ {l : List (BitVec 8)}, run x l = run y l → x = y := by
  intro l
  induction l generalizing x y with
  | nil => exact id
  | cons c l ih => exact fun h => byte_inj (ih h)

theorem run_append (x : BitVec 32) (a b : List (BitVec 8)) : run x (a ++ b) = run (run x a) b := by
  simp [run, List.foldl_append]

theorem run_set_ne (x : BitVec 32) (l : List (BitVec 8)) (k : Nat) (hk : k < l.length) (c : BitVec 8) (hc : c ≠ l[k]) : run x (l.set k c) ≠ run x l := by
  intro h
  have e1 : l = l.take k ++ l[k] :: l.drop (k + 1) := by rw [← List.drop_eq_getElem_cons hk, List.take_append_drop]
  have e2 : l.set k c = l.take k ++ c :: l.drop (k + 1) := by rw [List.set_eq_take_append_cons_drop, if_pos hk]
  rw [e2] at h
  conv at h => rhs; rw [e1]
  rw [run_append, run_append] at h
  have h2 : run (byte (run x (l.take k)) c) (l.drop (k + 1)) = run (byte (run x (l.take k)) l[k]) (l.drop (k + 1)) := h
  exact hc (byte_inj' (run_inj h2))

/-! linearity, and the constant that is left behind a sum -/
theorem one_xor (x y : BitVec 32) : one (x ^^^ y) = one x ^^^ one y := by
  unfold one
  rw [BitVec.getLsbD_xor]
  apply BitVec.eq_of_getLsbD_eq
  intro i hi
  cases hx : x.getLsbD 0 <;> cases hy : y.getLsbD 0 <;> simp [BitVec.getLsbD_ushiftRight] <;>
    cases x.getLsbD (1 + i) <;> cases y.getLsbD (1 + i) <;> cases poly.getLsbD i <;> rfl
theorem rep_xor : ∀ (n : Nat) (x y : BitVec 32), rep n (x ^^^ y) = rep n x ^^^ rep n y
  | 0, _, _ => rfl
  | n + 1, x, y => by simp only [rep]; rw [one_xor, rep_xor n]
theorem rep_add (n m : Nat) (x : BitVec 32) : rep (n + m) x = rep m (rep n x) := by
  induction n generalizing x with
  | zero => simp [rep]
  | succ n ih => rw [Nat.succ_add]; simp only [rep]; exact ih _

theorem one_shift (z : BitVec 32) (h : z.getLsbD 31 = false) : one (z <<< 1) = z := by
  unfold one
  have h0 : (z <<< 1).getLsbD 0 = false := by simp
  rw [h0]
  apply BitVec.eq_of_getLsbD_eq
  intro i hi
  simp only [Bool.false_eq_true, if_false, BitVec.getLsbD_ushiftRight, BitVec.getLsbD_shiftLeft]
  by_cases h1 : i = 31
  · subst h1; rw [h]; simp
  · have : 1 + i < 32 := by omega
    have e : 1 + i - 1 = i := by omega
    simp [this, e]
theorem rep_shift (z : BitVec 32) : ∀ (n : Nat), (∀ i, 32 - n ≤ i → z.getLsbD i = false) → n ≤ 32 → rep n (z <<< n) = z
  | 0, _, _ => by simp [rep]
  | n + 1, h, hn => by
    have e : z <<< (n + 1) = (z <<< n) <<< 1 := by rw [BitVec.shiftLeft_add]
    simp only [rep]
    rw [e, one_shift _ (by rw [BitVec.getLsbD_shiftLeft]; by_cases h31 : 31 < n; omega; rw [h _ (by omega)]; simp)]
    exact rep_shift z n (fun i hi => h i (by omega)) (by omega)

def lane (s : BitVec 32) (k : Nat) : BitVec 8 := (s >>> (8 * k)).setWidth 8

theorem low_byte (x : BitVec 32) (c : BitVec 8) (k : Nat) (hk : k ≤ 3) : rep (8 * k) x ^^^ c.setWidth 32 = rep (8 * k) (x ^^^ (c.setWidth 32 <<< (8 * k))) := by
  rw [rep_xor, rep_shift _ _ _ (by omega)]
  intro i hi
  simp
  intro _
  exact BitVec.getLsbD_of_ge _ _ (by omega)

theorem lanes (s : BitVec 32) : (lane s 0).setWidth 32 <<< (8 * 0) ^^^ (lane s 1).setWidth 32 <<< (8 * 1) ^^^ (lane s 2).setWidth 32 <<< (8 * 2) ^^^ (lane s 3).setWidth 32 <<< (8 * 3) = s := by
  apply BitVec.eq_of_getLsbD_eq
  intro i hi
  unfold lane
  by_cases h1 : i < 8
  · simp [BitVec.getLsbD_ushiftRight, h1, hi, show i < 16 by omega, show i < 24 by omega]
  · by_cases h2 : i < 16
    · simp [BitVec.getLsbD_ushiftRight, h1, h2, hi, show i < 24 by omega, show i - 8 < 8 by omega, show 8 + (i - 8) = i by omega]
    · by_cases h3 : i < 24
      · simp [BitVec.getLsbD_ushiftRight, h1, h2, h3, hi, show ¬ (i - 8 < 8) by omega, show i - 16 < 8 by omega, show 16 + (i - 16) = i by omega]
      · simp [BitVec.getLsbD_ushiftRight, h1, h2, h3, hi, show ¬ (i - 8 < 8) by omega, show ¬ (i - 16 < 8) by omega, show i - 24 < 8 by omega, show 24 + (i - 24) = i by omega]

theorem run_own (c : BitVec 32) : run c [lane (c ^^^ 0xffffffff#32) 0, lane (c ^^^ 0xffffffff#32) 1, lane (c ^^^ 0xffffffff#32) 2, lane (c ^^^ 0xffffffff#32) 3] = 0xdebb20e3#32 := by
  generalize hs : c ^^^ 0xffffffff#32 = s
  have hc : c ^^^ s = 0xffffffff#32 := by rw [← hs, ← BitVec.xor_assoc, BitVec.xor_self, BitVec.zero_xor]
  generalize h0 : lane s 0 = b0
  generalize h1 : lane s 1 = b1
  generalize h2 : lane s 2 = b2
  generalize h3 : lane s 3 = b3
  have hl := lanes s
  rw [h0, h1, h2, h3] at hl
  have e1 : byte c b0 = rep (8 * 1) (c ^^^ b0.setWidth 32 <<< (8 * 0)) := by simp [byte]
  have st : ∀ (k : Nat) (x : BitVec 32) (b : BitVec 8), k ≤ 3 → byte (rep (8 * k) x) b = rep (8 * (k + 1)) (x ^^^ (b.setWidth 32 <<< (8 * k))) := by
    intro k x b hk
    unfold byte
    rw [low_byte _ _ k hk, ← rep_add]
    rfl
  show byte (byte (byte (byte c b0) b1) b2) b3 = _
  rw [e1, st 1 _ _ (by omega), st 2 _ _ (by omega), st 3 _ _ (by omega)]
  have e : c ^^^ b0.setWidth 32 <<< (8 * 0) ^^^ b1.setWidth 32 <<< (8 * 1) ^^^ b2.setWidth 32 <<< (8 * 2) ^^^ b3.setWidth 32 <<< (8 * 3) = c ^^^ s := by
    conv => rhs; rw [← hl]
    simp only [BitVec.xor_assoc]
  rw [e, hc]
  decide +kernel
end Go.Proofs.Ytblljhojelmmeaa.Crc
