/- Plain facts: requests and answers as bytes, and as they are read; no program in sight. -/
import Derived.Test.YtehlcljachkgdaaFieldPlain
namespace Go.Proofs.Ytehlcljachkgdaa.Req
open Go.RowKit Go.Proofs.YtehlcljachkgdaaW.PrintWords Go.Proofs.YtehlcljachkgdaaW.PrintLast Go.Proofs.Ytehlcljachkgdaa.Kit Go.Proofs.Ytehlcljachkgdaa.Field

def number (n : Int) : Bool := decide (0 ≤ n) && decide (n ≤ 2147483647)
/-- may a request be? -/
def right (k n : Int) (m : Nat) : Bool := decide (1 ≤ k) && decide (k ≤ 9) && number n && decide (m ≤ 1000)
def reqL (k n : Int) (bs : List Int) : List Int := numL k 1 ++ numL n 4 ++ numL bs.length 2 ++ bs
def reqB (k n : Int) (bs : List Int) : List Int := if right k n bs.length then reqL k n bs else []
/-- may an answer be? -/
def rightA (e n g : Int) : Bool := decide (0 ≤ e) && decide (e ≤ 16) && number n && number g
def ansL (e n g : Int) : List Int := numL e 1 ++ numL n 4 ++ numL g 4
def ansB (e n g : Int) : List Int := if rightA e n g then ansL e n g else []

/-- a reader's state: what is left, whether bytes were missing -/
abbrev St := List Int × Bool
def step (s : St) (k : Nat) : St := (rest s.1 s.2 k, !takeOk s.1 s.2 k)
def gotS (s : St) (k : Nat) : List Int := got s.1 s.2 k

/-- a request as the program reads it -/
def readReq (xs : List Int) : Option (Int × Int × List Int) :=
  let s1 := step (xs, false) 1
  let s2 := step s1 4
  let s3 := step s2 2
  let k := numOf (gotS (xs, false) 1)
  let n := numOf (gotS s1 4)
  let z := numOf (gotS s2 2)
  if s3.2 = true ∨ z ≠ s3.1.length ∨ 1000 < z then none
  else if right k n (gotS s3 (clip z 1000)).length then some (k, n, gotS s3 (clip z 1000)) else none
/-- as the reference reads it -/
def refReq (xs : List Int) : Option (Int × Int × List Int) :=
  let s1 := step (xs, false) 1
  let s2 := step s1 4
  let s3 := step s2 2
  let k := numOf (gotS (xs, false) 1)
  let n := numOf (gotS s1 4)
  let z := numOf (gotS s2 2)
  let bs := if z ≤ 1000 then gotS s3 (clip z 1000) else []
  let s4 := if z ≤ 1000 then step s3 (clip z 1000) else s3
  if s4.2 = true ∨ reqB k n bs = [] ∨ reqB k n bs ≠ xs then none else some (k, n, bs)
/-- an answer as the program reads it -/
def readAns (xs : List Int) : Option (Int × Int × Int) :=
  let s1 := step (xs, false) 1
  let s2 := step s1 4
  let s3 := step s2 4
  let e := numOf (gotS (xs, false) 1)
  let n := numOf (gotS s1 4)
  let g := numOf (gotS s2 4)
  if s3.2 = false ∧ s3.1.length = 0 ∧ rightA e n g then some (e, n, g) else none
/-- as the reference reads it -/
def refAns (xs : List Int) : Option (Int × Int × Int) :=
  let s1 := step (xs, false) 1
  let s2 := step s1 4
  let s3 := step s2 4
  let e := numOf (gotS (xs, false) 1)
  let n := numOf (gotS s1 4)
  let g := numOf (gotS s2 4)
  if s3.2 = true ∨ ansB e n g = [] ∨ ansB e n g ≠ xs then none else some (e, n, g)

theorem step_bad (xs : List Int) (k : Nat) : step (xs, true) k = ([], true) ∧ gotS (xs, true) k = [] := ⟨rfl, rfl⟩
theorem step_short {xs : List Int} {k : Nat} (h : xs.length < k) : step (xs, false) k = ([], true) ∧ gotS (xs, false) k = [] := by
  have hk : takeOk xs false k = false := by unfold takeOk; simp; omega
  constructor
  · unfold step rest; simp only [hk]; rfl
  · unfold gotS got; simp only [hk]; rfl
theorem step_ok (a b : List Int) : step (a ++ b, false) a.length = (b, false) ∧ gotS (a ++ b, false) a.length = a := by
  have hk : takeOk (a ++ b) false a.length = true := by unfold takeOk; simp
  constructor
  · unfold step rest; simp only [hk]; simp
  · unfold gotS got; simp only [hk]; simp
/-- a row in parts -/
theorem cut_at (xs : List Int) (k : Nat) (h : k ≤ xs.length) : ∃ a b, xs = a ++ b ∧ a.length = k := ⟨xs.take k, xs.drop k, (List.take_append_drop k xs).symm, by rw [List.length_take]; omega⟩

theorem numL_val : ∀ {l : List Int}, Small l → numL (val l) l.length = l
  | [], _ => rfl
  | c :: l, h => by
    have hc := mem_small h c (by simp)
    have hl : Small l := small_mem fun x hx => mem_small h x (by simp [hx])
    obtain ⟨v0, v1⟩ := val_range hl
    have hp : (0 : Int) < 256 ^ l.length := Int.pow_pos (by omega)
    rw [List.length_cons, numL_succ, val_cons]
    have e2 : (2 : Int) ^ (8 * l.length) = 256 ^ l.length := by rw [Int.pow_mul]; rfl
    have hb : byteAt (c * 256 ^ l.length + val l) l.length = c := by
      unfold byteAt
      rw [e2]
      generalize (256 : Int) ^ l.length = p at *
      have : (c * p + val l) / p = c := by
        rw [Int.add_comm, Int.add_mul_ediv_right _ _ (by omega), Int.ediv_eq_zero_of_lt v0 v1]
        omega
      rw [this]
      omega
    rw [hb]
    congr 1
    have hm : numL (c * 256 ^ l.length + val l) l.length = numL (val l) l.length := by
      unfold numL
      apply List.map_congr_left
      intro t ht
      have htl := List.mem_range.1 ht
      unfold byteAt
      obtain ⟨j, hj⟩ : ∃ j, l.length - 1 - t = j := ⟨_, rfl⟩
      rw [hj]
      have e3 : (256 : Int) ^ l.length = 256 * 256 ^ (l.length - 1 - j) * 2 ^ (8 * j) := by
        have e4 : (2 : Int) ^ (8 * j) = 256 ^ j := by rw [Int.pow_mul]; rfl
        have e5 : (256 : Int) * 256 ^ (l.length - 1 - j) = 256 ^ (l.length - 1 - j + 1) := by rw [Int.pow_succ]; exact Int.mul_comm _ _
        rw [e4, e5, ← Int.pow_add]
        congr 1
        omega
      have hq : (0 : Int) < 2 ^ (8 * j) := Int.pow_pos (by omega)
      rw [e3, ← Int.mul_assoc, Int.add_comm, Int.add_mul_ediv_right _ _ (by omega)]
      have e6 : c * (256 * 256 ^ (l.length - 1 - j)) = c * 256 ^ (l.length - 1 - j) * 256 := by
        rw [Int.mul_comm 256, Int.mul_assoc]
      rw [e6, Int.add_mul_emod_self_right]
    rw [hm, numL_val hl]

theorem small_left {a b : List Int} (h : Small (a ++ b)) : Small a := small_mem fun x hx => mem_small h x (by simp [hx])
theorem small_right {a b : List Int} (h : Small (a ++ b)) : Small b := small_mem fun x hx => mem_small h x (by simp [hx])

theorem reqL_length (k n : Int) (bs : List Int) : (reqL k n bs).length = 7 + bs.length := by simp [reqL, numL_length]; omega
theorem reqB_length {k n : Int} {bs : List Int} (h : right k n bs.length = true) : (reqB k n bs).length = 7 + bs.length := by unfold reqB; rw [if_pos h, reqL_length]
theorem reqL_small {k n : Int} {bs : List Int} (h : Small bs) : Small (reqL k n bs) := small_append (small_append (small_append (numL_small _ _) (numL_small _ _)) (numL_small _ _)) h
theorem ansL_length (e n g : Int) : (ansL e n g).length = 9 := by simp [ansL, numL_length]
theorem ansL_small (e n g : Int) : Small (ansL e n g) := small_append (small_append (numL_small _ _) (numL_small _ _)) (numL_small _ _)
theorem right_le {k n : Int} {m : Nat} (h : right k n m = true) : 1 ≤ k ∧ k ≤ 9 ∧ 0 ≤ n ∧ n ≤ 2147483647 ∧ m ≤ 1000 := by
  simp [right, number] at h; omega

theorem val_lt {l : List Int} (h : Small l) {k : Nat} (hl : l.length = k) : 0 ≤ val l ∧ val l < 256 ^ k := by rw [← hl]; exact val_range h

/-- of seven bytes and more: what is read -/
theorem read_parts {a b c d : List Int} (ha : a.length = 1) (hb : b.length = 4) (hc : c.length = 2) (hs : Small (a ++ (b ++ (c ++ d)))) :
    readReq (a ++ (b ++ (c ++ d))) = (if val c = d.length ∧ right (val a) (val b) d.length = true then some (val a, val b, d) else none) ∧
    refReq (a ++ (b ++ (c ++ d))) = (if val c = d.length ∧ right (val a) (val b) d.length = true then some (val a, val b, d) else none) := by
  obtain ⟨p1, p2⟩ := step_ok a (b ++ (c ++ d))
  obtain ⟨p3, p4⟩ := step_ok b (c ++ d)
  obtain ⟨p5, p6⟩ := step_ok c d
  rw [ha] at p1 p2
  rw [hb] at p3 p4
  rw [hc] at p5 p6
  have sa := small_left hs
  have sb := small_left (small_right hs)
  have sc := small_left (small_right (small_right hs))
  have sd := small_right (small_right (small_right hs))
  have na : numOf a = val a := numOf_small sa (by omega)
  have nb : numOf b = val b := numOf_small sb (by omega)
  have nc : numOf c = val c := numOf_small sc (by omega)
  obtain ⟨c0, c1⟩ := val_lt sc hc
  have e2 : (256 : Int) ^ 2 = 65536 := by decide
  have la : numL (val a) 1 = a := by rw [← ha]; exact numL_val sa
  have lb : numL (val b) 4 = b := by rw [← hb]; exact numL_val sb
  have lc : numL (val c) 2 = c := by rw [← hc]; exact numL_val sc
  constructor
  · unfold readReq
    simp only [p1, p2, p3, p4, p5, p6, na, nb, nc]
    by_cases hz : val c = d.length
    · by_cases h1 : (1000 : Int) < val c
      · rw [if_pos (by right; right; exact h1), if_neg (by rintro ⟨_, h⟩; have := right_le h; omega)]
      · have hcl : clip (val c) 1000 = d.length := by rw [clip_in (by omega) (by omega)]; omega
        obtain ⟨_, p8⟩ := step_ok d []
        rw [List.append_nil] at p8
        rw [hcl, p8]
        rw [if_neg (by simp; exact ⟨hz, by omega⟩)]
        by_cases hr : right (val a) (val b) d.length = true
        · rw [if_pos hr, if_pos ⟨hz, hr⟩]
        · rw [if_neg hr, if_neg (fun h => hr h.2)]
    · rw [if_pos (by right; left; exact hz), if_neg (fun h => hz h.1)]
  · unfold refReq
    simp only [p1, p2, p3, p4, p5, p6, na, nb, nc]
    by_cases h1 : val c ≤ 1000
    · have hcl : clip (val c) 1000 = (val c).toNat := clip_in c0 h1
      simp only [if_pos h1, hcl]
      by_cases hd : d.length < (val c).toNat
      · obtain ⟨p7, p8⟩ := step_short hd
        rw [p7, p8]
        rw [if_pos (by left; rfl), if_neg (by rintro ⟨h, _⟩; omega)]
      · obtain ⟨d1, d2, rfl, hd1⟩ := cut_at d _ (by omega : (val c).toNat ≤ d.length)
        obtain ⟨p7, p8⟩ := step_ok d1 d2
        rw [hd1] at p7 p8
        rw [p7, p8]
        by_cases hr : right (val a) (val b) d1.length = true
        · have hB : reqB (val a) (val b) d1 = a ++ (b ++ (c ++ d1)) := by
            unfold reqB
            rw [if_pos hr]
            unfold reqL
            have e3 : ((d1.length : Nat) : Int) = val c := by omega
            rw [la, lb, e3, lc]
            simp
          by_cases hd2 : d2 = []
          · subst hd2
            rw [List.append_nil] at *
            rw [if_neg (by rw [hB]; simp; intro h; simp [h] at ha), if_pos ⟨by omega, hr⟩]
          · have hne : d2.length ≠ 0 := fun h => hd2 (List.eq_nil_of_length_eq_zero h)
            rw [if_pos (by right; right; rw [hB]; intro h; have := congrArg List.length h; simp only [List.length_append] at this; omega), if_neg (by rintro ⟨h, _⟩; simp at h; omega)]
        · have hB : reqB (val a) (val b) d1 = [] := by unfold reqB; rw [if_neg hr]
          rw [if_pos (by right; left; exact hB), if_neg]
          rintro ⟨h, h2⟩
          have e4 : d2.length = 0 := by simp at h; omega
          obtain rfl := List.eq_nil_of_length_eq_zero e4
          rw [List.append_nil] at h2
          exact hr h2
    · simp only [if_neg h1]
      have hne : ¬ (val c = d.length ∧ right (val a) (val b) d.length = true) := by
        rintro ⟨h, h2⟩
        have := right_le h2
        omega
      rw [if_neg hne]
      by_cases hr : right (val a) (val b) 0 = true
      · have hB : reqB (val a) (val b) [] = a ++ (b ++ (numL 0 2)) := by
          unfold reqB
          have hr' : right (val a) (val b) ([] : List Int).length = true := hr
          rw [if_pos hr']
          unfold reqL
          rw [la, lb]
          simp
        rw [if_pos]
        right; right
        rw [hB]
        intro h
        have h2 := List.append_cancel_left (List.append_cancel_left h)
        have h3 : numL 0 2 = c := by
          have := congrArg (List.take 2) h2
          rw [List.take_of_length_le (by rw [numL_length]; omega), List.take_append_of_le_length (by omega), List.take_of_length_le (by omega)] at this
          exact this
        have h4 : val (numL 0 2) = val c := by rw [h3]
        have h5 : val (numL 0 2) = 0 := by decide
        omega
      · have hB : reqB (val a) (val b) [] = [] := by
          unfold reqB
          have hr' : ¬ right (val a) (val b) ([] : List Int).length = true := hr
          rw [if_neg hr']
        rw [if_pos (by right; left; exact hB)]

theorem cut3 (xs : List Int) (i j k : Nat) (h : i + j + k ≤ xs.length) : ∃ a b c d, xs = a ++ (b ++ (c ++ d)) ∧ a.length = i ∧ b.length = j ∧ c.length = k := by
  obtain ⟨a, y, rfl, ha⟩ := cut_at xs i (by omega)
  rw [List.length_append] at h
  obtain ⟨b, z, rfl, hb⟩ := cut_at y j (by omega)
  rw [List.length_append] at h
  obtain ⟨c, d, rfl, hc⟩ := cut_at z k (by omega)
  exact ⟨a, b, c, d, rfl, ha, hb, hc⟩
/-- three reads of too few bytes end in 'bad' -/
theorem three_short (xs : List Int) (i j k : Nat) (h : xs.length < i + j + k) : (step (step (step (xs, false) i) j) k).2 = true := by
  by_cases h1 : xs.length < i
  · rw [(step_short h1).1]; rfl
  · obtain ⟨a, y, rfl, ha⟩ := cut_at xs i (by omega)
    have p := (step_ok a y).1
    rw [ha] at p
    rw [p]
    rw [List.length_append] at h
    by_cases h2 : y.length < j
    · rw [(step_short h2).1]; rfl
    · obtain ⟨b, z, rfl, hb⟩ := cut_at y j (by omega)
      have p := (step_ok b z).1
      rw [hb] at p
      rw [p]
      rw [List.length_append] at h
      rw [(step_short (by omega : z.length < k)).1]
theorem read_short {xs : List Int} (h : xs.length < 7) : readReq xs = none ∧ refReq xs = none := by
  have h3 := three_short xs 1 4 2 (by omega)
  constructor
  · unfold readReq
    simp only [h3]
    rw [if_pos (by left; trivial)]
  · unfold refReq
    obtain ⟨y, hy⟩ : ∃ y, step (step (step (xs, false) 1) 4) 2 = (y, true) := ⟨(step (step (step (xs, false) 1) 4) 2).1, by rw [← h3]⟩
    simp only [hy]
    rw [if_pos]
    left
    split <;> rfl
theorem ref_read {xs : List Int} (hs : Small xs) : refReq xs = readReq xs := by
  by_cases h : xs.length < 7
  · rw [(read_short h).1, (read_short h).2]
  · obtain ⟨a, b, c, d, rfl, ha, hb, hc⟩ := cut3 xs 1 4 2 (by omega)
    obtain ⟨h1, h2⟩ := read_parts ha hb hc hs
    rw [h1, h2]
theorem ans_parts {a b c d : List Int} (ha : a.length = 1) (hb : b.length = 4) (hc : c.length = 4) (hs : Small (a ++ (b ++ (c ++ d)))) :
    readAns (a ++ (b ++ (c ++ d))) = (if d = [] ∧ rightA (val a) (val b) (val c) = true then some (val a, val b, val c) else none) ∧
    refAns (a ++ (b ++ (c ++ d))) = (if d = [] ∧ rightA (val a) (val b) (val c) = true then some (val a, val b, val c) else none) := by
  obtain ⟨p1, p2⟩ := step_ok a (b ++ (c ++ d))
  obtain ⟨p3, p4⟩ := step_ok b (c ++ d)
  obtain ⟨p5, p6⟩ := step_ok c d
  rw [ha] at p1 p2
  rw [hb] at p3 p4
  rw [hc] at p5 p6
  have sa := small_left hs
  have sb := small_left (small_right hs)
  have sc := small_left (small_right (small_right hs))
  have na : numOf a = val a := numOf_small sa (by omega)
  have nb : numOf b = val b := numOf_small sb (by omega)
  have nc : numOf c = val c := numOf_small sc (by omega)
  have la : numL (val a) 1 = a := by rw [← ha]; exact numL_val sa
  have lb : numL (val b) 4 = b := by rw [← hb]; exact numL_val sb
  have lc : numL (val c) 4 = c := by rw [← hc]; exact numL_val sc
  constructor
  · unfold readAns
    simp only [p1, p2, p3, p4, p5, p6, na, nb, nc]
    by_cases hd : d = []
    · subst hd
      simp
    · have : d.length ≠ 0 := fun h => hd (List.eq_nil_of_length_eq_zero h)
      rw [if_neg (fun h => this h.2.1), if_neg (fun h => hd h.1)]
  · unfold refAns
    simp only [p1, p2, p3, p4, p5, p6, na, nb, nc]
    by_cases hr : rightA (val a) (val b) (val c) = true
    · have hB : ansB (val a) (val b) (val c) = a ++ (b ++ c) := by
        unfold ansB
        rw [if_pos hr]
        unfold ansL
        rw [la, lb, lc]
        simp
      by_cases hd : d = []
      · subst hd
        rw [if_neg (by rw [hB]; simp; intro h; have := congrArg List.length h; simp [ha] at this), if_pos ⟨rfl, hr⟩]
      · have hne : d.length ≠ 0 := fun h => hd (List.eq_nil_of_length_eq_zero h)
        rw [if_pos (by right; right; rw [hB]; intro h; have := congrArg List.length h; simp only [List.length_append] at this; omega), if_neg (fun h => hd h.1)]
    · have hB : ansB (val a) (val b) (val c) = [] := by unfold ansB; rw [if_neg hr]
      rw [if_pos (by right; left; exact hB), if_neg (fun h => hr h.2)]
theorem ans_short {xs : List Int} (h : xs.length < 9) : readAns xs = none ∧ refAns xs = none := by
  have h3 := three_short xs 1 4 4 (by omega)
  constructor
  · unfold readAns
    simp only [h3]
    rw [if_neg (by rintro ⟨h, _⟩; cases h)]
  · unfold refAns
    simp only [h3]
    rw [if_pos (by left; trivial)]
theorem ref_ans {xs : List Int} (hs : Small xs) : refAns xs = readAns xs := by
  by_cases h : xs.length < 9
  · rw [(ans_short h).1, (ans_short h).2]
  · obtain ⟨a, b, c, d, rfl, ha, hb, hc⟩ := cut3 xs 1 4 4 (by omega)
    obtain ⟨h1, h2⟩ := ans_parts ha hb hc hs
    rw [h1, h2]
/-- what was written is read -/
theorem read_back {k n : Int} {bs : List Int} (hs : Small bs) (h : right k n bs.length = true) : readReq (reqL k n bs) = some (k, n, bs) := by
  obtain ⟨h1, h2, h3, h4, h5⟩ := right_le h
  have e1 : val (numL k 1) = k := val_back (by omega) (by have h256 : (256 : Int) ^ 1 = 256 := (by decide); omega)
  have e2 : val (numL n 4) = n := val_back h3 (by have h256 : (256 : Int) ^ 4 = 4294967296 := (by decide); omega)
  have e3 : val (numL bs.length 2) = bs.length := val_back (by omega) (by have h256 : (256 : Int) ^ 2 = 65536 := (by decide); omega)
  have e : reqL k n bs = numL k 1 ++ (numL n 4 ++ (numL bs.length 2 ++ bs)) := by simp [reqL]
  rw [e, (read_parts (numL_length _ _) (numL_length _ _) (numL_length _ _) (by rw [← e]; exact reqL_small hs)).1, e1, e2, e3, if_pos ⟨rfl, h⟩]
theorem ans_back {e n g : Int} (h : rightA e n g = true) : readAns (ansL e n g) = some (e, n, g) := by
  have h' := h
  simp [rightA, number] at h'
  have e1 : val (numL e 1) = e := val_back (by omega) (by have h256 : (256 : Int) ^ 1 = 256 := (by decide); omega)
  have e2 : val (numL n 4) = n := val_back (by omega) (by have h256 : (256 : Int) ^ 4 = 4294967296 := (by decide); omega)
  have e3 : val (numL g 4) = g := val_back (by omega) (by have h256 : (256 : Int) ^ 4 = 4294967296 := (by decide); omega)
  have ee : ansL e n g = numL e 1 ++ (numL n 4 ++ (numL g 4 ++ [])) := by simp [ansL]
  rw [ee, (ans_parts (numL_length _ _) (numL_length _ _) (numL_length _ _) (by rw [← ee]; exact ansL_small _ _ _)).1, e1, e2, e3, if_pos ⟨rfl, h⟩]
end Go.Proofs.Ytehlcljachkgdaa.Req
