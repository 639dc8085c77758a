/- Walks: request.parse, parseAnswer read as the plain functions say. -/
import Derived.Test.YtehlcljachkgdaaReqPut
import Derived.Test.YtehlcljachkgdaaFieldGets
namespace Go.Proofs.Ytehlcljachkgdaa.Req
open Go.RowKit Go.Proofs.YtehlcljachkgdaaW.PrintWords Go.Proofs.YtehlcljachkgdaaW.PrintLast Go.Proofs.Ytehlcljachkgdaa.Kit Go.Proofs.Ytehlcljachkgdaa.Field

theorem free_of {W : World} {b : Nat} {cs : Array Value} {T : TypeId} (h : W.heap[b]? = some (.cells cs T (0, 0))) (i : Nat) : W.frozen? ⟨b, i, none⟩ = false := by simp [World.frozen?, h]
theorem frame_blk {F : Nat → Prop} {W W' : World} {b : Nat} {o : Obj} (h : Fr F W W') (hb : W.heap[b]? = some o) (hF : ¬ F b) : W'.heap[b]? = some o := (h.block b (heap_lt hb) hF).trans hb
theorem set_blk {W : World} {b i : Nat} {cs : Array Value} {T : TypeId} (h : W.heap[b]? = some (.cells cs T (0, 0))) (v : Value) : (W.setCell ⟨b, i, none⟩ v).heap[b]? = some (.cells (cs.setIfInBounds i v) T (0, 0)) := by
  simp [World.setCell, Array.getElem?_modify, h]
theorem fr_set (W : World) (b i : Nat) (v : Value) : Fr (· = b) W (W.setCell ⟨b, i, none⟩ v) := (Fr.refl (· = b) W).setCell (p := ⟨b, i, none⟩) (.inl rfl) v
theorem fr_below {W W' : World} {b B : Nat} (h : Fr (· = b) W W') (hb : B ≤ b) (hB : B ≤ W.heap.size) : Below B W W' := h.to_below (fun i hi e => by have e : i = b := e; omega) hB
theorem fr_far {b H g i : Nat} (h : i = b) (h1 : H ≤ b) (h2 : b ≠ g) : H ≤ i ∧ i ≠ g := by subst h; exact ⟨h1, h2⟩

theorem own_set {W : World} {b : Nat} {e : TypeId} {size n : Nat} {v : Value} {xs : List Value} (h : W.ownsRow b e size v n xs) {p : Addr} (hp : ∀ r, v.ownBlock = some r → r ≠ p.block) (u : Value) : (W.setCell p u).ownsRow b e size v n xs := by
  refine ⟨h.1, ?_⟩
  rcases h.2 with h1 | ⟨r, cap, cur, e, hr, hh, h2⟩
  · exact .inl h1
  · exact .inr ⟨r, cap, cur, e, hr, (Below.heap_setCell W p u r (hp r (by rw [e]; rfl))).trans hh, h2⟩
theorem set3 {W : World} {b : Nat} {T : TypeId} {u0 u1 u2 : Value} (h : W.heap[b]? = some (.cells #[u0, u1, u2] T (0, 0))) (v0 v1 v2 : Value) (o : Obj) :
    ((((W.setCell ⟨b, 0, none⟩ v0).setCell ⟨b, 1, none⟩ v1).setCell ⟨b, 2, none⟩ v2).alloc o).heap[b]? = some (.cells #[v0, v1, v2] T (0, 0)) := by
  have h3 := set_blk (i := 2) (set_blk (i := 1) (set_blk (i := 0) h v0) v1) v2
  exact (Below.heap_alloc _ o b (heap_lt h3)).trans h3
theorem below3 {W w : World} {b B : Nat} (h : Below B w W) (hB : B ≤ b) (hW : B ≤ W.heap.size) (v0 v1 v2 : Value) (o : Obj) :
    Below B w ((((W.setCell ⟨b, 0, none⟩ v0).setCell ⟨b, 1, none⟩ v1).setCell ⟨b, 2, none⟩ v2).alloc o) :=
  (((h.setCell (p := ⟨b, 0, none⟩) hB v0).setCell (p := ⟨b, 1, none⟩) hB v1).setCell (p := ⟨b, 2, none⟩) hB v2).alloc (by simpa [World.setCell] using hW) o
theorem readReq_of {xs x1 x2 x3 : List Int} {b1 b2 b3 : Bool} {k n z : Int} (h1 : x1 = rest xs false 1) (h1' : b1 = !takeOk xs false 1) (h2 : x2 = rest x1 b1 4) (h2' : b2 = !takeOk x1 b1 4) (h3 : x3 = rest x2 b2 2) (h3' : b3 = !takeOk x2 b2 2)
    (hk : k = numOf (got xs false 1)) (hn : n = numOf (got x1 b1 4)) (hz : z = numOf (got x2 b2 2)) :
    readReq xs = if b3 = true ∨ z ≠ x3.length ∨ 1000 < z then none else if right k n (got x3 b3 (clip z 1000)).length then some (k, n, got x3 b3 (clip z 1000)) else none := by
  subst h1 h1' h2 h2' h3 h3' hk hn hz; rfl
theorem refReq_of {xs x1 x2 x3 : List Int} {b1 b2 b3 : Bool} {k n z : Int} (h1 : x1 = rest xs false 1) (h1' : b1 = !takeOk xs false 1) (h2 : x2 = rest x1 b1 4) (h2' : b2 = !takeOk x1 b1 4) (h3 : x3 = rest x2 b2 2) (h3' : b3 = !takeOk x2 b2 2)
    (hk : k = numOf (got xs false 1)) (hn : n = numOf (got x1 b1 4)) (hz : z = numOf (got x2 b2 2)) :
    refReq xs = (let bs := if z ≤ 1000 then got x3 b3 (clip z 1000) else []
      let b4 := if z ≤ 1000 then !takeOk x3 b3 (clip z 1000) else b3
      if b4 = true ∨ reqB k n bs = [] ∨ reqB k n bs ≠ xs then none else some (k, n, bs)) := by
  unfold refReq
  simp only [step, gotS, ← h1, ← h1', ← h2, ← h2', ← h3, ← h3', ← hk, ← hn, ← hz]
  by_cases hh : z ≤ 1000
  · simp only [if_pos hh]
  · simp only [if_neg hh]
theorem readAns_of {xs x1 x2 x3 : List Int} {b1 b2 b3 : Bool} {k n z : Int} (h1 : x1 = rest xs false 1) (h1' : b1 = !takeOk xs false 1) (h2 : x2 = rest x1 b1 4) (h2' : b2 = !takeOk x1 b1 4) (h3 : x3 = rest x2 b2 4) (h3' : b3 = !takeOk x2 b2 4)
    (hk : k = numOf (got xs false 1)) (hn : n = numOf (got x1 b1 4)) (hz : z = numOf (got x2 b2 4)) :
    readAns xs = (if b3 = false ∧ x3.length = 0 ∧ rightA k n z then some (k, n, z) else none) ∧ refAns xs = (if b3 = true ∨ ansB k n z = [] ∨ ansB k n z ≠ xs then none else some (k, n, z)) := by
  subst h1 h1' h2 h2' h3 h3' hk hn hz; exact ⟨rfl, rfl⟩

/-- what parse gives -/
def Parsed (w : World) (r : Option (Int × Int × List Int)) (e : Ending) (w' : World) : Prop :=
  match r with
  | none => e = .returned .nilIface ∧ Below w.heap.size w w'
  | some (k, n, bs) => ∃ v, e = .returned (.iface 25 (.agg #[.int .i64 k, .int .i64 n, v])) ∧ Gives w w' v bs

set_option maxHeartbeats 2000000 in
theorem parse_calls (A : Option Addr) (m c : Nat) (xs : List Int) (w : World) (hr : ReadsInt w .u8 A m xs) (hs : Small xs) (hm : m ≤ 100000) :
    Calls Try.prog 33 #[.slice A m c] w (Parsed w (readReq xs)) := by
  go_enter Try.func33, Try.ntmps33
  go_wp2_with fail
  refine (new_get _ _ _ _ _ hr hs hm).mono ?_
  rintro e w1 ⟨g, rfl, hg0, hp, hb⟩
  have HP1 := Lib.hid hp
  have HB1 := Lib.hid hb
  clear hp hb
  go_wp2_with fail
  refine (num_get g g _ _ 1 _ HP1.out).mono ?_
  rintro e w2 ⟨rfl, hp, hf⟩
  rw [clip_1] at hp ⊢
  obtain ⟨k, hk⟩ : ∃ k, k = numOf (got xs false 1) := ⟨_, rfl⟩
  obtain ⟨x1, hx1⟩ : ∃ x1, x1 = rest xs false 1 := ⟨_, rfl⟩
  obtain ⟨b1, hb1⟩ : ∃ b1, b1 = !takeOk xs false 1 := ⟨_, rfl⟩
  rw [← hx1, ← hb1] at hp
  rw [← hk]
  have HK := Lib.hid hk
  have HX1 := Lib.hid hx1
  have HC1 := Lib.hid hb1
  have hgl := HP1.out.1.lt
  have hs2 := hf.size
  have HB2 := Lib.hid (HB1.out.trans (fr_below hf hg0 HB1.out.size))
  have HP2 := Lib.hid hp
  clear hk hx1 hb1 hp hf HP1 HB1
  go_wp2_with fail
  have hh2 : (w2.alloc (.cells #[.int .i64 k, .int .i64 0, .slice none 0 0] 25)).heap[w2.heap.size]? = some (.cells #[.int .i64 k, .int .i64 0, .slice none 0 0] 25 (0, 0)) := heap_alloc_new _ _
  have HH2 := Lib.hid hh2
  have HB2' := Lib.hid (HB2.out.trans ((below_alloc1 w2 (.cells #[.int .i64 k, .int .i64 0, .slice none 0 0] 25)).mono HB2.out.size))
  have HP2' := Lib.hid (HP2.out.below (below_alloc1 w2 (.cells #[.int .i64 k, .int .i64 0, .slice none 0 0] 25)))
  clear hh2
  refine (num_get g g _ _ 4 _ HP2'.out).mono ?_
  rintro e w3 ⟨rfl, hp, hf⟩
  rw [clip_4] at hp ⊢
  obtain ⟨n, hn⟩ : ∃ n, n = numOf (got x1 b1 4) := ⟨_, rfl⟩
  obtain ⟨x2, hx2⟩ : ∃ x2, x2 = rest x1 b1 4 := ⟨_, rfl⟩
  obtain ⟨b2, hb2⟩ : ∃ b2, b2 = !takeOk x1 b1 4 := ⟨_, rfl⟩
  rw [← hx2, ← hb2] at hp
  rw [← hn]
  have HN := Lib.hid hn
  have HX2 := Lib.hid hx2
  have HC2 := Lib.hid hb2
  have hh3 := frame_blk hf HH2.out (fun e => by have e : w2.heap.size = g := e; omega)
  obtain ⟨-, c1, -⟩ := cells_of hh3
  have f1 := free_of hh3 1
  have hs3 : w2.heap.size < w3.heap.size := heap_lt hh3
  have HB3 := Lib.hid (HB2'.out.trans (fr_below hf hg0 HB2'.out.size))
  have HP3 := Lib.hid (hp.keep (fr_set w3 w2.heap.size 1 (.int .i64 n)) (fun i e => fr_far e (by omega) (by omega)))
  have HH3 := Lib.hid (set_blk (i := 1) hh3 (.int .i64 n))
  have HB3' := Lib.hid (HB3.out.trans ((fr_below (fr_set w3 w2.heap.size 1 (.int .i64 n)) HB2.out.size HB3.out.size)))
  clear hn hx2 hb2 hp hf HP2 HP2' HB2' HH2 hh3
  go_wp2_with fail
  clear c1 f1 HB3
  refine (num_get g g _ _ 2 _ HP3.out).mono ?_
  rintro e w4 ⟨rfl, hp, hf⟩
  rw [clip_2] at hp ⊢
  obtain ⟨z, hz⟩ : ∃ z, z = numOf (got x2 b2 2) := ⟨_, rfl⟩
  obtain ⟨x3, hx3⟩ : ∃ x3, x3 = rest x2 b2 2 := ⟨_, rfl⟩
  obtain ⟨b3, hb3⟩ : ∃ b3, b3 = !takeOk x2 b2 2 := ⟨_, rfl⟩
  rw [← hx3, ← hb3] at hp
  rw [← hz]
  have hread := readReq_of HX1.out HC1.out HX2.out HC2.out hx3 hb3 HK.out HN.out hz
  have HRD := Lib.hid hread
  have hh4 := frame_blk hf HH3.out (fun e => by have e : w2.heap.size = g := e; omega)
  have hs4 : w2.heap.size < w4.heap.size := heap_lt hh4
  have HB4 := Lib.hid (HB3'.out.trans (fr_below hf hg0 HB3'.out.size))
  have HP4 := Lib.hid hp
  have HH4 : Hid (w4.heap[w2.heap.size]? = some (.cells #[.int .i64 k, .int .i64 n, .slice none 0 0] 25 (0, 0))) := Lib.hid hh4
  have hlx : x3.length ≤ 100000 := hp.1.len
  clear hz hx3 hb3 hp hf HP3 HB3' HH3 hh4 hread HX1 HC1 HX2 HC2 HK HN
  go_wp2_with fail
  refine (bad_get g g _ _ _ HP4.out).mono ?_
  rintro e w5 ⟨rfl, rfl⟩
  cases b3 with
  | true =>
    have hrd : readReq xs = none := by rw [HRD.out, if_pos (by left; rfl)]
    have HR0 := Lib.hid hrd
    clear hrd
    go_wp2_with fail
    go_ret
    rw [HR0.out]
    exact ⟨rfl, HB4.out⟩
  | false =>
    rcases (by omega : z < x3.length ∨ (x3.length : Int) < z ∨ (z = x3.length ∧ 1000 < z) ∨ (z = x3.length ∧ z ≤ 1000)) with h | h | ⟨h, h'⟩ | ⟨h, h'⟩
    · have hrd : readReq xs = none := by rw [HRD.out, if_pos (by right; left; omega)]
      have HR0 := Lib.hid hrd
      clear hrd
      have hne : (z != (x3.length : Int)) = true := by simp; omega
      go_wp2_with fail
      refine (left_get g g _ _ _ HP4.out).mono ?_
      rintro e w5 ⟨rfl, rfl⟩
      go_wp2_with fail
      go_ret
      rw [HR0.out]
      exact ⟨rfl, HB4.out⟩
    · have hrd : readReq xs = none := by rw [HRD.out, if_pos (by right; left; omega)]
      have HR0 := Lib.hid hrd
      clear hrd
      have hne : (z != (x3.length : Int)) = true := by simp; omega
      go_wp2_with fail
      refine (left_get g g _ _ _ HP4.out).mono ?_
      rintro e w5 ⟨rfl, rfl⟩
      go_wp2_with fail
      go_ret
      rw [HR0.out]
      exact ⟨rfl, HB4.out⟩
    · have hrd : readReq xs = none := by rw [HRD.out, if_pos (by right; right; exact h')]
      have HR0 := Lib.hid hrd
      have hne : (z != (x3.length : Int)) = false := by simp [h]
      clear hrd h
      go_wp2_with fail
      refine (left_get g g _ _ _ HP4.out).mono ?_
      rintro e w5 ⟨rfl, rfl⟩
      go_wp2_with fail
      go_ret
      rw [HR0.out]
      exact ⟨rfl, HB4.out⟩
    · have hne : (z != (x3.length : Int)) = false := by simp [h]
      obtain ⟨bs, hbs⟩ : ∃ bs, bs = got x3 false (clip z 1000) := ⟨_, rfl⟩
      have hrd : readReq xs = if right k n bs.length then some (k, n, bs) else none := by
        rw [HRD.out, if_neg (by simp; exact ⟨h, h'⟩), hbs]
      have HRD2 := Lib.hid hrd
      have HBS := Lib.hid hbs
      clear hrd hbs h
      go_wp2_with fail
      refine (left_get g g _ _ _ HP4.out).mono ?_
      rintro e w5 ⟨rfl, rfl⟩
      go_wp2_with fail
      refine (raw_get g g _ _ z _ HP4.out).mono ?_
      rintro e w5 ⟨v5, rfl, ho, hp, hf⟩
      rw [← HBS.out] at ho
      have hh5 := frame_blk hf HH4.out (fun e => by have e : w2.heap.size = g := e; omega)
      have HB5 := Lib.hid (HB4.out.trans (fr_below hf hg0 HB4.out.size))
      obtain ⟨-, -, c2⟩ := cells_of hh5
      have f2 := free_of hh5 2
      have hh6 := set_blk (i := 2) hh5 v5
      have HB6 := Lib.hid (HB5.out.trans (fr_below (fr_set w5 w2.heap.size 2 v5) HB2.out.size HB5.out.size))
      have hown := own_lower' ho HB4.out.size
      have howb := own_base ho
      obtain ⟨A5, c5, rfl, -⟩ := own_reads ho
      have HO5 := Lib.hid hown
      have HOB := Lib.hid howb
      have HH6 : Hid ((w5.setCell ⟨w2.heap.size, 2, none⟩ (.slice A5 bs.length c5)).heap[w2.heap.size]? = some (.cells #[.int .i64 k, .int .i64 n, .slice A5 bs.length c5] 25 (0, 0))) := Lib.hid hh6
      clear ho hp hf hh5 hh6 hown howb HP4 HH4 HRD
      obtain ⟨d0, d1, d2⟩ := cells_of HH6.out
      go_wp2_with fail
      clear c2 f2 d0 d1 d2
      refine (right_calls k n _ _ _ _).mono ?_
      rintro e w6 ⟨rfl, hb6⟩
      have hs6 : w2.heap.size < (w5.setCell ⟨w2.heap.size, 2, none⟩ (.slice A5 bs.length c5)).heap.size := heap_lt HH6.out
      have hh7 := (hb6.block w2.heap.size hs6).trans HH6.out
      obtain ⟨d0, d1, d2⟩ := cells_of hh7
      have HB7 := Lib.hid (HB6.out.trans (hb6.mono HB6.out.size))
      have hfin : w6.ownsRow w.heap.size 5 1 (.slice A5 bs.length c5) bs.length (nums .u8 bs) := by
        refine pw_own_below ?_ hb6
        refine ⟨HO5.out.1, ?_⟩
        rcases HO5.out.2 with e | ⟨r, cap, cur, e, hr, hh, h3⟩
        · exact .inl e
        · refine .inr ⟨r, cap, cur, e, hr, (Below.heap_setCell w5 ⟨w2.heap.size, 2, none⟩ _ r (fun e2 => ?_)).trans hh, h3⟩
          have e2 : r = w2.heap.size := e2
          have := HOB.out r (by rw [e]; rfl)
          omega
      have HFIN := Lib.hid hfin
      clear hb6 hh7 hfin HO5 HOB
      cases hy : right k n bs.length with
      | true =>
        have hrd : readReq xs = some (k, n, bs) := by rw [HRD2.out, if_pos hy]
        have HR0 := Lib.hid hrd
        clear hrd hy
        go_wp2_with fail
        go_ret
        rw [HR0.out]
        exact ⟨_, rfl, HFIN.out, HB7.out⟩
      | false =>
        have hrd : readReq xs = none := by rw [HRD2.out, if_neg (by rw [hy]; decide)]
        have HR0 := Lib.hid hrd
        clear hrd hy
        go_wp2_with fail
        go_ret
        rw [HR0.out]
        exact ⟨rfl, HB7.out⟩
end Go.Proofs.Ytehlcljachkgdaa.Req
