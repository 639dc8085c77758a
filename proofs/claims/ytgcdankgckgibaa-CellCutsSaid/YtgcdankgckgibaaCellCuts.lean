/- Walk: CellCuts returns true. -/
import Derived.Test.YtgcdankgckgibaaCellLaws
import Derived.Test.YtgcdankgckgibaaDualBits
import Derived.BigQuiet
import Derived.Deep.QuietTactic
namespace Go.Proofs.Ytgcdankgckgibaa.Cell
open Go.RowKit Go.Proofs.YtgcdankgckgibaaW.PrintWords Go.Proofs.YtgcdankgckgibaaW.PrintLast Go.Proofs.Ytgcdankgckgibaa.Kit Go.Proofs.Ytgcdankgckgibaa.Field Go.Proofs.Ytgcdankgckgibaa.Dual

/-- the mask, again and again -/
def cyc (ms : List Int) (n : Nat) : List Int := (List.range n).map fun (i : Nat) => rd ms ((i % ms.length : Nat) : Int)
theorem cyc_at {ms : List Int} {n i : Nat} (h : i < n) : rd (cyc ms n) (i : Int) = rd ms ((i % ms.length : Nat) : Int) := by
  rw [rd_lt (by simp [cyc]; exact h)]
  simp [cyc]
theorem cyc_small {ms : List Int} {n : Nat} (h : Small ms) : Small (cyc ms n) := by
  intro k
  by_cases hk : k < n
  · rw [cyc_at hk]; exact h _
  · rw [rd_ge (by simp [cyc]; omega)]; omega
/-- what is in the row when k places are written -/
def part (xs cs : List Int) (k : Nat) : List Int := cs.take k ++ xs.drop k
theorem part_zero (xs cs : List Int) : part xs cs 0 = xs := by simp [part]
theorem part_all {xs cs : List Int} {n : Nat} (h1 : xs.length = n) (h : cs.length = n) : part xs cs n = cs := by
  unfold part
  rw [List.drop_eq_nil_of_le (by omega), List.append_nil, List.take_of_length_le (by omega)]
theorem part_set {xs cs : List Int} {n : Nat} (h1 : xs.length = n) (h2 : cs.length = n) (k : Nat) (h : k < n) : (part xs cs k).set k (rd cs (k : Int)) = part xs cs (k + 1) := by
  unfold part
  rw [List.set_append_right _ _ (by simp; omega), List.length_take, Nat.min_eq_left (by omega), Nat.sub_self, rd_lt (by omega)]
  rw [List.drop_eq_getElem_cons (show k < xs.length by omega), List.set_cons_zero, List.take_succ_eq_append_getElem (show k < cs.length by omega), List.append_assoc]
  rfl
theorem part_at {xs cs : List Int} {n : Nat} (h2 : cs.length = n) (k j : Nat) (h : k < j) (hj : j ≤ n) : rd (part xs cs j) (k : Int) = rd cs (k : Int) := by
  unfold part
  simp only [rd, List.getD_eq_getElem?_getD, Int.toNat_natCast]
  rw [List.getElem?_append_left (by simp; omega), List.getElem?_take, if_pos h]
theorem getC_bad {xs : List Int} (h : Dual.get xs = none) : getC xs = none := by unfold getC; rw [h]

theorem cuts_out (n : Int) (A : Option Addr) (m c : Nat) (C : Option Addr) (k d : Nat) (w : World) (h : n < 1 ∨ 2147483647 < n ∨ 156 < m ∨ k < 1 ∨ 400 < k) :
    Calls Try.prog 12 #[.int .i64 n, .slice A m c, .slice C k d] w fun e w' => e = .returned (.bool true) ∧ Below w.heap.size w w' := by
  go_enter Try.func12, Try.ntmps12
  go_wp2_with fail
  refine (live10 _).mono ?_
  rintro e w1 ⟨rfl, hb⟩
  go_wp2_with fail
  all_goals first
    | (exfalso; omega)
    | (go_ret; exact ⟨rfl, hb⟩)

set_option maxHeartbeats 4000000 in
theorem cuts_in (n : Int) (A : Option Addr) (m c : Nat) (M : Option Addr) (q d : Nat) (b ms : List Int) (w : World) (hr : ReadsInt w .u8 A m b) (hs : Small b) (hq : ReadsInt w .u8 M q ms) (hms : Small ms) (hn : 1 ≤ n) (hn2 : n ≤ 2147483647) (hm : m ≤ 156) (hq1 : 1 ≤ q) (hq4 : q ≤ 400) :
    Calls Try.prog 12 #[.int .i64 n, .slice A m c, .slice M q d] w fun e w' => e = .returned (.bool true) ∧ Below w.heap.size w w' := by
  have hml := hr.1
  have hql := hq.1
  have hy : mayC n = true := (mayC_iff n).2 ⟨hn, hn2⟩
  obtain ⟨hp1, hp2⟩ := put_yes (n := n) (b := b) hy (by omega)
  obtain ⟨xs, hxs⟩ : ∃ xs, xs = loadL n b := ⟨_, rfl⟩
  obtain ⟨cm, hcm⟩ : ∃ cm, cm = cyc ms 320 := ⟨_, rfl⟩
  have hgc := getC_put n b hy
  have hx := putL_length n b
  have hsx : Small xs := hxs ▸ loadL_small n hs
  have hps := put_small hsx
  have hcs : Small cm := hcm ▸ cyc_small hms
  rw [← hxs] at hp1 hgc hx
  have HCM := Lib.hid hcm
  have HQL := Lib.hid hql
  have HP1 := Lib.hid hp1
  have HP2 := Lib.hid hp2
  have HGC := Lib.hid hgc
  have HSX := Lib.hid hsx
  have HX := Lib.hid hx
  have HCL : Hid ((orl (put xs) cm).length = 320) := Lib.hid (by rw [orl_length, hx])
  clear hml hql hy hp1 hp2 hxs hcm hgc hx hsx
  go_enter Try.func12, Try.ntmps12
  go_wp2_with fail
  refine (live10 _).mono ?_
  rintro e w1 ⟨rfl, hb⟩
  have HR1 := Lib.hid (hr.below hb)
  have HB1 := Lib.hid hb
  clear hb
  go_wp2_with fail
  refine (put_calls n A m c b _ HR1.out hs).mono ?_
  rintro e w2 ⟨v, rfl, hg⟩
  rw [HP2.out]
  rw [HP1.out] at hg
  have ho := hg.1
  rw [HX.out] at ho
  obtain ⟨X, cx, rfl, hr2⟩ := own_reads ho
  have HB2 := Lib.hid (HB1.out.trans (hg.2.mono HB1.out.size))
  have HR2 := Lib.hid hr2
  have HQ2 := Lib.hid (hq.below HB2.out)
  clear hg ho hr2 HB1 HR1
  go_wp2_with fail
  refine (num10 0 _).mono ?_
  rintro e w' ⟨rfl, rfl⟩
  go_wp2_with (first
    | (at_builtin
       refine print_append_row (o := ⟨some 53, _, _, _, _, _⟩) (w0 := w2) w2.heap.size rfl (.const (.slice none 0 0)) (.tmp 52) 33 5 .u8 1 rfl Try.underlying33 info5 (by decide) _ [] (put xs) X 320 cx rfl rfl (own_nil _ _ _ _) HR2.out (Below.refl _ _) (Nat.le_refl _) (by simp) ?_
       intro v3 w3 own3 hb3 hg3 hat3
       rw [List.nil_append, HX.out] at own3
       have HO3 := Lib.hid own3
       have HB3 := Lib.hid hb3
       clear own3 hb3 hg3 hat3)
    | fail)
  obtain ⟨g, cap, rfl, hg0, -⟩ := HO3.out.form (by decide)
  have HG := Lib.hid hg0
  clear hg0
  have HBB := Lib.hid (HB2.out.trans (HB3.out.mono HB2.out.size))
  go_loopw [10, 12] (fun sm i wr => ∃ k : Nat, k ≤ 320 ∧ i = .int .i64 k ∧ sm = .bool (same (put xs) cm k) ∧ wr.ownsRow w2.heap.size 5 1 (.slice (some ⟨g, 0, none⟩) 320 cap) 320 (nums .u8 (part (put xs) (orl (put xs) cm) k)) ∧ Below w2.heap.size w2 wr) (fun _ i _ => 320 - (intOf i).toNat)
  case atStart => exact ⟨0, Nat.zero_le _, rfl, rfl, by rw [part_zero]; exact HO3.out, HB3.out⟩
  case round =>
    obtain ⟨k, hk, rfl, rfl, ho, hb⟩ := hrel
    by_cases hlt : k < 320
    · obtain ⟨ax, rfl, hcx⟩ := reads_cell HR2.out hlt
      obtain ⟨r, hrr⟩ : ∃ r, r = k % q := ⟨_, rfl⟩
      have hrq : r < q := by rw [hrr]; exact Nat.mod_lt _ (by omega)
      have hmod : (k : Int) % (q : Int) = (r : Int) := by rw [hrr]; exact (Int.natCast_emod k q).symm
      obtain ⟨am, rfl, hcm⟩ := reads_cell HQ2.out hrq
      have hx1 := pw_cell_below hb hcx
      have hm1 := pw_cell_below hb hcm
      obtain ⟨hc1, hf1⟩ := own_at ho (k : Int) (by omega) (by omega)
      rw [Int.toNat_natCast] at hc1 hf1
      have hk0 : (0 : Int) ≤ (k : Int) := by omega
      have hk1 : (k : Int) < 320 := by omega
      have hr0 : (0 : Int) ≤ (r : Int) := by omega
      have hr1 : (r : Int) < (q : Int) := by omega
      have hcy : rd cm (k : Int) = rd ms (r : Int) := by rw [HCM.out, cyc_at hlt, HQL.out, hrr]
      have hor := orl_at (xs := put xs) (ms := cm) (i := k) (by have := HX.out; omega)
      rw [hcy] at hor
      have hss := same_succ (put xs) cm k
      have hst := own_store ho (k : Int) (bits .or .u8 (rd (put xs) k) (rd ms r))
      rw [Int.toNat_natCast, ← hor, part_set HX.out HCL.out k hlt, hor] at hst
      have HST := Lib.hid hst
      have HSS := Lib.hid hss
      have HOR := Lib.hid hor
      have HO := Lib.hid ho
      have HCX := Lib.hid hcx
      clear hst hss hor ho hcx hcm hcy hrr
      go_wp2_with fail
      have hq0 : ((q : Int) == 0) = false := by simp; omega
      go_region
      have hB : Below w2.heap.size w2 (wr.setCell ⟨g, k, none⟩ (.int .u8 (bits .or .u8 (rd (put xs) k) (rd ms r)))).drew := (hb.setCell (p := ⟨g, k, none⟩) HG.out _).drew
      have hO2 : (wr.setCell ⟨g, k, none⟩ (.int .u8 (bits .or .u8 (rd (put xs) k) (rd ms r)))).drew.ownsRow w2.heap.size 5 1 (.slice (some ⟨g, 0, none⟩) 320 cap) 320 (nums .u8 (part (put xs) (orl (put xs) cm) (k + 1))) := HST.out.1
      generalize (wr.setCell ⟨g, k, none⟩ (.int .u8 (bits .or .u8 (rd (put xs) k) (rd ms r)))).drew = W at *
      obtain ⟨hc2, _⟩ := own_at hO2 (k : Int) (by omega) (by omega)
      rw [Int.toNat_natCast, part_at HCL.out _ _ (by omega) (by omega), HOR.out] at hc2
      have hx2 := pw_cell_below hB HCX.out
      have hs1 := HSS.out
      rw [HOR.out] at hs1
      have HS1 := Lib.hid hs1
      have HO2 := Lib.hid hO2
      clear hx1 hm1 hc1 hf1 HST hs1 hO2 hb
      cases hsm : same (put xs) cm k with
      | false =>
        have HSM := Lib.hid hsm
        clear hsm
        go_wp2_with fail
        go_quiet (fail)
        go_wp2_with fail
        go_roundw
        case rel => exact ⟨k + 1, by omega, by go_num, by rw [HS1.out, HSM.out]; rfl, HO2.out, drewN_below hB _⟩
        case measure => simp [intOf]; omega
      | true =>
        have HSM := Lib.hid hsm
        clear hsm
        go_wp2_with fail
        go_quiet (fail)
        go_wp2_with fail
        go_roundw
        case rel => exact ⟨k + 1, by omega, by go_num, by rw [HS1.out, HSM.out]; simp, HO2.out, drewN_below hB _⟩
        case measure => simp [intOf]; omega
    · have hk3 : k = 320 := by omega
      subst hk3
      rw [part_all HX.out HCL.out] at ho
      obtain ⟨C, cc, hv, hrc⟩ := own_reads ho
      have hrc' : ReadsInt wr .u8 (some ⟨g, 0, none⟩) 320 (orl (put xs) cm) := by
        injection hv with e1 _ _
        rw [e1]
        exact hrc
      have HRC := Lib.hid hrc'
      have HB := Lib.hid (HB2.out.trans (hb.mono HB2.out.size))
      have hse := @same_all (put xs) cm
      have hsg := @get_orl xs cm HSX.out hcs
      rw [HX.out] at hse hsg
      have HSE := Lib.hid hse
      have HSG := Lib.hid hsg
      clear hv hrc hrc' ho hb hse hsg
      cases hsm : same (put xs) cm 320 with
      | false =>
        have HG3 := Lib.hid (getC_bad (HSG.out hsm))
        have HSM := Lib.hid hsm
        clear hsm
        go_wp2_with fail
        refine (get_calls _ _ _ _ _ HRC.out (orl_small hps hcs) (by omega)).mono ?_
        rw [HG3.out]
        rintro e w3 ⟨v, rfl, hg3⟩
        have hb3 := HB.out.trans (hg3.2.mono HB.out.size)
        obtain ⟨A3, c3, rfl, hr3⟩ := hg3.reads
        clear hg3 hr3
        go_wp2_with fail
        go_ret
        exact ⟨rfl, hb3⟩
      | true =>
        have HE := Lib.hid (HSE.out hsm)
        have HSM := Lib.hid hsm
        clear hsm
        go_wp2_with fail
        refine (get_calls _ _ _ _ _ HRC.out (orl_small hps hcs) (by omega)).mono ?_
        rw [HE.out, HGC.out]
        rintro e w3 ⟨v, rfl, hg3⟩
        have hb3 := HB.out.trans (hg3.2.mono HB.out.size)
        obtain ⟨A3, c3, rfl, hr3⟩ := hg3.reads
        clear hg3 hr3
        go_wp2_with fail
        go_ret
        exact ⟨by first | rfl | (simp; done), hb3⟩

theorem cuts_walk (n : Int) (A : Option Addr) (m c : Nat) (zs : List Int) (C : Option Addr) (k d : Nat) (ys : List Int) (w : World) (h : IsBytes w A m c zs) (hq : IsBytes w C k d ys) :
    Calls Try.prog 12 #[.int .i64 n, .slice A m c, .slice C k d] w fun e w' => e = .returned (.bool true) ∧ Below w.heap.size w w' := by
  obtain ⟨l, rfl, hr, _, hw, _⟩ := ReadsInt.ofRowC h
  obtain ⟨q, rfl, hr2, _, hv, _⟩ := ReadsInt.ofRowC hq
  by_cases hl : n < 1 ∨ 2147483647 < n ∨ 156 < l.length ∨ q.length < 1 ∨ 400 < q.length
  · exact cuts_out n A _ c C _ d w hl
  · exact cuts_in n A _ c C _ d l q w hr (small_of hw) hr2 (small_of hv) (by omega) (by omega) (by omega) (by omega) (by omega)
end Go.Proofs.Ytgcdankgckgibaa.Cell
