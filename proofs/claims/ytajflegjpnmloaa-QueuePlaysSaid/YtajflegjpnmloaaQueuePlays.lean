/- Walk: QueuePlays. -/
import Derived.Test.YtajflegjpnmloaaQueueAway
namespace Go.Proofs.Ytajflegjpnmloaa.Queue
open Go.RowKit Go.Proofs.YtajflegjpnmloaaW.PrintWords Go.Proofs.YtajflegjpnmloaaW.PrintLast Go.Proofs.Ytajflegjpnmloaa.Kit Go.Proofs.Ytajflegjpnmloaa.Field
attribute [local go_sem ↓] ldR stR
set_option linter.unusedSimpArgs false
set_option linter.unusedVariables false
theorem plays_out (T : Option Addr) (len cap : Nat) (w : World) (h : 100 < len) :
    Calls Try.prog 12 #[.slice T len cap] w fun e w' => e = .returned (.bool true) ∧ Below w.heap.size w w' := by
  go_enter Try.func12, Try.ntmps12
  go_wp2_with fail
  refine (live21 _).mono ?_
  rintro e w1 ⟨rfl, hb⟩
  go_wp2_with fail
  go_ret
  exact ⟨rfl, hb⟩
set_option maxHeartbeats 8000000 in
set_option maxRecDepth 100000 in
theorem plays_in (T : Option Addr) (len cap : Nat) (w : World) (h : len ≤ 100) (hT : ∀ i, i < len → ∃ (a : Addr) (way : Int) (r : Rq) (xs : List Int), T = some a ∧ ActAt w a i way r ∧ ReadsInt w .u8 r.A r.m xs ∧ r.m ≤ r.c) :
    Calls Try.prog 12 #[.slice T len cap] w fun e w' => e = .returned (.bool true) ∧ Below w.heap.size w w' := by
  have HT := Lib.hid hT
  clear hT
  go_enter Try.func12, Try.ntmps12
  go_wp2_with fail
  refine (live21 _).mono ?_
  rintro e w1 ⟨rfl, hb⟩
  have hq0 := qu_new w1 w.heap.size hb.size
  have hba := below_alloc1 w1 (.cells #[.slice none 0 0] 41)
  have ho0 := qu_new (w1.alloc (.cells #[.slice none 0 0] 41)) w.heap.size (by have := hb.size; simp; omega)
  have hbb := below_alloc1 (w1.alloc (.cells #[.slice none 0 0] 41)) (.cells #[.slice none 0 0] 41)
  have hq1 := hq0.below hbb
  have HP := Lib.hid (show Play 0 w _ w1.heap.size (w1.heap.size + 1) (.slice none 0 0) (.slice none 0 0) (.slice none 0 0) [] [] [] from
    ⟨hq1, by have := ho0; simpa using this, ⟨rfl, .inl ⟨rfl, rfl⟩⟩, (hb.trans (hba.mono hb.size)).trans (hbb.mono (by have := hb.size; simp; omega)), by simp, by simp, by simp, fun x hx => (by cases hx), by omega, fun b e => (by cases e), fun b e e2 => (by cases e2), fun x hx => (by cases hx), fun i hi => (by simp at hi)⟩)
  clear hq0 ho0 hq1 hba hbb hb
  go_wp2_with fail
  obtain ⟨gq, hgq⟩ : ∃ g, g = w1.heap.size := ⟨_, rfl⟩
  rw [← hgq] at HP ⊢
  clear hgq
  generalize (w1.alloc (.cells #[.slice none 0 0] 41)).alloc (.cells #[.slice none 0 0] 41) = W0 at HP ⊢
  go_loopw [6, 7] (fun nv i wr => ∃ (k : Nat) (vq vo : Value) (lq lo ln : List Rq), k ≤ len ∧ i = .int .i64 k ∧ lq.length = ln.length ∧ Play 0 w wr gq (gq + 1) vq vo nv lq lo ln) (fun _ i _ => len - (intOf i).toNat)
  case atStart => exact ⟨0, _, _, [], [], [], Nat.zero_le _, rfl, rfl, HP.out⟩
  case round =>
    obtain ⟨k, vq, vo, lq, lo, ln, hk, rfl, hll, hp⟩ := hrel
    obtain ⟨An, cn, hnv⟩ := own_slice hp.n
    subst hnv
    have HP := Lib.hid hp
    clear hp
    by_cases hlt : k < len
    · obtain ⟨a, way, r, xs, rfl, hact, hr, hmc⟩ := HT.out k hlt
      have ha := hact.below HP.out.below
      have hs3 := ha.f3
      have hlk : (k : Int) < len := by omega
      by_cases hm : 300 < r.m
      · have HB := Lib.hid HP.out.below
        clear HP
        go_wp2_with fail
        go_ret
        exact ⟨rfl, HB.out⟩
      · have hld := ha.rq.load
        go_wp2_with fail
        refine (addO_calls r xs HP.out (hr.below HP.out.below) (by omega)).mono ?_
        rintro e w2 ⟨x, vo2, lo2, rfl, hp2, hb2⟩
        have HP := Lib.hid hp2
        have ha := hact.below HP.out.below
        have hs3 := ha.f3
        have hld := ha.rq.load
        have hf0 := ha.f0
        clear hp2 hb2
        by_cases hw0 : way = 0
        · subst hw0
          have HML := Lib.hid hr.1
          go_upto_region 18 with (first
            | (at_builtin
               refine print_append_row (o := ⟨some 62, _, _, _, _, _⟩) (w0 := w2) w2.heap.size rfl (.const (.slice none 0 0)) (.tmp 61) 23 5 .u8 1 rfl Try.underlying23 info5 (by decide) _ [] xs r.A r.m r.c rfl rfl (own_nil _ _ _ _) (hr.below HP.out.below) (Below.refl _ _) (Nat.le_refl _) (by simp; omega) ?_
               intro v1 w3 own1 hb1 hg1 hat1
               rw [List.nil_append, HML.out] at own1
               obtain ⟨Ab, cb, hv1, hrb⟩ := own_reads own1
               subst hv1
               have HRW := Lib.hid (own_rw own1)
               have HAB := Lib.hid (show ∀ ad, Ab = some ad → w2.heap.size ≤ ad.block ∧ ad.block < w3.heap.size from fun ad e => by subst e; exact own_addr own1)
               have HAW := Lib.hid (show ∀ ad, Ab = some ad → w.heap.size ≤ ad.block ∧ Away ad.block gq (gq + 1) vq vo2 _ lq from fun ad e => ⟨Nat.le_trans HP.out.below.size (HAB.out ad e).1, HP.out.away (HAB.out ad e).1⟩)
               have HP3 := Lib.hid (HP.out.step hb1)
               have hld3 := (ha.below hb1).rq.load
               have hn := Blk.new w3 43 #[.int .i64 0, .int .i64 0, .slice none 0 0] _ rfl
               have hst := hn.store 43 #[.int .i64 r.k, .int .i64 r.n, .slice r.A r.m r.c] infoR rfl rfl
               have hX := hn.set #[.int .i64 r.k, .int .i64 r.n, .slice r.A r.m r.c]
               have hc2 := hX.cell 2
               have hf2 := hX.free 2
               have hx2 := hX.put 2 (.slice Ab r.m cb)
               simp only [List.setIfInBounds_toArray, List.set_cons_succ, List.set_cons_zero] at hx2
               have HX2 := Lib.hid hx2
               have HB5 := Lib.hid (((below_setRow (below_alloc1 w3 (.cells #[.int .i64 0, .int .i64 0, .slice none 0 0] 43)) (Nat.le_refl _) #[.int .i64 r.k, .int .i64 r.n, .slice r.A r.m r.c])).setCell (p := ⟨w3.heap.size, 2, none⟩) (Nat.le_refl _) (.slice Ab r.m cb))
               have HRB := Lib.hid (hrb.below HB5.out)
               have HB3 := Lib.hid hb1
               clear own1 hg1 hat1 hb1 hn hrb hX hx2)
            | fail)
          generalize ((w3.alloc (.cells #[.int .i64 0, .int .i64 0, .slice none 0 0] 43)).setRow w3.heap.size #[.int .i64 r.k, .int .i64 r.n, .slice r.A r.m r.c]).setCell ⟨w3.heap.size, 2, none⟩ (.slice Ab r.m cb) = w5 at HX2 HB5 HRB ⊢
          clear hst hc2 hf2 hld3 hs3 hf0
          have HP := Lib.hid (HP3.out.step HB5.out)
          have HRW := Lib.hid (HRW.out.step HB5.out)
          have HAB := Lib.hid (show ∀ ad, Ab = some ad → w2.heap.size ≤ ad.block ∧ ad.block < w5.heap.size from fun ad e => ⟨(HAB.out ad e).1, Nat.lt_of_lt_of_le (HAB.out ad e).2 HB5.out.size⟩)
          have ha := (ha.below HB3.out).below HB5.out
          have hld5 := (HX2.out.rq (r := ⟨r.k, r.n, Ab, r.m, cb⟩)).load
          by_cases h4 : lq.length < 4
          · have hn4 : (ln.length : Int) < 4 := by omega
            go_wp2_with fail
            refine (addQ_calls ⟨r.k, r.n, Ab, r.m, cb⟩ xs HP.out HRB.out (by show r.m ≤ 300; omega) hll h4).mono ?_
            rintro e w6 ⟨rfl, v', A', c', hp, hr6, hf6, hn6, hA6⟩
            have HP6 := Lib.hid hp
            have HR6 := Lib.hid hr6
            have HW6 := Lib.hid (show ∀ ad, Ab = some ad → w.heap.size ≤ ad.block ∧ Away ad.block gq (gq + 1) v' vo2 _ (lq ++ [⟨r.k, r.n, A', r.m, c'⟩]) from fun ad e => ⟨(HAW.out ad e).1, (HAW.out ad e).2.addQ hn6 (HAB.out ad e).2 hA6⟩)
            have HRW6 := Lib.hid (HRW.out.keep hf6 (fun ad e f => (HAW.out ad e).2.pf (f.elim (fun h => .inl h) (fun h => .inr (.inr (.inl h))))))
            have HS6 := hf6.size
            have HAB6 := Lib.hid (show ∀ ad, Ab = some ad → ad.block < w6.heap.size from fun ad e => Nat.lt_of_lt_of_le (HAB.out ad e).2 HS6)
            have ha6 := hact.below HP6.out.below
            have hld6 := ha6.rq.load
            clear hld5 hp hr6 hf6 hn6 hA6 HS6 hld
            go_wp2_with fail
            refine (num21 _ _).mono ?_
            rintro e wz ⟨rfl, rfl⟩
            go_wp2_with fail
            refine (num21 _ _).mono ?_
            rintro e wz ⟨rfl, rfl⟩
            go_wp2_with fail
            refine (num21 _ _).mono ?_
            rintro e wz ⟨rfl, rfl⟩
            go_wp2_with (first
              | (at_builtin
                 go_loud (
                   refine list_own (o := ⟨some 100, _, _, _, _, _⟩) w.heap.size 3 40 rfl (.tmp 93) (.tmp 99) 39 43 rfl Try.underlying39 infoReq (by decide) (.slice An ln.length cn) ln.length (rows ln) ⟨_, 0, none⟩ 1 1 [.int .i64 r.k, .int .i64 r.n, .slice r.A r.m r.c] rfl rfl (own_below' HP6.out.n (below_alloc1 _ _)) rfl (built3 _ _ _ _ _) (by intro u hu; simp at hu; rcases hu with rfl | rfl | rfl <;> rfl) (by unfold maxLen; omega) (by omega) (by have := HP6.out.below.size; simp; omega) ?_
                   intro v1 w7 own1 hg1 hat1
                   have hr7 : rowNext w6 (.slice An ln.length cn) v1 := by
                     rcases hat1 with h1 | h1
                     · exact .inl h1
                     · exact .inr ⟨_, h1, by simp⟩
                   have HF7 := Lib.hid (show Fr (fun i => (Value.slice An ln.length cn).ownBlock = some i) w6 w7 from ((Fr.refl _ w6).alloc _).then_ (Fr.of_grown hg1) (fun i hi e => e))
                   have HP7 := Lib.hid (HP6.out.addN (b := r) (by rw [List.length_append, rows_append]; exact own1) (by omega) HF7.out hr7 (fun hi => by
                     rw [show (lq ++ [(⟨r.k, r.n, A', r.m, c'⟩ : Rq)])[ln.length] = ⟨r.k, r.n, A', r.m, c'⟩ from List.getElem_concat_length hll.symm _]
                     exact ⟨rfl, rfl, rfl, xs, HR6.out, hr⟩))
                   have HW7 := Lib.hid (show ∀ ad, Ab = some ad → w.heap.size ≤ ad.block ∧ Away ad.block gq (gq + 1) v' vo2 v1 (lq ++ [⟨r.k, r.n, A', r.m, c'⟩]) from fun ad e => ⟨(HW6.out ad e).1, (HW6.out ad e).2.addN hr7 (HAB6.out ad e)⟩)
                   have HRW7 := Lib.hid (HRW6.out.keep HF7.out (fun ad e f => (HW6.out ad e).2.pf (.inr (.inr (.inr (.inr f))))))
                   obtain ⟨A7, c7, hv7⟩ := own_slice own1
                   subst hv7
                   clear own1 hg1 hat1 hr7))
              | fail)
            have hll7 : (lq ++ [(⟨r.k, r.n, A', r.m, c'⟩ : Rq)]).length = (ln ++ [r]).length := by rw [List.length_append, List.length_append, hll]; rfl
            clear HP6 HR6 HW6 HRW6 HAB6 HF7 hld6
            go_loopw [11] (fun i wr => ∃ j : Nat, j ≤ r.m ∧ i = .int .i64 j ∧ Rw wr Ab r.m ∧ Fr (Bx Ab) w7 wr) (fun i _ => r.m - (intOf i).toNat)
            case atStart => exact ⟨0, Nat.zero_le _, rfl, HRW7.out, Fr.refl _ _⟩
            case round =>
              obtain ⟨j, hj, rfl, hrw, hfr⟩ := hrel
              by_cases hjm : j < r.m
              · obtain ⟨bb, rfl, ⟨u, hu⟩, hfz, hnext⟩ := hrw.at hjm
                have HN := Lib.hid (hnext (.int .u8 99))
                have HFR := Lib.hid hfr
                clear hnext hfr hrw
                go_wp2_with fail
                go_roundw
                case rel => exact ⟨j + 1, by omega, by go_num, HN.out.1, HFR.out.then_ HN.out.2 (fun _ _ e => e)⟩
                case measure => simp [intOf]; omega
              · have HP8 := Lib.hid (HP7.out.writes HW7.out hfr)
                clear hrw hfr
                go_wp2_with fail
                refine (len_calls _ _ _ _ _ HP8.out.q).mono ?_
                rintro e wz ⟨rfl, rfl⟩
                have hne : (((lq ++ [(⟨r.k, r.n, A', r.m, c'⟩ : Rq)]).length : Int) != (ln ++ [r]).length) = false := by rw [hll7]; simp
                try simp only [List.length_append, List.length_cons, List.length_nil, Int.natCast_add] at hne
                go_wp2_with fail
                go_roundw
                case rel => exact ⟨k + 1, _, vo2, lq ++ [(⟨r.k, r.n, A', r.m, c'⟩ : Rq)], lo2, ln ++ [r], by omega, by go_num, hll7, HP8.out⟩
                case measure => simp [intOf]; omega
          · have hn4 : ¬ (ln.length : Int) < 4 := by omega
            go_wp2_with fail
            refine (add_full _ _ _ _ ⟨r.k, r.n, Ab, r.m, cb⟩ _ HP.out.q (by omega)).mono ?_
            rintro e w6 ⟨rfl, hb6⟩
            have HP6 := Lib.hid (HP.out.step hb6)
            have HRW6 := Lib.hid (HRW.out.step hb6)
            clear hld5 hld
            go_wp2_with fail
            refine (num21 _ _).mono ?_
            rintro e wz ⟨rfl, rfl⟩
            go_wp2_with fail
            refine (num21 _ _).mono ?_
            rintro e wz ⟨rfl, rfl⟩
            go_wp2_with fail
            refine (num21 _ _).mono ?_
            rintro e wz ⟨rfl, rfl⟩
            go_wp2_with fail
            refine (num21 _ _).mono ?_
            rintro e wz ⟨rfl, rfl⟩
            go_wp2_with fail
            go_loopw [11] (fun i wr => ∃ j : Nat, j ≤ r.m ∧ i = .int .i64 j ∧ Rw wr Ab r.m ∧ Fr (Bx Ab) w6 wr) (fun i _ => r.m - (intOf i).toNat)
            case atStart => exact ⟨0, Nat.zero_le _, rfl, HRW6.out, Fr.refl _ _⟩
            case round =>
              obtain ⟨j, hj, rfl, hrw, hfr⟩ := hrel
              by_cases hjm : j < r.m
              · obtain ⟨bb, rfl, ⟨u, hu⟩, hfz, hnext⟩ := hrw.at hjm
                have HN := Lib.hid (hnext (.int .u8 99))
                have HFR := Lib.hid hfr
                clear hnext hfr hrw
                go_wp2_with fail
                go_roundw
                case rel => exact ⟨j + 1, by omega, by go_num, HN.out.1, HFR.out.then_ HN.out.2 (fun _ _ e => e)⟩
                case measure => simp [intOf]; omega
              · have HP8 := Lib.hid (HP6.out.writes HAW.out hfr)
                clear hrw hfr
                go_wp2_with fail
                refine (len_calls _ _ _ _ _ HP8.out.q).mono ?_
                rintro e wz ⟨rfl, rfl⟩
                have hne : (((lq).length : Int) != (ln).length) = false := by rw [hll]; simp
                try simp only [List.length_append, List.length_cons, List.length_nil, Int.natCast_add] at hne
                go_wp2_with fail
                go_roundw
                case rel => exact ⟨k + 1, _, vo2, lq, lo2, ln, by omega, by go_num, hll, HP8.out⟩
                case measure => simp [intOf]; omega
        · by_cases hw1 : way = 1
          · subst hw1
            cases lq with
            | nil =>
              obtain rfl : ln = [] := List.eq_nil_of_length_eq_zero hll.symm
              go_wp2_with fail
              refine (take_nil _ _ _ _ HP.out.q).mono ?_
              rintro e w3 ⟨rfl, hb3⟩
              have hn := Blk.new w3 43 #[.int .i64 0, .int .i64 0, .slice none 0 0] _ rfl
              have hst := hn.store 43 #[.int .i64 0, .int .i64 0, .slice none 0 0] infoR rfl rfl
              have hb4 := below_setRow (below_alloc1 w3 (.cells #[.int .i64 0, .int .i64 0, .slice none 0 0] 43)) (Nat.le_refl _) #[.int .i64 0, .int .i64 0, .slice none 0 0]
              have HP := Lib.hid ((HP.out.step hb3).step hb4)
              clear hn hb3 hb4
              go_upto_region 29 with fail
              generalize (w3.alloc (.cells #[.int .i64 0, .int .i64 0, .slice none 0 0] 43)).setRow w3.heap.size #[.int .i64 0, .int .i64 0, .slice none 0 0] = w4 at HP ⊢
              clear hst
              go_wp2_with fail
              refine (len_calls _ _ _ _ _ HP.out.q).mono ?_
              rintro e w5 ⟨rfl, rfl⟩
              go_wp2_with fail
              go_roundw
              case rel => exact ⟨k + 1, _, vo2, [], lo2, [], by omega, by go_num, rfl, HP.out⟩
              case measure => simp [intOf]; omega
            | cons b lq =>
              obtain ⟨b2, ln2, hln⟩ : ∃ b2 l2, ln = b2 :: l2 := by
                cases ln with
                | nil => simp at hll
                | cons x l => exact ⟨x, l, rfl⟩
              subst hln
              have htw : Twin w w2 b b2 := HP.out.tw 0 (by simp) (by simp)
              have hsm := HP.out.small b (.head _)
              go_wp2_with fail
              refine (take_cons _ _ _ b lq _ HP.out.q (by have := HP.out.lq4; simp at this; omega)).mono ?_
              rintro e w3 ⟨rfl, v3, hq3, hf3, hv3⟩
              have htw := htw.fr hf3 (fun ad e f => (HP.out.sep b (.head _) ad e).2.2 (.inl f))
              have HP := Lib.hid (HP.out.takeQ hq3 hf3 hv3)
              clear hq3 hf3 hv3
              have hn := Blk.new w3 43 #[.int .i64 0, .int .i64 0, .slice none 0 0] _ rfl
              have hst := hn.store 43 #[.int .i64 b.k, .int .i64 b.n, .slice b.A b.m b.c] infoR rfl rfl
              have hb4 := below_setRow (below_alloc1 w3 (.cells #[.int .i64 0, .int .i64 0, .slice none 0 0] 43)) (Nat.le_refl _) #[.int .i64 b.k, .int .i64 b.n, .slice b.A b.m b.c]
              have HX := Lib.hid (hn.set #[.int .i64 b.k, .int .i64 b.n, .slice b.A b.m b.c])
              have HP := Lib.hid (HP.out.step hb4)
              have htw := htw.fr (Fr.of_below hb4 (fun _ => False)) (fun _ _ => id)
              have HTW := Lib.hid htw
              clear hn hb4 htw
              go_upto_region 29 with fail
              generalize (w3.alloc (.cells #[.int .i64 0, .int .i64 0, .slice none 0 0] 43)).setRow w3.heap.size #[.int .i64 b.k, .int .i64 b.n, .slice b.A b.m b.c] = w4 at HP HX HTW ⊢
              clear hst
              obtain ⟨bn, cap2, hbn, hbn1, hbn2, hbn3, hbx⟩ := own_cells HP.out.n (by simp)
              injection hbn with hA1 hA2 hA3
              subst hA1 hA3
              have hat := own_rq hbx 0 (by simp)
              rw [Nat.zero_mul] at hat
              simp only [List.getElem_cons_zero] at hat
              have hld2 := hat.load
              have HBX := Lib.hid hbx
              have hlen : (0 : Int) < (ln2.length : Int) + 1 := by omega
              have hlt2 := HX.out.lt
              have hn := Blk.new w4 43 #[.int .i64 0, .int .i64 0, .slice none 0 0] _ rfl
              have hst := hn.store 43 #[.int .i64 b2.k, .int .i64 b2.n, .slice b2.A b2.m b2.c] infoR rfl rfl
              have hb4 := below_setRow (below_alloc1 w4 (.cells #[.int .i64 0, .int .i64 0, .slice none 0 0] 43)) (Nat.le_refl _) #[.int .i64 b2.k, .int .i64 b2.n, .slice b2.A b2.m b2.c]
              have HY := Lib.hid (hn.set #[.int .i64 b2.k, .int .i64 b2.n, .slice b2.A b2.m b2.c])
              have HP := Lib.hid (HP.out.step hb4)
              have HX := Lib.hid (HX.out.below hb4)
              have HTW := Lib.hid (HTW.out.fr (Fr.of_below hb4 (fun _ => False)) (fun _ _ => id))
              have HBX := Lib.hid (show ∀ j u, (rows (b2 :: ln2))[j]? = some u → ((w4.alloc (.cells #[.int .i64 0, .int .i64 0, .slice none 0 0] 43)).setRow w4.heap.size #[.int .i64 b2.k, .int .i64 b2.n, .slice b2.A b2.m b2.c]).cell? ⟨bn, j, none⟩ = some u from fun j u e => pw_cell_below hb4 (HBX.out j u e))
              clear hn hb4 hat hbx hbn3
              go_upto_region 33 with fail
              generalize (w4.alloc (.cells #[.int .i64 0, .int .i64 0, .slice none 0 0] 43)).setRow w4.heap.size #[.int .i64 b2.k, .int .i64 b2.n, .slice b2.A b2.m b2.c] = w5 at HP HX HY HTW HBX ⊢
              clear hst hld2 hlen
              obtain ⟨hk1, hk2, hk3, ys, hra, hrb⟩ := HTW.out
              have hx0 := HX.out.cell 0
              have hx1 := HX.out.cell 1
              have hx2 := HX.out.cell 2
              have hy0 := HY.out.cell 0
              have hy1 := HY.out.cell 1
              have hy2 := HY.out.cell 2
              have hn1 : (b.k != b2.k) = false := by rw [hk1]; simp
              have hn2 : (b.n != b2.n) = false := by rw [hk2]; simp
              have hv1 := conv_reads b.c hra
              have hv2 := conv_reads b2.c (hrb.below HP.out.below)

              clear hk1 hk2 hk3 hra hrb
              go_upto_region 35 with fail
              clear hx0 hx1 hx2 hy0 hy1 hy2 hn1 hn2 hv1 hv2
              have hll2 : lq.length = ln2.length := by simpa using hll
              have hln4 : (b2 :: ln2).length ≤ 4 := HP.out.ln4
              rw [List.length_cons] at hln4
              have HY3 := Lib.hid (show ∀ j u, (rows ln2)[j]? = some u → w5.cell? ((⟨bn, 3, none⟩ : Addr).add j) = some u from fun j u e => by
                rw [add_at]
                refine HBX.out _ _ ?_
                have hr : rows (b2 :: ln2) = b2.cells ++ rows ln2 := by unfold rows; rw [List.flatMap_cons]
                rw [hr, List.getElem?_append_right (by simp [Rq.cells])]
                rw [show 3 + j - b2.cells.length = j by simp [Rq.cells]]
                exact e)
              have HY0 := Lib.hid (show cn = 1 → ∀ j u, (rows ln2)[j]? = some u → w5.cell? ((⟨bn, 0, none⟩ : Addr).add j) = some u from fun h1 j u e => by
                have hl0 : ln2 = [] := List.eq_nil_of_length_eq_zero (by simp at hbn2; omega)
                rw [hl0] at e
                simp [rows] at e)
              by_cases hc1 : cn = 1
              · have HZ := Lib.hid (HY0.out hc1)
                clear HY0 HY3 HBX
                go_wp2_with (first
                  | (at_builtin
                     refine list_own (o := ⟨some 149, _, _, _, _, _⟩) w.heap.size 3 40 rfl (.const (.slice none 0 0)) (.tmp 148) 39 43 rfl Try.underlying39 infoReq (by decide) (.slice none 0 0) 0 [] ⟨bn, 0, none⟩ ln2.length 0 (rows ln2) rfl rfl ⟨rfl, .inl ⟨rfl, rfl⟩⟩ (rows_length ln2) HZ.out (rows_one ln2) (by unfold maxLen; omega) (by omega) HP.out.below.size ?_
                     intro v1 w6 own1 hg1 hat1
                     rw [Nat.zero_add, List.nil_append] at own1
                     have HP6 := Lib.hid (HP.out.takeN own1 (below_grown (Below.refl _ _) hg1 (fun b e => by cases e) (Nat.le_refl _)) (fun b e => by
                       rcases hat1 with h1 | h1
                       · rw [h1] at e; cases e
                       · rw [h1] at e; injection e with e; omega))
                     clear own1 hg1 hat1
                     obtain ⟨A6, c6, hv6⟩ := own_slice HP6.out.n
                     subst hv6)
                  | fail)
                refine (len_calls _ _ _ _ _ HP6.out.q).mono ?_
                rintro e w7 ⟨rfl, rfl⟩
                have hne : ((lq.length : Int) != ln2.length) = false := by rw [hll2]; simp
                go_wp2_with fail
                go_roundw
                case rel => exact ⟨k + 1, _, vo2, lq, lo2, ln2, by omega, by go_num, hll2, HP6.out⟩
                case measure => simp [intOf]; omega
              · clear HY0 HBX
                go_wp2_with (first
                  | (at_builtin
                     refine list_own (o := ⟨some 149, _, _, _, _, _⟩) w.heap.size 3 40 rfl (.const (.slice none 0 0)) (.tmp 148) 39 43 rfl Try.underlying39 infoReq (by decide) (.slice none 0 0) 0 [] ⟨bn, 3, none⟩ ln2.length (cn - 1) (rows ln2) rfl rfl ⟨rfl, .inl ⟨rfl, rfl⟩⟩ (rows_length ln2) HY3.out (rows_one ln2) (by unfold maxLen; omega) (by omega) HP.out.below.size ?_
                     intro v1 w6 own1 hg1 hat1
                     rw [Nat.zero_add, List.nil_append] at own1
                     have HP6 := Lib.hid (HP.out.takeN own1 (below_grown (Below.refl _ _) hg1 (fun b e => by cases e) (Nat.le_refl _)) (fun b e => by
                       rcases hat1 with h1 | h1
                       · rw [h1] at e; cases e
                       · rw [h1] at e; injection e with e; omega))
                     clear own1 hg1 hat1
                     obtain ⟨A6, c6, hv6⟩ := own_slice HP6.out.n
                     subst hv6)
                  | fail)
                refine (len_calls _ _ _ _ _ HP6.out.q).mono ?_
                rintro e w7 ⟨rfl, rfl⟩
                have hne : ((lq.length : Int) != ln2.length) = false := by rw [hll2]; simp
                go_wp2_with fail
                go_roundw
                case rel => exact ⟨k + 1, _, vo2, lq, lo2, ln2, by omega, by go_num, hll2, HP6.out⟩
                case measure => simp [intOf]; omega
          · by_cases hw2 : way = 2
            · subst hw2
              go_wp2_with fail
              refine (clear_calls _ _ _ _ _ HP.out.q).mono ?_
              rintro e w3 ⟨rfl, hq3, hf3⟩
              have HP := Lib.hid (HP.out.clear hq3 hf3)
              clear hq3 hf3
              go_wp2_with fail
              refine (len_calls _ _ _ _ _ HP.out.q).mono ?_
              rintro e w4 ⟨rfl, rfl⟩
              go_wp2_with fail
              go_roundw
              case rel => exact ⟨k + 1, _, vo2, [], lo2, [], by omega, by go_num, rfl, HP.out⟩
              case measure => simp [intOf]; omega
            · have e0 : (way == 0) = false := by simp [hw0]
              have e1 : (way == 1) = false := by simp [hw1]
              have e2 : (way == 2) = false := by simp [hw2]
              go_wp2_with fail
              refine (len_calls _ _ _ _ _ HP.out.q).mono ?_
              rintro e w3 ⟨rfl, rfl⟩
              have hne : ((lq.length : Int) != ln.length) = false := by rw [hll]; simp
              go_wp2_with fail
              go_roundw
              case rel => exact ⟨k + 1, vq, vo2, lq, lo2, ln, by omega, by go_num, hll, HP.out⟩
              case measure => simp [intOf]; omega
    · obtain rfl : k = len := by omega
      have hnl : ¬ ((k : Int) < k) := by omega
      have HB := Lib.hid HP.out.below
      clear HP hlt
      go_wp2_with fail
      go_ret
      exact ⟨rfl, HB.out⟩
end Go.Proofs.Ytajflegjpnmloaa.Queue
