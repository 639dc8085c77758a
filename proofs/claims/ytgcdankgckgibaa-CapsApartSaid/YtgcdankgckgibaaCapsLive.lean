/- Walks: alive and Few of chapter 15; May and the reference's; arguments laid open. -/
import Derived.Test.YtgcdankgckgibaaCapsRef
import Derived.Lib.SmallJoins
namespace Go.Proofs.Ytgcdankgckgibaa.Caps
open Go.RowKit Go.Proofs.YtgcdankgckgibaaW.PrintWords Go.Proofs.YtgcdankgckgibaaW.PrintLast Go.Proofs.Ytgcdankgckgibaa.Kit Go.Proofs.Ytgcdankgckgibaa.Runes
attribute [local go_sem ↓] ldC
set_option linter.unusedSimpArgs false

/-- a call's own row, laid open -/
theorem own_open {W : World} {B size n : Nat} {e : TypeId} {v : Value} {xs : List Value} (h : W.ownsRow B e size v n xs) (hn : 0 < n) :
    ∃ g cap, v = .slice (some ⟨g, 0, none⟩) n cap ∧ B ≤ g ∧ g < W.heap.size ∧ n ≤ cap ∧ ∀ j u, xs[j]? = some u → W.cell? ⟨g, j, none⟩ = some u := by
  rcases h.2 with ⟨_, h0⟩ | ⟨g, cap, cur, rfl, hg, hh, hc, _, _, ht⟩
  · omega
  · refine ⟨g, cap, rfl, hg, (Array.getElem?_eq_some_iff.1 hh).1, hc, fun j u hu => ?_⟩
    rw [cell_of_row W g j cur e (0, 0) hh]
    rw [← ht] at hu
    have := List.getElem?_take (l := cur.toList) (i := n * size) (j := j)
    rw [hu] at this
    split at this
    · rw [← Array.getElem?_toList]; exact this.symm
    · cases this
def cfgA (ka : Option Addr) (nk kc : Nat) (fa : Option Addr) (nf fc : Nat) : Cfg := ⟨⟨#[97]⟩, ka, nk, kc, 1, 0, 1, 0, fa, nf, fc⟩
theorem validA : validB (runes ⟨#[97]⟩) = true := by kernel_rfl
theorem row_one (W : World) (c : Cfg) (g : Nat) (hg : g = W.heap.size) : CfgRow (W.alloc (.cells #[.string c.nm, .slice c.ka c.nk c.kc, .int .i64 c.slot, .int .i64 c.bud, .int .i64 c.quo, .int .i64 c.rig, .slice c.fa c.nf c.fc] 35)) (some ⟨g, 0, none⟩) [c] := fun i hi => by
  subst hg
  simp at hi
  subst hi
  exact ⟨_, rfl, by simpa [add_none] using box_at W c⟩
theorem small_one (c : Cfg) (h : c.nm.size < 9223372036854775807) : ∀ i (hi : i < [c].length), ([c][i]).nm.size < 9223372036854775807 := by
  intro i hi
  simp at hi
  subst hi
  exact h
theorem below_alloc3 (W : World) (a b c : Obj) : Below W.heap.size W (((W.alloc a).alloc b).alloc c) := (((Below.refl _ _).alloc (Nat.le_refl _) _).alloc (by simp) _).alloc (by simp; omega) _
theorem dealE_nil : dealE [] = 1 := rfl
theorem dealE_A (ka : Option Addr) (kc : Nat) (fa : Option Addr) (fc : Nat) : dealE [cfgA ka 1 kc fa 1 fc] = 0 := by
  have h : (cfgA ka 1 kc fa 1 fc).right = true := by
    unfold Cfg.right
    rw [show validB (runes (cfgA ka 1 kc fa 1 fc).nm) = true from validA, Bool.true_and, decide_eq_true_eq]
    simp [Cfg.fits, cfgA]
  exact dealE_yes (by simp) (by simp) (by simp [h]) (by simp [namesOf])
theorem capsA (ka : Option Addr) (kc : Nat) (fa : Option Addr) (fc : Nat) : capsTo [cfgA ka 1 kc fa 1 fc] 1 = [.int .i64 0, .int .i64 0, .int .i64 6] := rfl

set_option maxHeartbeats 2000000 in
theorem live15 (w : World) : Calls Try.prog 14 #[] w fun e w' => e = .returned (.bool true) ∧ Below w.heap.size w w' := by
  go_enter Try.func14, Try.ntmps14
  go_wp2_with fail
  refine (deal_calls none 0 0 [] _ rfl (fun i hi => absurd hi (by simp)) (fun i hi => absurd hi (by simp))).mono ?_
  rintro e w2 ⟨hb2, v, rfl, -, hv⟩
  rw [dealE_nil] at hv ⊢
  obtain rfl := hv (by decide)
  have kc := fun (w : World) (C : Array Value) (n c : Nat) => Lib.run_convert_bytes_const (P := Try.prog) w 33 5 C n c Try.underlying33 Try.underlying5
  have kd := Go.Joins.run_convert_bytes_const_at (P := Try.prog) (w2.alloc (.cells #[.int .u8 107] 5 (1, 2))) 33 5 #[.int .u8 120] 1 1 (w2.heap.size + 1) (by simp) Try.underlying33 Try.underlying5
  go_wp2_with fail
  refine (deal_calls _ 1 1 [cfgA (some ⟨w2.heap.size, 0, none⟩) 1 1 (some ⟨w2.heap.size + 1, 0, none⟩) 1 1] _ rfl (row_one _ (cfgA (some ⟨w2.heap.size, 0, none⟩) 1 1 (some ⟨w2.heap.size + 1, 0, none⟩) 1 1) _ (by simp)) (small_one _ (show 1 < 9223372036854775807 by decide))).mono ?_
  rintro e w3 ⟨hb3, v3, rfl, hv, -⟩
  rw [dealE_A] at hv ⊢
  have ho := hv rfl
  obtain ⟨g, cap, rfl, hg, -, -, hcell⟩ := own_open ho (by simp)
  have hc2 := hcell 2 (.int .i64 6) rfl
  have HB3 := Lib.hid (hb2.trans (((below_alloc3 w2 _ _ _).trans (hb3.mono (below_alloc3 w2 _ _ _).size)).mono hb2.size))
  clear kc kd hb3 hv ho hcell hb2
  go_wp2_with fail
  refine (num_calls _ _).mono ?_
  rintro e w4 ⟨rfl, rfl⟩
  go_wp2_with fail
  refine (num_calls _ _).mono ?_
  rintro e w4 ⟨rfl, rfl⟩
  go_wp2_with fail
  go_ret
  exact ⟨rfl, HB3.out⟩
end Go.Proofs.Ytgcdankgckgibaa.Caps
