/- The queue's calls, over what QueuePlays keeps. -/
import Derived.Test.YtajflegjpnmloaaQueueInv
namespace Go.Proofs.Ytajflegjpnmloaa.Queue
open Go.RowKit Go.Proofs.YtajflegjpnmloaaW.PrintWords Go.Proofs.YtajflegjpnmloaaW.PrintLast Go.Proofs.Ytajflegjpnmloaa.Kit Go.Proofs.Ytajflegjpnmloaa.Field
set_option linter.unusedSimpArgs false
set_option linter.unusedVariables false
theorem addO_calls {d : Nat} {w W : World} {gq go : Nat} {vq vo vn : Value} {lq lo ln : List Rq} (r : Rq) (xs : List Int) (h : Play d w W gq go vq vo vn lq lo ln) (hr : ReadsInt W .u8 r.A r.m xs) (hm : r.m ≤ 300) :
    Calls Try.prog 31 #[.pointer (some ⟨go, 0, none⟩), .agg #[.int .i64 r.k, .int .i64 r.n, .slice r.A r.m r.c]] W fun e w' => ∃ x vo' lo', e = .returned (.int .i64 x) ∧ Play d w w' gq go vq vo' vn lq lo' ln ∧ Below w.heap.size W w' := by
  by_cases h4 : lo.length < 4
  · refine (add_ok _ _ _ _ r xs W h.o h4 hr (by omega)).mono ?_
    rintro e w' ⟨rfl, v', A', c', hq, _, _, hf, hn⟩
    refine ⟨0, v', _, rfl, h.addO hq (by rw [List.length_append]; simp; omega) hf hn, hf.to_below (fun i hi f => ?_) h.below.size⟩
    rcases f with f | f
    · have := h.o.hB; omega
    · have := (own_ge h.o.own f).1; omega
  · refine (add_full _ _ _ _ r W h.o (by omega)).mono ?_
    rintro e w' ⟨rfl, hb⟩
    exact ⟨15, _, _, rfl, h.step hb, hb.mono h.below.size⟩
/-- the queue takes one more, or is full -/
theorem addQ_calls {w W : World} {gq go : Nat} {vq vo vn : Value} {lq lo ln : List Rq} (r : Rq) (xs : List Int) (h : Play 0 w W gq go vq vo vn lq lo ln) (hr : ReadsInt W .u8 r.A r.m xs) (hm : r.m ≤ 300) (hll : lq.length = ln.length) (h4 : lq.length < 4) :
    Calls Try.prog 31 #[.pointer (some ⟨gq, 0, none⟩), .agg #[.int .i64 r.k, .int .i64 r.n, .slice r.A r.m r.c]] W fun e w' => e = .returned (.int .i64 0) ∧ ∃ v' A' c', Play 0 w w' gq go v' vo vn (lq ++ [⟨r.k, r.n, A', r.m, c'⟩]) lo ln ∧ ReadsInt w' .u8 A' r.m xs ∧ Fr (qF gq vq) W w' ∧ rowNext W vq v' ∧ (∀ ad, A' = some ad → W.heap.size ≤ ad.block) := by
  refine (add_ok _ _ _ _ r xs W h.q h4 hr (by omega)).mono ?_
  rintro e w' ⟨rfl, v', A', c', hq, hr', ha, hf, hn⟩
  exact ⟨rfl, v', A', c', h.addQ hq h4 hm ha hf hn hll.symm, hr', hf, hn, fun ad e => (ha ad e).1⟩
end Go.Proofs.Ytajflegjpnmloaa.Queue
