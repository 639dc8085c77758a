/- What QueuePlays' loop keeps. -/
import Derived.Test.YtajflegjpnmloaaQueueOpen
namespace Go.Proofs.Ytajflegjpnmloaa.Queue
open Go.RowKit Go.Proofs.YtajflegjpnmloaaW.PrintWords Go.Proofs.YtajflegjpnmloaaW.PrintLast Go.Proofs.Ytajflegjpnmloaa.Kit Go.Proofs.Ytajflegjpnmloaa.Field
set_option linter.unusedSimpArgs false
set_option linter.unusedVariables false
theorem add_off (a : Addr) (i d : Nat) (hd : 0 < d) : a.add (i * 4 + d) = ⟨(a.add (i * 4)).block, (a.add (i * 4)).off + d, none⟩ := by
  unfold Addr.add
  rw [if_neg (by omega)]
  split
  · rename_i h; simp [h]
  · simp; omega
theorem ActAt.f0 {W : World} {a : Addr} {i : Nat} {way : Int} {r : Rq} (h : ActAt W a i way r) : W.cell? (a.add (i * 4)) = some (.int .i64 way) := h.c0
theorem ActAt.f3 {W : World} {a : Addr} {i : Nat} {way : Int} {r : Rq} (h : ActAt W a i way r) : W.cell? ⟨(a.add (i * 4)).block, (a.add (i * 4)).off + 3, none⟩ = some (.slice r.A r.m r.c) := by rw [← add_off a i 3 (by decide)]; exact h.c3
theorem ActAt.rq {W : World} {a : Addr} {i : Nat} {way : Int} {r : Rq} (h : ActAt W a i way r) : RqAt W ⟨(a.add (i * 4)).block, (a.add (i * 4)).off + 1, none⟩ r := fun j v e => by
  rw [add_at, Nat.add_assoc, ← add_off a i (1 + j) (by omega)]
  match j, e with
  | 0, e => rw [← (Option.some.inj e : _ = v)]; exact h.c1
  | 1, e => rw [← (Option.some.inj e : _ = v)]; exact h.c2
  | 2, e => rw [← (Option.some.inj e : _ = v)]; exact h.c3
  | n + 3, e => simp [Rq.cells] at e
/-- two requests that are alike: a in the queue, b as it came in -/
def Twin (w W : World) (a b : Rq) : Prop := a.k = b.k ∧ a.n = b.n ∧ a.m = b.m ∧ ∃ xs, ReadsInt W .u8 a.A a.m xs ∧ ReadsInt w .u8 b.A b.m xs
/-- the blocks that may be written -/
def pF (gq go : Nat) (vq vo vn : Value) : Nat → Prop := fun i => i = gq ∨ i = go ∨ vq.ownBlock = some i ∨ vo.ownBlock = some i ∨ vn.ownBlock = some i
structure Play (d : Nat) (w W : World) (gq go : Nat) (vq vo vn : Value) (lq lo ln : List Rq) : Prop where
  q : Qu W w.heap.size gq vq lq
  o : Qu W w.heap.size go vo lo
  n : W.ownsRow w.heap.size 43 3 vn ln.length (rows ln)
  below : Below w.heap.size w W
  lo4 : lo.length ≤ 4
  lq4 : lq.length ≤ 4
  ln4 : ln.length ≤ 4
  small : ∀ a ∈ lq, a.m ≤ 300
  ne : gq ≠ go
  qo : ∀ b, vq.ownBlock = some b → vo.ownBlock ≠ some b ∧ vn.ownBlock ≠ some b
  on : ∀ b, vo.ownBlock = some b → vn.ownBlock ≠ some b
  sep : ∀ a ∈ lq, ∀ ad, a.A = some ad → w.heap.size ≤ ad.block ∧ ad.block < W.heap.size ∧ ¬ pF gq go vq vo vn ad.block
  tw : ∀ i (h : i < lq.length) (k : i + d < ln.length), Twin w W lq[i] ln[i + d]
section
variable {d : Nat} {w W W' : World} {gq go g : Nat} {vq vo vn v v' : Value} {lq lo ln l l' : List Rq} {G : Nat → Prop}
theorem own_not {B size n : Nat} {xs : List Value} (h : W.ownsRow B 43 size v n xs) (k : Qu W B g v' l) : v.ownBlock ≠ some g := by
  rcases h.2 with ⟨rfl, _⟩ | ⟨r, cap, cur, rfl, hb, hh, h2⟩
  · simp [Value.ownBlock]
  · intro e
    have e2 : r = g := by simpa [Value.ownBlock] using e
    subst e2
    have := hh.symm.trans k.cell
    injection this with this
    injection this with _ this
    exact absurd this (by decide)
theorem Twin.fr {a b : Rq} (h : Twin w W a b) (k : Fr G W W') (hA : ∀ ad, a.A = some ad → ¬ G ad.block) : Twin w W' a b := by
  obtain ⟨h1, h2, h3, xs, hr, hq⟩ := h
  exact ⟨h1, h2, h3, xs, k.reads hr (fun _ ad e => hA ad e), hq⟩
/-- a change that touches none of its blocks -/
theorem Play.fr (h : Play d w W gq go vq vo vn lq lo ln) (k : Fr G W W') (hP : ∀ i, pF gq go vq vo vn i → ¬ G i) (hL : ∀ i, i < w.heap.size → ¬ G i) (hS : ∀ a ∈ lq, ∀ ad, a.A = some ad → ¬ G ad.block) : Play d w W' gq go vq vo vn lq lo ln where
  q := h.q.keep k (hP _ (.inl rfl)) (fun b e => hP b (.inr (.inr (.inl e))))
  o := h.o.keep k (hP _ (.inr (.inl rfl))) (fun b e => hP b (.inr (.inr (.inr (.inl e)))))
  n := own_keep h.n k (fun b e => hP b (.inr (.inr (.inr (.inr e)))))
  below := h.below.trans (k.to_below hL h.below.size)
  lo4 := h.lo4
  lq4 := h.lq4
  ln4 := h.ln4
  small := h.small
  ne := h.ne
  qo := h.qo
  on := h.on
  sep := fun a ha ad e => ⟨(h.sep a ha ad e).1, Nat.lt_of_lt_of_le (h.sep a ha ad e).2.1 k.size, (h.sep a ha ad e).2.2⟩
  tw := fun i hi hk => (h.tw i hi hk).fr k (fun ad e => hS _ (List.getElem_mem hi) ad e)
theorem Play.step (h : Play d w W gq go vq vo vn lq lo ln) (k : Below W.heap.size W W') : Play d w W' gq go vq vo vn lq lo ln :=
  h.fr (Fr.of_below k (fun _ => False)) (fun _ _ => id) (fun _ _ => id) (fun _ _ _ _ => id)
theorem next_not {b : Nat} (h : rowNext W v v') (hb : b < W.heap.size) (hv : v.ownBlock ≠ some b) : v'.ownBlock ≠ some b := by
  rcases h with e | ⟨c, e, hc⟩
  · rw [e]; exact hv
  · intro e2
    rw [e] at e2
    injection e2 with e2
    omega
/-- the other queue has changed -/
theorem Play.addO (h : Play d w W gq go vq vo vn lq lo ln) (hq : Qu W' w.heap.size go v' l') (h4 : l'.length ≤ 4) (k : Fr (qF go vo) W W') (hr : rowNext W vo v') : Play d w W' gq go vq v' vn lq l' ln := by
  have nq : ∀ b, vq.ownBlock = some b → ¬ qF go vo b := fun b e f => f.elim (fun e2 => by subst e2; exact own_not h.q.own h.o e) (fun e2 => (h.qo b e).1 e2)
  have nn : ∀ b, vn.ownBlock = some b → ¬ qF go vo b := fun b e f => f.elim (fun e2 => by subst e2; exact own_not h.n h.o e) (fun e2 => h.on b e2 e)
  have ng : ¬ qF go vo gq := fun f => f.elim (fun e => h.ne e) (fun e => own_not h.o.own h.q e)
  have hp : ∀ b, b < W.heap.size → ¬ pF gq go vq vo vn b → ¬ pF gq go vq v' vn b := fun b hb hn f => by
    rcases f with f | f | f | f | f
    · exact hn (.inl f)
    · exact hn (.inr (.inl f))
    · exact hn (.inr (.inr (.inl f)))
    · exact next_not hr hb (fun e => hn (.inr (.inr (.inr (.inl e))))) f
    · exact hn (.inr (.inr (.inr (.inr f))))
  refine ⟨h.q.keep k ng nq, hq, own_keep h.n k nn, h.below.trans (k.to_below (fun i hi f => ?_) h.below.size), h4, h.lq4, h.ln4, h.small, h.ne, fun b e => ⟨next_not hr (own_ge h.q.own e).2 (h.qo b e).1, (h.qo b e).2⟩, fun b e => ?_, fun a ha ad e => ?_, fun i hi hk => (h.tw i hi hk).fr k (fun ad e f => ?_)⟩
  · rcases f with f | f
    · have := h.o.hB; omega
    · have := (own_ge h.o.own f).1; omega
  · intro e2
    exact next_not hr (own_ge h.n e2).2 (fun e3 => h.on b e3 e2) e
  · obtain ⟨s1, s2, s3⟩ := h.sep a ha ad e
    exact ⟨s1, Nat.lt_of_lt_of_le s2 k.size, hp _ s2 s3⟩
  · obtain ⟨s1, s2, s3⟩ := h.sep _ (List.getElem_mem hi) ad e
    exact f.elim (fun e => s3 (.inr (.inl e))) (fun e => s3 (.inr (.inr (.inr (.inl e)))))
/-- the queue has taken one more -/
theorem Play.addQ {a : Rq} (h : Play d w W gq go vq vo vn lq lo ln) (hq : Qu W' w.heap.size gq v' (lq ++ [a])) (h4 : lq.length < 4) (hm : a.m ≤ 300) (ha : ∀ ad, a.A = some ad → W.heap.size ≤ ad.block ∧ ad.block < W'.heap.size ∧ v'.ownBlock ≠ some ad.block) (k : Fr (qF gq vq) W W') (hr : rowNext W vq v') (hln : ln.length = lq.length) :
    Play d w W' gq go v' vo vn (lq ++ [a]) lo ln := by
  have no : ∀ b, vo.ownBlock = some b → ¬ qF gq vq b := fun b e f => f.elim (fun e2 => by subst e2; exact own_not h.o.own h.q e) (fun e2 => (h.qo b e2).1 e)
  have nn : ∀ b, vn.ownBlock = some b → ¬ qF gq vq b := fun b e f => f.elim (fun e2 => by subst e2; exact own_not h.n h.q e) (fun e2 => (h.qo b e2).2 e)
  have ng : ¬ qF gq vq go := fun f => f.elim (fun e => h.ne e.symm) (fun e => own_not h.q.own h.o e)
  refine ⟨hq, h.o.keep k ng no, own_keep h.n k nn, h.below.trans (k.to_below (fun i hi f => ?_) h.below.size), h.lo4, by rw [List.length_append]; simp; omega, h.ln4, fun x hx => ?_, h.ne, fun b e => ⟨fun e2 => ?_, fun e2 => ?_⟩, h.on, fun x hx ad e => ?_, fun i hi hk => ?_⟩
  · rcases f with f | f
    · have := h.q.hB; omega
    · have := (own_ge h.q.own f).1; omega
  · rcases List.mem_append.1 hx with hx | hx
    · exact h.small x hx
    · rw [List.mem_singleton.1 hx]; exact hm
  · exact next_not hr (own_ge h.o.own e2).2 (fun e3 => (h.qo b e3).1 e2) e
  · exact next_not hr (own_ge h.n e2).2 (fun e3 => (h.qo b e3).2 e2) e
  · rcases List.mem_append.1 hx with hx | hx
    · obtain ⟨s1, s2, s3⟩ := h.sep x hx ad e
      refine ⟨s1, Nat.lt_of_lt_of_le s2 k.size, fun f => ?_⟩
      rcases f with f | f | f | f | f
      · exact s3 (.inl f)
      · exact s3 (.inr (.inl f))
      · exact next_not hr s2 (fun e => s3 (.inr (.inr (.inl e)))) f
      · exact s3 (.inr (.inr (.inr (.inl f))))
      · exact s3 (.inr (.inr (.inr (.inr f))))
    · rw [List.mem_singleton.1 hx] at e
      obtain ⟨s1, s2, s3⟩ := ha ad e
      refine ⟨by have := h.below.size; omega, s2, fun f => ?_⟩
      rcases f with f | f | f | f | f
      · have := h.q.lt; omega
      · have := h.o.lt; omega
      · exact s3 f
      · have := (own_ge h.o.own f).2; omega
      · have := (own_ge h.n f).2; omega
  · have hi2 : i < lq.length := by omega
    rw [List.getElem_append_left hi2]
    refine (h.tw i hi2 hk).fr k (fun ad e f => ?_)
    obtain ⟨s1, s2, s3⟩ := h.sep _ (List.getElem_mem hi2) ad e
    exact f.elim (fun e => s3 (.inl e)) (fun e => s3 (.inr (.inr (.inl e))))
/-- now has one more -/
theorem Play.addN {b : Rq} (h : Play 0 w W gq go vq vo vn lq lo ln) (hn : W'.ownsRow w.heap.size 43 3 v' (ln ++ [b]).length (rows (ln ++ [b]))) (h4 : ln.length < 4) (k : Fr (fun i => vn.ownBlock = some i) W W') (hr : rowNext W vn v') (ht : ∀ hi : ln.length < lq.length, Twin w W lq[ln.length] b) :
    Play 0 w W' gq go vq vo v' lq lo (ln ++ [b]) := by
  refine ⟨h.q.keep k (fun e => own_not h.n h.q e) (fun b e e2 => (h.qo b e).2 e2), h.o.keep k (fun e => own_not h.n h.o e) (fun b e e2 => h.on b e e2), hn, h.below.trans (k.to_below (fun i hi f => ?_) h.below.size), h.lo4, h.lq4, by rw [List.length_append]; simp; omega, h.small, h.ne, fun b e => ⟨(h.qo b e).1, next_not hr (own_ge h.q.own e).2 (h.qo b e).2⟩, fun b e => next_not hr (own_ge h.o.own e).2 (h.on b e), fun x hx ad e => ?_, fun i hi hk => ?_⟩
  · have := (own_ge h.n f).1; omega
  · obtain ⟨s1, s2, s3⟩ := h.sep x hx ad e
    refine ⟨s1, Nat.lt_of_lt_of_le s2 k.size, fun f => ?_⟩
    rcases f with f | f | f | f | f
    · exact s3 (.inl f)
    · exact s3 (.inr (.inl f))
    · exact s3 (.inr (.inr (.inl f)))
    · exact s3 (.inr (.inr (.inr (.inl f))))
    · exact next_not hr s2 (fun e => s3 (.inr (.inr (.inr (.inr e))))) f
  · have hA : ∀ ad, lq[i].A = some ad → ¬ vn.ownBlock = some ad.block := fun ad e f => (h.sep _ (List.getElem_mem hi) ad e).2.2 (.inr (.inr (.inr (.inr f))))
    by_cases hj : i < ln.length
    · have e : (ln ++ [b])[i + 0] = ln[i] := List.getElem_append_left hj
      rw [e]
      exact (h.tw i hi hj).fr k hA
    · obtain rfl : i = ln.length := by rw [List.length_append] at hk; simp at hk; omega
      have e : (ln ++ [b])[ln.length + 0] = b := List.getElem_concat_length rfl _
      rw [e]
      exact (ht hi).fr k hA
/-- the queue has given its first -/
theorem Play.takeQ {a : Rq} (h : Play 0 w W gq go vq vo vn (a :: lq) lo ln) (hq : Qu W' w.heap.size gq v' lq) (k : Fr (· = gq) W W') (hv : ∀ b, v'.ownBlock = some b → W.heap.size ≤ b) : Play 1 w W' gq go v' vo vn lq lo ln := by
  refine ⟨hq, h.o.keep k (fun e => h.ne e.symm) (fun b e e2 => by subst e2; exact own_not h.o.own h.q e), own_keep h.n k (fun b e e2 => by subst e2; exact own_not h.n h.q e), h.below.trans (k.to_below (fun i hi f => by have := h.q.hB; omega) h.below.size), h.lo4, by have := h.lq4; simp at this; omega, h.ln4, fun x hx => h.small x (.tail _ hx), h.ne, fun b e => ⟨fun e2 => ?_, fun e2 => ?_⟩, h.on, fun x hx ad e => ?_, fun i hi hk => ?_⟩
  · have := (own_ge h.o.own e2).2; have := hv b e; omega
  · have := (own_ge h.n e2).2; have := hv b e; omega
  · obtain ⟨s1, s2, s3⟩ := h.sep x (.tail _ hx) ad e
    refine ⟨s1, Nat.lt_of_lt_of_le s2 k.size, fun f => ?_⟩
    rcases f with f | f | f | f | f
    · exact s3 (.inl f)
    · exact s3 (.inr (.inl f))
    · have := hv _ f; omega
    · exact s3 (.inr (.inr (.inr (.inl f))))
    · exact s3 (.inr (.inr (.inr (.inr f))))
  · have ht := h.tw (i + 1) (by simp; omega) (by omega)
    refine Twin.fr ht k (fun ad e f => ?_)
    exact (h.sep _ (.tail _ (List.getElem_mem hi)) ad e).2.2 (.inl f)
/-- now is a copy without its first -/
theorem Play.takeN {b : Rq} (h : Play 1 w W gq go vq vo vn lq lo (b :: ln)) (hn : W'.ownsRow w.heap.size 43 3 v' ln.length (rows ln)) (k : Below W.heap.size W W') (hv : ∀ b, v'.ownBlock = some b → W.heap.size ≤ b) : Play 0 w W' gq go vq vo v' lq lo ln := by
  refine ⟨h.q.below k, h.o.below k, hn, h.below.trans (k.mono h.below.size), h.lo4, h.lq4, by have := h.ln4; simp at this; omega, h.small, h.ne, fun b e => ⟨(h.qo b e).1, fun e2 => ?_⟩, fun b e e2 => ?_, fun x hx ad e => ?_, fun i hi hk => ?_⟩
  · have := (own_ge h.q.own e).2; have := hv b e2; omega
  · have := (own_ge h.o.own e).2; have := hv b e2; omega
  · obtain ⟨s1, s2, s3⟩ := h.sep x hx ad e
    refine ⟨s1, Nat.lt_of_lt_of_le s2 k.size, fun f => ?_⟩
    rcases f with f | f | f | f | f
    · exact s3 (.inl f)
    · exact s3 (.inr (.inl f))
    · exact s3 (.inr (.inr (.inl f)))
    · exact s3 (.inr (.inr (.inr (.inl f))))
    · have := hv _ f; omega
  · exact Twin.fr (h.tw i hi (by simp; omega)) (Fr.of_below k (fun _ => False)) (fun _ _ => id)
/-- all is forgotten -/
theorem Play.clear (h : Play d w W gq go vq vo vn lq lo ln) (hq : Qu W' w.heap.size gq (.slice none 0 0) []) (k : Fr (· = gq) W W') : Play 0 w W' gq go (.slice none 0 0) vo (.slice none 0 0) [] lo [] :=
  ⟨hq, h.o.keep k (fun e => h.ne e.symm) (fun b e e2 => by subst e2; exact own_not h.o.own h.q e), ⟨rfl, .inl ⟨rfl, rfl⟩⟩, h.below.trans (k.to_below (fun i hi f => by have := h.q.hB; omega) h.below.size), h.lo4, by simp, by simp, fun x hx => (by cases hx), h.ne, fun b e => (by cases e), fun b e e2 => (by cases e2), fun x hx => (by cases hx), fun i hi => (by simp at hi)⟩
end
end Go.Proofs.Ytajflegjpnmloaa.Queue
