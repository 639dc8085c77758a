/- What the reads give, said once for both ways out; waterlinelaw18.same; worlds held through a drawn region. -/
import Derived.Test.YtehlcljachkgdaaReqRefReq
import Derived.Test.YtehlcljachkgdaaReqTorn
namespace Go.Proofs.Ytehlcljachkgdaa.Req
open Go.RowKit Go.Proofs.YtehlcljachkgdaaW.PrintWords Go.Proofs.YtehlcljachkgdaaW.PrintLast Go.Proofs.Ytehlcljachkgdaa.Kit Go.Proofs.Ytehlcljachkgdaa.Field

def rK (r : Option (Int × Int × List Int)) : Int := (r.map (·.1)).getD 0
def rN (r : Option (Int × Int × List Int)) : Int := (r.map (·.2.1)).getD 0
def rZ (r : Option (Int × Int × List Int)) : List Int := (r.map (·.2.2)).getD []
def rE (r : Option (Int × Int × List Int)) : Int := if r.isSome then 0 else 6
theorem ReadOut.opened {w w' : World} {r : Option (Int × Int × List Int)} {e : Ending} (h : ReadOut w r e w') :
    ∃ A c, e = .returned (.tuple #[.agg #[.int .i64 (rK r), .int .i64 (rN r), .slice A (rZ r).length c], .int .i64 (rE r)]) ∧ Rd w' A (rZ r).length (rZ r) ∧ Below w.heap.size w w' := by
  match r, h with
  | none, h => exact ⟨none, 0, h.1, ⟨reads_nil _ _⟩, h.2⟩
  | some (k, n, bs), h =>
    obtain ⟨v, rfl, hg⟩ := h
    obtain ⟨A, c, rfl, hr⟩ := hg.reads
    exact ⟨A, c, rfl, ⟨hr⟩, hg.2⟩
def aK (r : Option (Int × Int × Int)) : Int := (r.map (·.1)).getD 0
def aN (r : Option (Int × Int × Int)) : Int := (r.map (·.2.1)).getD 0
def aG (r : Option (Int × Int × Int)) : Int := (r.map (·.2.2)).getD 0
def aE (r : Option (Int × Int × Int)) : Int := if r.isSome then 0 else 6
theorem AnsOut.opened {w w' : World} {r : Option (Int × Int × Int)} {e : Ending} (h : AnsOut w r e w') :
    e = .returned (.tuple #[.agg #[.int .i64 (aK r), .int .i64 (aN r), .int .i64 (aG r)], .int .i64 (aE r)]) ∧ Below w.heap.size w w' := by
  obtain ⟨h1, h2⟩ := h
  refine ⟨?_, h2⟩
  match r, h1 with
  | none, h1 => exact h1
  | some (k, n, z), h1 => exact h1

set_option maxHeartbeats 1000000 in
theorem same_yes (k n : Int) (A C : Option Addr) (m c d : Nat) (bs : List Int) (w : World) (hr : Rd w A m bs) (hq : Rd w C m bs) :
    Calls Try.prog 17 #[.agg #[.int .i64 k, .int .i64 n, .slice A m c], .agg #[.int .i64 k, .int .i64 n, .slice C m d]] w fun e w' => e = .returned (.bool true) ∧ Below w.heap.size w w' := by
  go_enter Try.func17, Try.ntmps17
  have hh0 := heap_alloc_new w (.cells #[.int .i64 k, .int .i64 n, .slice A m c] 25)
  have hb0 := below_alloc1 w (.cells #[.int .i64 k, .int .i64 n, .slice A m c] 25)
  have hh1 := heap_alloc_new (w.alloc (.cells #[.int .i64 k, .int .i64 n, .slice A m c] 25)) (.cells #[.int .i64 k, .int .i64 n, .slice C m d] 25)
  have hb1 := below_alloc1 (w.alloc (.cells #[.int .i64 k, .int .i64 n, .slice A m c] 25)) (.cells #[.int .i64 k, .int .i64 n, .slice C m d] 25)
  have es : (w.alloc (.cells #[.int .i64 k, .int .i64 n, .slice A m c] 25)).heap.size = w.heap.size + 1 := by simp
  rw [es] at hh1 hb1
  have hh0' := (hb1.block w.heap.size (by omega)).trans hh0
  have hb2 := hb0.trans (hb1.mono (by omega))
  have k1 := conv_reads c (hr.below hb2).out
  have k2 := conv_reads d (hq.below hb2).out
  obtain ⟨c0, c1, c2⟩ := cells_of hh0'
  obtain ⟨d0, d1, d2⟩ := cells_of hh1
  have HB2 := Lib.hid hb2
  clear hh0 hb0 hh1 hb1 hh0' hb2
  go_wp2_with fail
  go_ret
  exact ⟨by simp, HB2.out⟩

/-- What is kept through a drawn region: blocks as they are, rows of bytes that are read, and all that was there ahead. -/
structure Hl (w : World) (B : Nat) (l : List (Nat × Obj)) (rs : List (Option Addr × Nat × List Int)) (W : World) : Prop where
  blk : ∀ p ∈ l, W.heap[p.1]? = some p.2
  rd : ∀ r ∈ rs, Rd W r.1 r.2.1 r.2.2
  bel : Below B w W
  size : B ≤ W.heap.size
theorem Hl.drew {w : World} {B : Nat} {l : List (Nat × Obj)} {rs : List (Option Addr × Nat × List Int)} {W : World} (h : Hl w B l rs W) : Hl w B l rs W.drew :=
  ⟨h.blk, fun r hr => (h.rd r hr).drew, h.bel.drew, h.size⟩
theorem Hl.below {w : World} {B : Nat} {l : List (Nat × Obj)} {rs : List (Option Addr × Nat × List Int)} {W W' : World} (h : Hl w B l rs W) (k : Below W.heap.size W W') : Hl w B l rs W' :=
  ⟨fun p hp => (k.block p.1 (heap_lt (h.blk p hp))).trans (h.blk p hp), fun r hr => (h.rd r hr).below k, h.bel.trans (k.mono h.size), Nat.le_trans h.size k.size⟩
theorem Hl.add {w : World} {B : Nat} {l : List (Nat × Obj)} {rs : List (Option Addr × Nat × List Int)} {W : World} (h : Hl w B l rs W) {A : Option Addr} {n : Nat} {xs : List Int} (k : Rd W A n xs) : Hl w B l ((A, n, xs) :: rs) W :=
  ⟨h.blk, fun r hr => by
    rcases List.mem_cons.1 hr with e | hr
    · subst e; exact k
    · exact h.rd r hr, h.bel, h.size⟩
theorem Hl.alloc {w : World} {B : Nat} {l : List (Nat × Obj)} {rs : List (Option Addr × Nat × List Int)} {W : World} (h : Hl w B l rs W) (T : TypeId) (cs : Array Value) : Hl w B ((W.heap.size, .cells cs T (0, 0)) :: l) rs (W.alloc (.cells cs T)) := by
  have k := h.below (below_alloc1 W (.cells cs T))
  refine ⟨fun p hp => ?_, k.rd, k.bel, k.size⟩
  rcases List.mem_cons.1 hp with e | hp
  · subst e; exact heap_alloc_new W (.cells cs T)
  · exact k.blk p hp
theorem Hl.drop {w : World} {B : Nat} {l : List (Nat × Obj)} {rs : List (Option Addr × Nat × List Int)} {W : World} {r : Option Addr × Nat × List Int} (h : Hl w B l (r :: rs) W) : Hl w B l rs W :=
  ⟨h.blk, fun q hq => h.rd q (List.mem_cons_of_mem _ hq), h.bel, h.size⟩
end Go.Proofs.Ytehlcljachkgdaa.Req
