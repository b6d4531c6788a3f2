/- frame.fits. -/
import Derived.Test.YtlelckdcmlpmdaaFrPlace
namespace Go.Proofs.Ytlelckdcmlpmdaa
open Go Go.RowKit Lou

/-- A head, as a value. -/
def headCells (s e : Nat) (z c : Int) : Array Value := #[.int .u64 (s : Int), .int .u64 (e : Int), .int .i64 z, .int .i64 c]
def headOk (z c : Int) : Bool := isIn 0 2000 [z] && isIn 0 2000 [c]
theorem headOk_iff (z c : Int) : headOk z c = true ↔ (0 ≤ z ∧ z ≤ 2000) ∧ (0 ≤ c ∧ c ≤ 2000) := by
  simp [headOk, isIn_one]

set_option maxRecDepth 100000 in
set_option maxHeartbeats 1000000 in
theorem fits_gives (s e : Nat) (z c : Int) (w : World) :
    Calls Try.prog 136 #[.agg #[.int .u64 (s : Int), .int .u64 (e : Int), .int .i64 z, .int .i64 c]] w fun x w' => x = .returned (.bool (headOk z c)) ∧ Below w.heap.size w w' := by
  have hb := BlkIs.new w 109 #[.int .u64 (s : Int), .int .u64 (e : Int), .int .i64 z, .int .i64 c]
  have hB0 : Below w.heap.size w (w.alloc (.cells #[.int .u64 (s : Int), .int .u64 (e : Int), .int .i64 z, .int .i64 c] 109)) := (Below.refl _ w).alloc (Nat.le_refl _) _
  have H := withinOne_gives (w.alloc (.cells #[.int .u64 (s : Int), .int .u64 (e : Int), .int .i64 z, .int .i64 c] 109)) 0 2000 z
  rw [World.size_alloc] at H
  obtain ⟨v, hv⟩ : ∃ v : Bool, v = headOk z c := ⟨_, rfl⟩
  rw [← hv]
  have hV := Lib.hid hv
  clear hv
  go_enter Try.func136, Try.ntmps136
  cases h1 : isIn 0 2000 [z] with
  | false =>
    rw [h1] at H
    have e2 : v = false := by rw [hV.out]; simp [headOk, h1]
    subst e2
    go_wp2_with (go_at_call 126; refine H.mono ?_; rintro e w1 ⟨rfl, hB⟩)
    go_ret
    exact ⟨rfl, hB0.trans (hB.mono (by simp))⟩
  | true =>
    rw [h1] at H
    go_wp2_with fail
    refine H.mono ?_
    clear H
    rintro e w1 ⟨rfl, hB⟩
    have hb1 := hb.below hB (by simp)
    have hc1 : w1.cell? ⟨w.heap.size, 3, none⟩ = some (.int .i64 c) := by rw [hb1.cell]; rfl
    have hB1 := hB0.trans (hB.mono (by simp))
    have H := withinOne_gives w1 0 2000 c
    have e2 : v = isIn 0 2000 [c] := by rw [hV.out]; simp [headOk, h1]
    generalize isIn 0 2000 [c] = b at *
    subst e2
    go_wp2_with fail
    refine H.mono ?_
    clear H
    rintro e w2 ⟨rfl, hB2⟩
    go_wp2
    go_ret
    exact ⟨rfl, hB1.trans (hB2.mono hB1.size)⟩
end Go.Proofs.Ytlelckdcmlpmdaa
