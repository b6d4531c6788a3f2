/- frame.right. -/
import Derived.Test.YtlelckdcmlpmdaaFrFits
import Derived.Test.YtlelckdcmlpmdaaWhole
namespace Go.Proofs.Ytlelckdcmlpmdaa
open Go Go.RowKit Lou

/-- A frame, as cells. -/
def frCells (e : Nat) (i p : Int) (f : Bool) (z : Int) (n : Nat) (A : Option Addr) (len k : Nat) : Array Value := #[.int .u64 (e : Int), .int .i64 i, .int .i64 p, .bool f, .int .i64 z, .int .u32 (n : Int), .slice A len k]
def frOk (len : Nat) (i p : Int) (f : Bool) (z : Int) : Bool := decide (len = 512) && isIn 0 2000 [i] && isIn 0 2000 [p, z] && (f || z == 0)
theorem frOk_iff (len : Nat) (i p : Int) (f : Bool) (z : Int) : frOk len i p f z = true ↔ len = 512 ∧ (0 ≤ i ∧ i ≤ 2000) ∧ (0 ≤ p ∧ p ≤ 2000) ∧ (0 ≤ z ∧ z ≤ 2000) ∧ (f = true ∨ z = 0) := by
  simp [frOk, isIn_one, isIn_two, and_assoc]
theorem rowFrame : RowTy Try.prog 120 7 := ⟨⟨_, Try.underlying120, rfl⟩, by kernel_rfl⟩
theorem InN.two (W : World) (x y : Int) : InN (W.alloc (.cells #[.int .i64 x, .int .i64 y] 3)) (some ⟨W.heap.size, 0, none⟩) [x, y] := ⟨fun _ => ⟨_, _, rfl, fun j hj => by
  rw [(BlkIs.new W 3 #[.int .i64 x, .int .i64 y]).cell]
  rcases (show j = 0 ∨ j = 1 from by simp at hj; omega) with rfl | rfl <;> rfl⟩⟩
theorem withinTwo_gives (W : World) (lo hi x y : Int) :
    Calls Try.prog 126 #[.int .i64 lo, .int .i64 hi, .slice (some ⟨W.heap.size, 0, none⟩) 2 2] (W.alloc (.cells #[.int .i64 x, .int .i64 y] 3)) fun e w' => e = .returned (.bool (isIn lo hi [x, y])) ∧ Below W.heap.size W w' :=
  (within_gives (W.alloc (.cells #[.int .i64 x, .int .i64 y] 3)) (some ⟨W.heap.size, 0, none⟩) 2 [x, y] (InN.two W x y) (fun g o e => by injection e with e; injection e with e1; subst e1; simp) (by simp) lo hi).mono fun e w' ⟨he, hB⟩ =>
    ⟨he, ((Below.refl _ W).alloc (Nat.le_refl _) _).trans (hB.mono (by simp))⟩
set_option maxRecDepth 100000 in
set_option maxHeartbeats 4000000 in
theorem right_gives (e : Nat) (i p : Int) (f : Bool) (z : Int) (n : Nat) (A : Option Addr) (len k : Nat) (w : World) :
    Calls Try.prog 140 #[.agg (frCells e i p f z n A len k)] w fun x w' => x = .returned (.bool (frOk len i p f z)) ∧ Below w.heap.size w w' := by
  have hb0 := BlkIs.new w 120 (frCells e i p f z n A len k)
  have hB0 : Below w.heap.size w (w.alloc (.cells (frCells e i p f z n A len k) 120)) := (Below.refl _ w).alloc (Nat.le_refl _) _
  have H1 := withinOne_gives (w.alloc (.cells (frCells e i p f z n A len k) 120)) 0 2000 i
  rw [World.size_alloc] at H1
  obtain ⟨v, hv⟩ : ∃ v, v = frOk len i p f z := ⟨_, rfl⟩
  rw [← hv]
  unfold frOk at hv
  have hV := Lib.hid hv
  clear hv
  unfold frCells at *
  by_cases hl : len = 512
  · have hq : ((len : Int) == 512) = true := by simp; omega
    generalize hq1 : isIn 0 2000 [i] = b1 at *
    cases b1 with
    | false =>
      have ev : v = false := by rw [hV.out]; simp
      subst ev
      clear hV hl
      go_enter Try.func140, Try.ntmps140
      go_wp2_with (go_at_call 126; refine H1.mono ?_; rintro x w1 ⟨rfl, hB⟩)
      go_ret
      exact ⟨rfl, hB0.trans (hB.mono (by simp))⟩
    | true =>
      have ev : v = (isIn 0 2000 [p, z] && (f || z == 0)) := by rw [hV.out]; simp [hl]
      clear hV hl
      generalize hq2 : isIn 0 2000 [p, z] = b2 at *
      have H2 := fun W => withinTwo_gives W 0 2000 p z
      rw [hq2] at H2
      clear hq1 hq2
      have EV := Lib.hid ev
      clear ev
      cases b2 with
      | false =>
        have ev : v = false := by rw [EV.out]; simp
        subst ev
        clear EV
        go_enter Try.func140, Try.ntmps140
        go_wp2_with fail
        refine H1.mono ?_
        rintro x w1 ⟨rfl, hB⟩
        have hb1 := hb0.below hB (by simp)
        have hB1 := hB0.trans (hB.mono (by simp))
        have hc2 : w1.cell? ⟨w.heap.size, 2, none⟩ = some (.int .i64 p) := by rw [hb1.cell]; rfl
        have hc4 : w1.cell? ⟨w.heap.size, 4, none⟩ = some (.int .i64 z) := by rw [hb1.cell]; rfl
        clear hB hb0 hb1 hB0 H1
        go_wp2_with (go_at_call 126; refine (H2 _).mono ?_; rintro x w2 ⟨rfl, hB⟩)
        go_ret
        exact ⟨rfl, hB1.trans (hB.mono hB1.size)⟩
      | true =>
        have ev : v = (f || z == 0) := by rw [EV.out]; simp
        clear EV
        have hz : f = false → ∃ q, (z == 0) = q ∧ v = q := fun h => ⟨_, rfl, by rw [ev, h]; rfl⟩
        cases f with
        | true =>
          replace ev : v = true := by rw [ev]; rfl
          subst ev
          clear hz
          go_enter Try.func140, Try.ntmps140
          go_wp2_with fail
          refine H1.mono ?_
          rintro x w1 ⟨rfl, hB⟩
          have hb1 := hb0.below hB (by simp)
          have hB1 := hB0.trans (hB.mono (by simp))
          have hc2 : w1.cell? ⟨w.heap.size, 2, none⟩ = some (.int .i64 p) := by rw [hb1.cell]; rfl
          have hc4 : w1.cell? ⟨w.heap.size, 4, none⟩ = some (.int .i64 z) := by rw [hb1.cell]; rfl
          clear hB hb0 hB0 H1
          go_wp2_with fail
          refine (H2 _).mono ?_
          rintro x w2 ⟨rfl, hB⟩
          have hb2 := hb1.below hB hb1.lt
          have hB2 := hB1.trans (hB.mono hB1.size)
          have hc3 : w2.cell? ⟨w.heap.size, 3, none⟩ = some (.bool true) := by rw [hb2.cell]; rfl
          clear hB hb1 hB1 hc2 hc4
          go_wp2
          go_ret
          exact ⟨rfl, hB2⟩
        | false =>
          obtain ⟨q, hq3, rfl⟩ := hz rfl
          clear ev hz
          go_enter Try.func140, Try.ntmps140
          go_wp2_with fail
          refine H1.mono ?_
          rintro x w1 ⟨rfl, hB⟩
          have hb1 := hb0.below hB (by simp)
          have hB1 := hB0.trans (hB.mono (by simp))
          have hc2 : w1.cell? ⟨w.heap.size, 2, none⟩ = some (.int .i64 p) := by rw [hb1.cell]; rfl
          have hc4 : w1.cell? ⟨w.heap.size, 4, none⟩ = some (.int .i64 z) := by rw [hb1.cell]; rfl
          clear hB hb0 hB0 H1
          go_wp2_with fail
          refine (H2 _).mono ?_
          rintro x w2 ⟨rfl, hB⟩
          have hb2 := hb1.below hB hb1.lt
          have hB2 := hB1.trans (hB.mono hB1.size)
          have hc3 : w2.cell? ⟨w.heap.size, 3, none⟩ = some (.bool false) := by rw [hb2.cell]; rfl
          have hc4 : w2.cell? ⟨w.heap.size, 4, none⟩ = some (.int .i64 z) := by rw [hb2.cell]; rfl
          clear hB hb1 hB1 hc2
          go_wp2
          go_ret
          exact ⟨rfl, hB2⟩
  · have hq : ((len : Int) == 512) = false := by simp; omega
    have ev : v = false := by rw [hV.out]; simp [hl]
    subst ev
    clear hV hl
    go_enter Try.func140, Try.ntmps140
    go_wp2
    go_ret
    exact ⟨rfl, hB0⟩
end Go.Proofs.Ytlelckdcmlpmdaa
