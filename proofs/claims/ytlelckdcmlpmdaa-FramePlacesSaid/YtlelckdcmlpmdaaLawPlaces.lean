/- loupelaw05.FramePlaces: the walk. -/
import Derived.Test.YtlelckdcmlpmdaaFrWorks
namespace Go.Proofs.Ytlelckdcmlpmdaa
open Go Go.RowKit Lou

section
variable (fr pg n : Int)
set_option maxRecDepth 100000 in
set_option maxHeartbeats 1000000 in
theorem refSectors_gives (w : World) (h1 : 1 ≤ fr ∧ fr ≤ 2000) (h2 : 1 ≤ pg ∧ pg ≤ 2000) : Calls Try.prog 64 #[.agg #[.int .i64 fr, .int .i64 pg]] w fun e w' => e = .returned (.int .i64 (2 + 9 * fr + 8 * pg)) ∧ Below w.heap.size w w' := by
  have e1 : IntKind.i64.wrap (9 * fr) = 9 * fr := wrap_i64_fr _ (by omega) (by omega)
  have e2 : IntKind.i64.wrap (2 + 9 * fr) = 2 + 9 * fr := wrap_i64_fr _ (by omega) (by omega)
  have e3 : IntKind.i64.wrap (8 * pg) = 8 * pg := wrap_i64_fr _ (by omega) (by omega)
  have e4 : IntKind.i64.wrap (2 + 9 * fr + 8 * pg) = 2 + 9 * fr + 8 * pg := wrap_i64_fr _ (by omega) (by omega)
  go_enter Try.func64, Try.ntmps64
  go_wp2
  go_ret
  exact ⟨rfl, (Below.refl _ _).alloc (Nat.le_refl _) _⟩
set_option maxRecDepth 100000 in
set_option maxHeartbeats 1000000 in
theorem refFrameAt_gives (w : World) (h1 : 0 ≤ n ∧ n < 2000) : Calls Try.prog 63 #[.int .i64 n] w fun e w' => e = .returned (.int .i64 (2 + 9 * n)) ∧ w = w' := by
  have e1 : IntKind.i64.wrap (9 * n) = 9 * n := wrap_i64_fr _ (by omega) (by omega)
  have e2 : IntKind.i64.wrap (2 + 9 * n) = 2 + 9 * n := wrap_i64_fr _ (by omega) (by omega)
  go_enter Try.func63, Try.ntmps63
  go_wp2
  go_ret
  exact ⟨rfl, rfl⟩
set_option maxRecDepth 100000 in
set_option maxHeartbeats 1000000 in
theorem refPageAt_gives (w : World) (h1 : 1 ≤ fr ∧ fr ≤ 2000) (h2 : 0 ≤ n ∧ n < 2000) : Calls Try.prog 65 #[.agg #[.int .i64 fr, .int .i64 pg], .int .i64 n] w fun e w' => e = .returned (.int .i64 (2 + 9 * fr + 8 * n)) ∧ Below w.heap.size w w' := by
  have e1 : IntKind.i64.wrap (9 * fr) = 9 * fr := wrap_i64_fr _ (by omega) (by omega)
  have e2 : IntKind.i64.wrap (2 + 9 * fr) = 2 + 9 * fr := wrap_i64_fr _ (by omega) (by omega)
  have e3 : IntKind.i64.wrap (8 * n) = 8 * n := wrap_i64_fr _ (by omega) (by omega)
  have e4 : IntKind.i64.wrap (2 + 9 * fr + 8 * n) = 2 + 9 * fr + 8 * n := wrap_i64_fr _ (by omega) (by omega)
  go_enter Try.func65, Try.ntmps65
  go_wp2
  go_ret
  exact ⟨rfl, (Below.refl _ _).alloc (Nat.le_refl _) _⟩
end
def planV (fr pg : Int) : Value := .agg #[.int .i64 fr, .int .i64 pg]
set_option maxRecDepth 100000 in
set_option maxHeartbeats 8000000 in
theorem lawPlaces_walk (fr pg n : Int) (w : World) : Calls Try.prog 10 #[.agg #[.int .i64 fr, .int .i64 pg], .int .i64 n] w fun e w' => e = .returned (.bool true) ∧ Below w.heap.size w w' := by
  have hb0 := BlkIs.new w 90 #[.int .i64 fr, .int .i64 pg]
  have hB0 : Below w.heap.size w (w.alloc (.cells #[.int .i64 fr, .int .i64 pg] 90)) := (Below.refl _ w).alloc (Nat.le_refl _) _
  have H1 := sectors_gives fr pg
  have H2 := frameAt_gives fr pg n
  have H3 := pageAt_gives fr pg n
  have H4 := refRight_gives fr pg
  have H5 := check_gives fr pg
  cases hk : planOk fr pg with
  | false =>
    have q1 : ∀ r i m, atV r (plE false i m) = .tuple #[.int .i64 0, .int .i64 2] := fun r i m => rfl
    rw [hk] at H1 H2 H3 H4 H5
    rw [q1] at H1 H2 H3
    clear hk q1
    go_enter Try.func10, Try.ntmps10
    go_wp2_with fail
    refine (H1 _).mono ?_
    rintro x W1 ⟨rfl, hB⟩
    have hB1 : Below w.heap.size w W1 := hB0.trans (hB.mono (by simp))
    have hb1 := hb0.below hB hb0.lt
    clear hB hb0 H1 hB0
    go_wp2_with (first
      | (refine wp_loadW rfl 90 (.tmp 2) rfl w.heap.size rfl rowPlan hb1 (by rfl) ?_)
      | (go_at_call 57; refine (H2 _).mono ?_; rintro x W2 ⟨rfl, hB⟩; have hB2 := hB1.trans (hB.mono hB1.size); have hb2 := hb1.below hB hb1.lt; clear hB hB1 hb1)
      | (refine wp_loadW rfl 90 (.tmp 2) rfl w.heap.size rfl rowPlan hb2 (by rfl) ?_)
      | (go_at_call 58; refine (H3 _).mono ?_; rintro x W3 ⟨rfl, hB⟩; have hB3 := hB2.trans (hB.mono hB2.size); have hb3 := hb2.below hB hb2.lt; clear hB hB2 hb2)
      | (refine wp_loadW rfl 90 (.tmp 2) rfl w.heap.size rfl rowPlan hb3 (by rfl) ?_)
      | (go_at_call 59; refine (H4 _).mono ?_; rintro x W4 ⟨rfl, hB⟩; have hB4 := hB3.trans (hB.mono hB3.size); have hb4 := hb3.below hB hb3.lt; have hc0 : W4.cell? ⟨w.heap.size, 0, none⟩ = some (.int .i64 fr) := (by rw [hb4.cell]; rfl); have hc1 : W4.cell? ⟨w.heap.size, 1, none⟩ = some (.int .i64 pg) := (by rw [hb4.cell]; rfl); clear hB hB3 hb3)
      | (refine wp_loadW rfl 90 (.tmp 2) rfl w.heap.size rfl rowPlan hb4 (by rfl) ?_)
      | (go_at_call 60; refine (num5_gives _ _).mono ?_; rintro x w' ⟨rfl, rfl⟩)
      | (go_at_call 61; refine (H5 _).mono ?_; rintro x W5 ⟨rfl, hB⟩; have hB5 := hB4.trans (hB.mono hB4.size); clear hB)
      | (go_at_call 62; refine (works5_gives _).mono ?_; rintro x W6 ⟨rfl, hB⟩; have hB6 := hB5.trans (hB.mono hB5.size); clear hB))
    go_ret
    exact ⟨rfl, hB6⟩
  | true =>
    obtain ⟨hf, hp⟩ := (planOk_iff fr pg).1 hk
    have hf1 := hf.1
    have hf2 := hf.2
    have hp1 := hp.1
    have hp2 := hp.2
    have q1 : atV (2 + 9 * fr + 8 * pg) (plE true 0 1) = .tuple #[.int .i64 (2 + 9 * fr + 8 * pg), .int .i64 0] := rfl
    have out2 : ¬ (0 ≤ n ∧ n < fr) → atV (2 + 9 * n) (plE true n fr) = .tuple #[.int .i64 0, .int .i64 4] := fun h => by simp [atV, plE, h]
    have in2 : (0 ≤ n ∧ n < fr) → atV (2 + 9 * n) (plE true n fr) = .tuple #[.int .i64 (2 + 9 * n), .int .i64 0] := fun h => by simp [atV, plE, h]
    have out3 : ¬ (0 ≤ n ∧ n < pg) → atV (2 + 9 * fr + 8 * n) (plE true n pg) = .tuple #[.int .i64 0, .int .i64 4] := fun h => by simp [atV, plE, h]
    have in3 : (0 ≤ n ∧ n < pg) → atV (2 + 9 * fr + 8 * n) (plE true n pg) = .tuple #[.int .i64 (2 + 9 * fr + 8 * n), .int .i64 0] := fun h => by simp [atV, plE, h]
    have R1 := fun W => refSectors_gives fr pg W hf hp
    have R2 := fun (h : 0 ≤ n ∧ n < fr) W => refFrameAt_gives n W ⟨h.1, by omega⟩
    have R3 := fun (h : 0 ≤ n ∧ n < pg) W => refPageAt_gives fr pg n W hf ⟨h.1, by omega⟩
    rw [hk] at H1 H2 H3 H4 H5
    rw [q1] at H1
    clear q1 hk hf hp
    by_cases h0 : n < 0
    · rw [out2 (by omega)] at H2
      rw [out3 (by omega)] at H3
      clear out2 in2 out3 in3 R2 R3
      go_enter Try.func10, Try.ntmps10
      go_wp2_with fail
      refine (H1 _).mono ?_
      rintro x W1 ⟨rfl, hB⟩
      have hB1 : Below w.heap.size w W1 := hB0.trans (hB.mono (by simp))
      have hb1 := hb0.below hB hb0.lt
      clear hB hb0 H1 hB0
      go_wp2_with (first
        | (refine wp_loadW rfl 90 (.tmp 2) rfl w.heap.size rfl rowPlan hb1 (by rfl) ?_)
        | (go_at_call 57; refine (H2 _).mono ?_; rintro x W2 ⟨rfl, hB⟩; have hB2 := hB1.trans (hB.mono hB1.size); have hb2 := hb1.below hB hb1.lt; clear hB hB1 hb1)
        | (refine wp_loadW rfl 90 (.tmp 2) rfl w.heap.size rfl rowPlan hb2 (by rfl) ?_)
        | (go_at_call 58; refine (H3 _).mono ?_; rintro x W3 ⟨rfl, hB⟩; have hB3 := hB2.trans (hB.mono hB2.size); have hb3 := hb2.below hB hb2.lt; clear hB hB2 hb2)
        | (refine wp_loadW rfl 90 (.tmp 2) rfl w.heap.size rfl rowPlan hb3 (by rfl) ?_)
        | (go_at_call 59; refine (H4 _).mono ?_; rintro x W4 ⟨rfl, hB⟩; have hB4 := hB3.trans (hB.mono hB3.size); have hb4 := hb3.below hB hb3.lt; have hc0 : W4.cell? ⟨w.heap.size, 0, none⟩ = some (.int .i64 fr) := (by rw [hb4.cell]; rfl); have hc1 : W4.cell? ⟨w.heap.size, 1, none⟩ = some (.int .i64 pg) := (by rw [hb4.cell]; rfl); clear hB hB3 hb3)
        | (go_at_call 63; refine (R2' _).mono ?_; rintro x w' ⟨rfl, rfl⟩)
        | (refine wp_loadW rfl 90 (.tmp 2) rfl w.heap.size rfl rowPlan hb4 (by rfl) ?_)
        | (go_at_call 64; refine (R1 _).mono ?_; rintro x W5 ⟨rfl, hB⟩; have hB5 := hB4.trans (hB.mono hB4.size); have hb5 := hb4.below hB hb4.lt; clear hB hb4 hB4 hc0 hc1; have hc0 : W5.cell? ⟨w.heap.size, 0, none⟩ = some (.int .i64 fr) := (by rw [hb5.cell]; rfl); have hc1 : W5.cell? ⟨w.heap.size, 1, none⟩ = some (.int .i64 pg) := (by rw [hb5.cell]; rfl))
        | (refine wp_loadW rfl 90 (.tmp 2) rfl w.heap.size rfl rowPlan hb5 (by rfl) ?_)
        | (go_at_call 65; refine (R3' _).mono ?_; rintro x W6 ⟨rfl, hB⟩; have hB6 := hB5.trans (hB.mono hB5.size); have hb6 := hb5.below hB hb5.lt; clear hB hb5 hB5 hc0 hc1; have hc0 : W6.cell? ⟨w.heap.size, 0, none⟩ = some (.int .i64 fr) := (by rw [hb6.cell]; rfl); have hc1 : W6.cell? ⟨w.heap.size, 1, none⟩ = some (.int .i64 pg) := (by rw [hb6.cell]; rfl))
        | (refine wp_loadW rfl 90 (.tmp 2) rfl w.heap.size rfl rowPlan hb6 (by rfl) ?_)
        | (go_at_call 60; refine (num5_gives _ _).mono ?_; rintro x w' ⟨rfl, rfl⟩)
        | (go_at_call 61; refine (H5 _).mono ?_; rintro x W7 ⟨rfl, hB⟩; have hB7 := hB6.trans (hB.mono hB6.size); clear hB)
        | (go_at_call 62; refine (works5_gives _).mono ?_; rintro x W8 ⟨rfl, hB⟩; have hB8 := Below.trans (by assumption) (hB.mono (Below.size (by assumption))); clear hB))
      go_ret
      exact ⟨rfl, by assumption⟩
    · have h0' : 0 ≤ n := by omega
      by_cases h1 : n < fr
      · rw [in2 ⟨h0', h1⟩] at H2
        have R2' := R2 ⟨h0', h1⟩
        by_cases h2 : n < pg
        · rw [in3 ⟨h0', h2⟩] at H3
          have R3' := R3 ⟨h0', h2⟩
          clear out2 in2 out3 in3 R2 R3
          go_enter Try.func10, Try.ntmps10
          go_wp2_with fail
          refine (H1 _).mono ?_
          rintro x W1 ⟨rfl, hB⟩
          have hB1 : Below w.heap.size w W1 := hB0.trans (hB.mono (by simp))
          have hb1 := hb0.below hB hb0.lt
          clear hB hb0 H1 hB0
          go_wp2_with (first
            | (refine wp_loadW rfl 90 (.tmp 2) rfl w.heap.size rfl rowPlan hb1 (by rfl) ?_)
            | (go_at_call 57; refine (H2 _).mono ?_; rintro x W2 ⟨rfl, hB⟩; have hB2 := hB1.trans (hB.mono hB1.size); have hb2 := hb1.below hB hb1.lt; clear hB hB1 hb1)
            | (refine wp_loadW rfl 90 (.tmp 2) rfl w.heap.size rfl rowPlan hb2 (by rfl) ?_)
            | (go_at_call 58; refine (H3 _).mono ?_; rintro x W3 ⟨rfl, hB⟩; have hB3 := hB2.trans (hB.mono hB2.size); have hb3 := hb2.below hB hb2.lt; clear hB hB2 hb2)
            | (refine wp_loadW rfl 90 (.tmp 2) rfl w.heap.size rfl rowPlan hb3 (by rfl) ?_)
            | (go_at_call 59; refine (H4 _).mono ?_; rintro x W4 ⟨rfl, hB⟩; have hB4 := hB3.trans (hB.mono hB3.size); have hb4 := hb3.below hB hb3.lt; have hc0 : W4.cell? ⟨w.heap.size, 0, none⟩ = some (.int .i64 fr) := (by rw [hb4.cell]; rfl); have hc1 : W4.cell? ⟨w.heap.size, 1, none⟩ = some (.int .i64 pg) := (by rw [hb4.cell]; rfl); clear hB hB3 hb3)
            | (go_at_call 63; refine (R2' _).mono ?_; rintro x w' ⟨rfl, rfl⟩)
            | (refine wp_loadW rfl 90 (.tmp 2) rfl w.heap.size rfl rowPlan hb4 (by rfl) ?_)
            | (go_at_call 64; refine (R1 _).mono ?_; rintro x W5 ⟨rfl, hB⟩; have hB5 := hB4.trans (hB.mono hB4.size); have hb5 := hb4.below hB hb4.lt; clear hB hb4 hB4 hc0 hc1; have hc0 : W5.cell? ⟨w.heap.size, 0, none⟩ = some (.int .i64 fr) := (by rw [hb5.cell]; rfl); have hc1 : W5.cell? ⟨w.heap.size, 1, none⟩ = some (.int .i64 pg) := (by rw [hb5.cell]; rfl))
            | (refine wp_loadW rfl 90 (.tmp 2) rfl w.heap.size rfl rowPlan hb5 (by rfl) ?_)
            | (go_at_call 65; refine (R3' _).mono ?_; rintro x W6 ⟨rfl, hB⟩; have hB6 := hB5.trans (hB.mono hB5.size); have hb6 := hb5.below hB hb5.lt; clear hB hb5 hB5 hc0 hc1; have hc0 : W6.cell? ⟨w.heap.size, 0, none⟩ = some (.int .i64 fr) := (by rw [hb6.cell]; rfl); have hc1 : W6.cell? ⟨w.heap.size, 1, none⟩ = some (.int .i64 pg) := (by rw [hb6.cell]; rfl))
            | (refine wp_loadW rfl 90 (.tmp 2) rfl w.heap.size rfl rowPlan hb6 (by rfl) ?_)
            | (go_at_call 60; refine (num5_gives _ _).mono ?_; rintro x w' ⟨rfl, rfl⟩)
            | (go_at_call 61; refine (H5 _).mono ?_; rintro x W7 ⟨rfl, hB⟩; have hB7 := hB6.trans (hB.mono hB6.size); clear hB)
            | (go_at_call 62; refine (works5_gives _).mono ?_; rintro x W8 ⟨rfl, hB⟩; have hB8 := Below.trans (by assumption) (hB.mono (Below.size (by assumption))); clear hB))
          go_ret
          exact ⟨rfl, by assumption⟩
        · rw [out3 (by omega)] at H3
          clear out2 in2 out3 in3 R2 R3
          have h2' : pg ≤ n := by omega
          go_enter Try.func10, Try.ntmps10
          go_wp2_with fail
          refine (H1 _).mono ?_
          rintro x W1 ⟨rfl, hB⟩
          have hB1 : Below w.heap.size w W1 := hB0.trans (hB.mono (by simp))
          have hb1 := hb0.below hB hb0.lt
          clear hB hb0 H1 hB0
          go_wp2_with (first
            | (refine wp_loadW rfl 90 (.tmp 2) rfl w.heap.size rfl rowPlan hb1 (by rfl) ?_)
            | (go_at_call 57; refine (H2 _).mono ?_; rintro x W2 ⟨rfl, hB⟩; have hB2 := hB1.trans (hB.mono hB1.size); have hb2 := hb1.below hB hb1.lt; clear hB hB1 hb1)
            | (refine wp_loadW rfl 90 (.tmp 2) rfl w.heap.size rfl rowPlan hb2 (by rfl) ?_)
            | (go_at_call 58; refine (H3 _).mono ?_; rintro x W3 ⟨rfl, hB⟩; have hB3 := hB2.trans (hB.mono hB2.size); have hb3 := hb2.below hB hb2.lt; clear hB hB2 hb2)
            | (refine wp_loadW rfl 90 (.tmp 2) rfl w.heap.size rfl rowPlan hb3 (by rfl) ?_)
            | (go_at_call 59; refine (H4 _).mono ?_; rintro x W4 ⟨rfl, hB⟩; have hB4 := hB3.trans (hB.mono hB3.size); have hb4 := hb3.below hB hb3.lt; have hc0 : W4.cell? ⟨w.heap.size, 0, none⟩ = some (.int .i64 fr) := (by rw [hb4.cell]; rfl); have hc1 : W4.cell? ⟨w.heap.size, 1, none⟩ = some (.int .i64 pg) := (by rw [hb4.cell]; rfl); clear hB hB3 hb3)
            | (go_at_call 63; refine (R2' _).mono ?_; rintro x w' ⟨rfl, rfl⟩)
            | (refine wp_loadW rfl 90 (.tmp 2) rfl w.heap.size rfl rowPlan hb4 (by rfl) ?_)
            | (go_at_call 64; refine (R1 _).mono ?_; rintro x W5 ⟨rfl, hB⟩; have hB5 := hB4.trans (hB.mono hB4.size); have hb5 := hb4.below hB hb4.lt; clear hB hb4 hB4 hc0 hc1; have hc0 : W5.cell? ⟨w.heap.size, 0, none⟩ = some (.int .i64 fr) := (by rw [hb5.cell]; rfl); have hc1 : W5.cell? ⟨w.heap.size, 1, none⟩ = some (.int .i64 pg) := (by rw [hb5.cell]; rfl))
            | (refine wp_loadW rfl 90 (.tmp 2) rfl w.heap.size rfl rowPlan hb5 (by rfl) ?_)
            | (go_at_call 65; refine (R3' _).mono ?_; rintro x W6 ⟨rfl, hB⟩; have hB6 := hB5.trans (hB.mono hB5.size); have hb6 := hb5.below hB hb5.lt; clear hB hb5 hB5 hc0 hc1; have hc0 : W6.cell? ⟨w.heap.size, 0, none⟩ = some (.int .i64 fr) := (by rw [hb6.cell]; rfl); have hc1 : W6.cell? ⟨w.heap.size, 1, none⟩ = some (.int .i64 pg) := (by rw [hb6.cell]; rfl))
            | (refine wp_loadW rfl 90 (.tmp 2) rfl w.heap.size rfl rowPlan hb6 (by rfl) ?_)
            | (go_at_call 60; refine (num5_gives _ _).mono ?_; rintro x w' ⟨rfl, rfl⟩)
            | (go_at_call 61; refine (H5 _).mono ?_; rintro x W7 ⟨rfl, hB⟩; have hB7 := hB6.trans (hB.mono hB6.size); clear hB)
            | (go_at_call 62; refine (works5_gives _).mono ?_; rintro x W8 ⟨rfl, hB⟩; have hB8 := Below.trans (by assumption) (hB.mono (Below.size (by assumption))); clear hB))
          go_ret
          exact ⟨rfl, by assumption⟩
      · rw [out2 (by omega)] at H2
        have h1' : fr ≤ n := by omega
        by_cases h2 : n < pg
        · rw [in3 ⟨h0', h2⟩] at H3
          have R3' := R3 ⟨h0', h2⟩
          clear out2 in2 out3 in3 R2 R3
          go_enter Try.func10, Try.ntmps10
          go_wp2_with fail
          refine (H1 _).mono ?_
          rintro x W1 ⟨rfl, hB⟩
          have hB1 : Below w.heap.size w W1 := hB0.trans (hB.mono (by simp))
          have hb1 := hb0.below hB hb0.lt
          clear hB hb0 H1 hB0
          go_wp2_with (first
            | (refine wp_loadW rfl 90 (.tmp 2) rfl w.heap.size rfl rowPlan hb1 (by rfl) ?_)
            | (go_at_call 57; refine (H2 _).mono ?_; rintro x W2 ⟨rfl, hB⟩; have hB2 := hB1.trans (hB.mono hB1.size); have hb2 := hb1.below hB hb1.lt; clear hB hB1 hb1)
            | (refine wp_loadW rfl 90 (.tmp 2) rfl w.heap.size rfl rowPlan hb2 (by rfl) ?_)
            | (go_at_call 58; refine (H3 _).mono ?_; rintro x W3 ⟨rfl, hB⟩; have hB3 := hB2.trans (hB.mono hB2.size); have hb3 := hb2.below hB hb2.lt; clear hB hB2 hb2)
            | (refine wp_loadW rfl 90 (.tmp 2) rfl w.heap.size rfl rowPlan hb3 (by rfl) ?_)
            | (go_at_call 59; refine (H4 _).mono ?_; rintro x W4 ⟨rfl, hB⟩; have hB4 := hB3.trans (hB.mono hB3.size); have hb4 := hb3.below hB hb3.lt; have hc0 : W4.cell? ⟨w.heap.size, 0, none⟩ = some (.int .i64 fr) := (by rw [hb4.cell]; rfl); have hc1 : W4.cell? ⟨w.heap.size, 1, none⟩ = some (.int .i64 pg) := (by rw [hb4.cell]; rfl); clear hB hB3 hb3)
            | (go_at_call 63; refine (R2' _).mono ?_; rintro x w' ⟨rfl, rfl⟩)
            | (refine wp_loadW rfl 90 (.tmp 2) rfl w.heap.size rfl rowPlan hb4 (by rfl) ?_)
            | (go_at_call 64; refine (R1 _).mono ?_; rintro x W5 ⟨rfl, hB⟩; have hB5 := hB4.trans (hB.mono hB4.size); have hb5 := hb4.below hB hb4.lt; clear hB hb4 hB4 hc0 hc1; have hc0 : W5.cell? ⟨w.heap.size, 0, none⟩ = some (.int .i64 fr) := (by rw [hb5.cell]; rfl); have hc1 : W5.cell? ⟨w.heap.size, 1, none⟩ = some (.int .i64 pg) := (by rw [hb5.cell]; rfl))
            | (refine wp_loadW rfl 90 (.tmp 2) rfl w.heap.size rfl rowPlan hb5 (by rfl) ?_)
            | (go_at_call 65; refine (R3' _).mono ?_; rintro x W6 ⟨rfl, hB⟩; have hB6 := hB5.trans (hB.mono hB5.size); have hb6 := hb5.below hB hb5.lt; clear hB hb5 hB5 hc0 hc1; have hc0 : W6.cell? ⟨w.heap.size, 0, none⟩ = some (.int .i64 fr) := (by rw [hb6.cell]; rfl); have hc1 : W6.cell? ⟨w.heap.size, 1, none⟩ = some (.int .i64 pg) := (by rw [hb6.cell]; rfl))
            | (refine wp_loadW rfl 90 (.tmp 2) rfl w.heap.size rfl rowPlan hb6 (by rfl) ?_)
            | (go_at_call 60; refine (num5_gives _ _).mono ?_; rintro x w' ⟨rfl, rfl⟩)
            | (go_at_call 61; refine (H5 _).mono ?_; rintro x W7 ⟨rfl, hB⟩; have hB7 := hB6.trans (hB.mono hB6.size); clear hB)
            | (go_at_call 62; refine (works5_gives _).mono ?_; rintro x W8 ⟨rfl, hB⟩; have hB8 := Below.trans (by assumption) (hB.mono (Below.size (by assumption))); clear hB))
          go_ret
          exact ⟨rfl, by assumption⟩
        · rw [out3 (by omega)] at H3
          clear out2 in2 out3 in3 R2 R3
          have h2' : pg ≤ n := by omega
          go_enter Try.func10, Try.ntmps10
          go_wp2_with fail
          refine (H1 _).mono ?_
          rintro x W1 ⟨rfl, hB⟩
          have hB1 : Below w.heap.size w W1 := hB0.trans (hB.mono (by simp))
          have hb1 := hb0.below hB hb0.lt
          clear hB hb0 H1 hB0
          go_wp2_with (first
            | (refine wp_loadW rfl 90 (.tmp 2) rfl w.heap.size rfl rowPlan hb1 (by rfl) ?_)
            | (go_at_call 57; refine (H2 _).mono ?_; rintro x W2 ⟨rfl, hB⟩; have hB2 := hB1.trans (hB.mono hB1.size); have hb2 := hb1.below hB hb1.lt; clear hB hB1 hb1)
            | (refine wp_loadW rfl 90 (.tmp 2) rfl w.heap.size rfl rowPlan hb2 (by rfl) ?_)
            | (go_at_call 58; refine (H3 _).mono ?_; rintro x W3 ⟨rfl, hB⟩; have hB3 := hB2.trans (hB.mono hB2.size); have hb3 := hb2.below hB hb2.lt; clear hB hB2 hb2)
            | (refine wp_loadW rfl 90 (.tmp 2) rfl w.heap.size rfl rowPlan hb3 (by rfl) ?_)
            | (go_at_call 59; refine (H4 _).mono ?_; rintro x W4 ⟨rfl, hB⟩; have hB4 := hB3.trans (hB.mono hB3.size); have hb4 := hb3.below hB hb3.lt; have hc0 : W4.cell? ⟨w.heap.size, 0, none⟩ = some (.int .i64 fr) := (by rw [hb4.cell]; rfl); have hc1 : W4.cell? ⟨w.heap.size, 1, none⟩ = some (.int .i64 pg) := (by rw [hb4.cell]; rfl); clear hB hB3 hb3)
            | (go_at_call 63; refine (R2' _).mono ?_; rintro x w' ⟨rfl, rfl⟩)
            | (refine wp_loadW rfl 90 (.tmp 2) rfl w.heap.size rfl rowPlan hb4 (by rfl) ?_)
            | (go_at_call 64; refine (R1 _).mono ?_; rintro x W5 ⟨rfl, hB⟩; have hB5 := hB4.trans (hB.mono hB4.size); have hb5 := hb4.below hB hb4.lt; clear hB hb4 hB4 hc0 hc1; have hc0 : W5.cell? ⟨w.heap.size, 0, none⟩ = some (.int .i64 fr) := (by rw [hb5.cell]; rfl); have hc1 : W5.cell? ⟨w.heap.size, 1, none⟩ = some (.int .i64 pg) := (by rw [hb5.cell]; rfl))
            | (refine wp_loadW rfl 90 (.tmp 2) rfl w.heap.size rfl rowPlan hb5 (by rfl) ?_)
            | (go_at_call 65; refine (R3' _).mono ?_; rintro x W6 ⟨rfl, hB⟩; have hB6 := hB5.trans (hB.mono hB5.size); have hb6 := hb5.below hB hb5.lt; clear hB hb5 hB5 hc0 hc1; have hc0 : W6.cell? ⟨w.heap.size, 0, none⟩ = some (.int .i64 fr) := (by rw [hb6.cell]; rfl); have hc1 : W6.cell? ⟨w.heap.size, 1, none⟩ = some (.int .i64 pg) := (by rw [hb6.cell]; rfl))
            | (refine wp_loadW rfl 90 (.tmp 2) rfl w.heap.size rfl rowPlan hb6 (by rfl) ?_)
            | (go_at_call 60; refine (num5_gives _ _).mono ?_; rintro x w' ⟨rfl, rfl⟩)
            | (go_at_call 61; refine (H5 _).mono ?_; rintro x W7 ⟨rfl, hB⟩; have hB7 := hB6.trans (hB.mono hB6.size); clear hB)
            | (go_at_call 62; refine (works5_gives _).mono ?_; rintro x W8 ⟨rfl, hB⟩; have hB8 := Below.trans (by assumption) (hB.mono (Below.size (by assumption))); clear hB))
          go_ret
          exact ⟨rfl, by assumption⟩
end Go.Proofs.Ytlelckdcmlpmdaa
