/- frame: Sectors, FrameAt, PageAt; the reference's; Right. -/
import Derived.Test.YtlelckdcmlpmdaaFrPlace
namespace Go.Proofs.Ytlelckdcmlpmdaa
open Go Go.RowKit Lou

section
variable (fr pg n : Int)
set_option maxRecDepth 100000 in
set_option maxHeartbeats 1000000 in
theorem sectors1_gives (W : World) (g : Nat) (hb : BlkIs W g 90 #[.int .i64 fr, .int .i64 pg]) (h1 : 1 ≤ fr ∧ fr ≤ 2000) (h2 : 1 ≤ pg ∧ pg ≤ 2000) :
    Calls Try.prog 123 #[.pointer (some ⟨g, 0, none⟩)] W fun e w' => e = .returned (.int .i64 (2 + 9 * fr + 8 * pg)) ∧ W = w' := by
  have hc0 : W.cell? ⟨g, 0, none⟩ = some (.int .i64 fr) := by rw [hb.cell]; rfl
  have hc1 : W.cell? ⟨g, 1, none⟩ = some (.int .i64 pg) := by rw [hb.cell]; rfl
  have e1 : IntKind.i64.wrap (9 * fr) = 9 * fr := wrap_i64_fr _ (by omega) (by omega)
  have e2 : IntKind.i64.wrap (2 + 9 * fr) = 2 + 9 * fr := wrap_i64_fr _ (by omega) (by omega)
  have e3 : IntKind.i64.wrap (8 * pg) = 8 * pg := wrap_i64_fr _ (by omega) (by omega)
  have e4 : IntKind.i64.wrap (2 + 9 * fr + 8 * pg) = 2 + 9 * fr + 8 * pg := wrap_i64_fr _ (by omega) (by omega)
  go_enter Try.func123, Try.ntmps123
  go_wp2
  go_ret
  exact ⟨rfl, rfl⟩
set_option maxRecDepth 100000 in
set_option maxHeartbeats 1000000 in
theorem frameAt1_gives (W : World) (g : Nat) (hb : BlkIs W g 3 #[.int .i64 n]) (h1 : 0 ≤ n ∧ n < 2000) :
    Calls Try.prog 124 #[.pointer (some ⟨g, 0, none⟩)] W fun e w' => e = .returned (.int .i64 (2 + 9 * n)) ∧ W = w' := by
  have hc0 : W.cell? ⟨g, 0, none⟩ = some (.int .i64 n) := by rw [hb.cell]; rfl
  have e1 : IntKind.i64.wrap (9 * n) = 9 * n := wrap_i64_fr _ (by omega) (by omega)
  have e2 : IntKind.i64.wrap (2 + 9 * n) = 2 + 9 * n := wrap_i64_fr _ (by omega) (by omega)
  go_enter Try.func124, Try.ntmps124
  go_wp2
  go_ret
  exact ⟨rfl, rfl⟩
set_option maxRecDepth 100000 in
set_option maxHeartbeats 1000000 in
theorem pageAt1_gives (W : World) (g g2 : Nat) (hb : BlkIs W g 90 #[.int .i64 fr, .int .i64 pg]) (hb2 : BlkIs W g2 3 #[.int .i64 n]) (h1 : 1 ≤ fr ∧ fr ≤ 2000) (h2 : 0 ≤ n ∧ n < 2000) :
    Calls Try.prog 125 #[.pointer (some ⟨g, 0, none⟩), .pointer (some ⟨g2, 0, none⟩)] W fun e w' => e = .returned (.int .i64 (2 + 9 * fr + 8 * n)) ∧ W = w' := by
  have hc0 : W.cell? ⟨g, 0, none⟩ = some (.int .i64 fr) := by rw [hb.cell]; rfl
  have hc1 : W.cell? ⟨g2, 0, none⟩ = some (.int .i64 n) := by rw [hb2.cell]; rfl
  have e1 : IntKind.i64.wrap (9 * fr) = 9 * fr := wrap_i64_fr _ (by omega) (by omega)
  have e2 : IntKind.i64.wrap (2 + 9 * fr) = 2 + 9 * fr := wrap_i64_fr _ (by omega) (by omega)
  have e3 : IntKind.i64.wrap (8 * n) = 8 * n := wrap_i64_fr _ (by omega) (by omega)
  have e4 : IntKind.i64.wrap (2 + 9 * fr + 8 * n) = 2 + 9 * fr + 8 * n := wrap_i64_fr _ (by omega) (by omega)
  go_enter Try.func125, Try.ntmps125
  go_wp2
  go_ret
  exact ⟨rfl, rfl⟩

def atV (r e : Int) : Value := .tuple #[.int .i64 (if e = 0 then r else 0), .int .i64 e]
set_option maxRecDepth 100000 in
set_option maxHeartbeats 1000000 in
theorem sectors_gives (w : World) : Calls Try.prog 56 #[.agg #[.int .i64 fr, .int .i64 pg]] w fun e w' => e = .returned (atV (2 + 9 * fr + 8 * pg) (plE (planOk fr pg) 0 1)) ∧ Below w.heap.size w w' := by
  have hB0 : Below w.heap.size w (w.alloc (.cells #[.int .i64 fr, .int .i64 pg] 90)) := (Below.refl _ w).alloc (Nat.le_refl _) _
  have hb := BlkIs.new w 90 #[.int .i64 fr, .int .i64 pg]
  have H := place_gives fr pg 0 1 (2 + 9 * fr + 8 * pg) 123 #[.pointer (some ⟨w.heap.size, 0, none⟩)] (enters_of Try.func123 (by kernel_rfl) rfl) (w.alloc (.cells #[.int .i64 fr, .int .i64 pg] 90))
    (fun hp _ _ W hW => sectors1_gives fr pg W _ (hb.below hW (by simp)) ((planOk_iff fr pg).1 hp).1 ((planOk_iff fr pg).1 hp).2)
  unfold atV
  generalize plE (planOk fr pg) 0 1 = e at *
  generalize (if e = 0 then 2 + 9 * fr + 8 * pg else 0) = v at *
  go_enter Try.func56, Try.ntmps56
  go_wp2_with fail
  refine H.mono ?_
  rintro e w' ⟨rfl, hB⟩
  go_wp2
  refine bodyPost_ret (results_tmp2 rfl _ _ _) rfl ?_
  exact ⟨rfl, hB0.trans (hB.mono (by simp))⟩
set_option maxRecDepth 100000 in
set_option maxHeartbeats 1000000 in
theorem frameAt_gives (w : World) : Calls Try.prog 57 #[.agg #[.int .i64 fr, .int .i64 pg], .int .i64 n] w fun e w' => e = .returned (atV (2 + 9 * n) (plE (planOk fr pg) n fr)) ∧ Below w.heap.size w w' := by
  have hB0 : Below w.heap.size w ((w.alloc (.cells #[.int .i64 fr, .int .i64 pg] 90)).alloc (.cells #[.int .i64 n] 3)) := ((Below.refl _ w).alloc (Nat.le_refl _) _).alloc (by simp) _
  have hb := BlkIs.new (w.alloc (.cells #[.int .i64 fr, .int .i64 pg] 90)) 3 #[.int .i64 n]
  rw [World.size_alloc] at hb
  have H := place_gives fr pg n fr (2 + 9 * n) 124 #[.pointer (some ⟨w.heap.size + 1, 0, none⟩)] (enters_of Try.func124 (by kernel_rfl) rfl) ((w.alloc (.cells #[.int .i64 fr, .int .i64 pg] 90)).alloc (.cells #[.int .i64 n] 3))
    (fun hp h0 hn W hW => frameAt1_gives n W _ (hb.below hW (by simp)) (by have := (planOk_iff fr pg).1 hp; omega))
  unfold atV
  generalize plE (planOk fr pg) n fr = e at *
  generalize (if e = 0 then 2 + 9 * n else 0) = v at *
  go_enter Try.func57, Try.ntmps57
  go_wp2_with fail
  refine H.mono ?_
  rintro e w' ⟨rfl, hB⟩
  go_wp2
  refine bodyPost_ret (results_tmp2 rfl _ _ _) rfl ?_
  exact ⟨rfl, hB0.trans (hB.mono (by simp; omega))⟩
set_option maxRecDepth 100000 in
set_option maxHeartbeats 1000000 in
theorem pageAt_gives (w : World) : Calls Try.prog 58 #[.agg #[.int .i64 fr, .int .i64 pg], .int .i64 n] w fun e w' => e = .returned (atV (2 + 9 * fr + 8 * n) (plE (planOk fr pg) n pg)) ∧ Below w.heap.size w w' := by
  have hB0 : Below w.heap.size w ((w.alloc (.cells #[.int .i64 fr, .int .i64 pg] 90)).alloc (.cells #[.int .i64 n] 3)) := ((Below.refl _ w).alloc (Nat.le_refl _) _).alloc (by simp) _
  have hb := BlkIs.new (w.alloc (.cells #[.int .i64 fr, .int .i64 pg] 90)) 3 #[.int .i64 n]
  have hb0 := (BlkIs.new w 90 #[.int .i64 fr, .int .i64 pg]).alloc (.cells #[.int .i64 n] 3)
  rw [World.size_alloc] at hb
  have H := place_gives fr pg n pg (2 + 9 * fr + 8 * n) 125 #[.pointer (some ⟨w.heap.size, 0, none⟩), .pointer (some ⟨w.heap.size + 1, 0, none⟩)] (enters_of Try.func125 (by kernel_rfl) rfl) ((w.alloc (.cells #[.int .i64 fr, .int .i64 pg] 90)).alloc (.cells #[.int .i64 n] 3))
    (fun hp h0 hn W hW => pageAt1_gives fr pg n W _ _ (hb0.below hW (by simp; omega)) (hb.below hW (by simp)) (by have := (planOk_iff fr pg).1 hp; omega) (by have := (planOk_iff fr pg).1 hp; omega))
  unfold atV
  generalize plE (planOk fr pg) n pg = e at *
  generalize (if e = 0 then 2 + 9 * fr + 8 * n else 0) = v at *
  go_enter Try.func58, Try.ntmps58
  go_wp2_with fail
  refine H.mono ?_
  rintro e w' ⟨rfl, hB⟩
  go_wp2
  refine bodyPost_ret (results_tmp2 rfl _ _ _) rfl ?_
  exact ⟨rfl, hB0.trans (hB.mono (by simp; omega))⟩
set_option maxRecDepth 100000 in
set_option maxHeartbeats 1000000 in
theorem refRight_gives (w : World) : Calls Try.prog 59 #[.agg #[.int .i64 fr, .int .i64 pg]] w fun e w' => e = .returned (.bool (planOk fr pg)) ∧ Below w.heap.size w w' := by
  have hB0 : Below w.heap.size w (w.alloc (.cells #[.int .i64 fr, .int .i64 pg] 90)) := (Below.refl _ w).alloc (Nat.le_refl _) _
  have hk := planOk_iff fr pg
  generalize planOk fr pg = b at *
  by_cases h1 : 1 ≤ fr
  · by_cases h2 : fr ≤ 2000
    · by_cases h3 : 1 ≤ pg
      · by_cases h4 : pg ≤ 2000
        · have e : b = true := hk.2 ⟨⟨h1, h2⟩, h3, h4⟩
          subst e
          clear hk
          go_enter Try.func59, Try.ntmps59
          go_wp2
          go_ret
          exact ⟨by first | rfl | simp [h4], hB0⟩
        · have e : b = false := by cases b; rfl; exact absurd (hk.1 rfl).2.2 h4
          subst e
          clear hk
          go_enter Try.func59, Try.ntmps59
          go_wp2
          go_ret
          exact ⟨by first | rfl | simp [h4], hB0⟩
      · have e : b = false := by cases b; rfl; exact absurd (hk.1 rfl).2.1 h3
        subst e
        clear hk
        go_enter Try.func59, Try.ntmps59
        go_wp2
        go_ret
        exact ⟨by first | rfl | simp [h3], hB0⟩
    · have e : b = false := by cases b; rfl; exact absurd (hk.1 rfl).1.2 h2
      subst e
      clear hk
      go_enter Try.func59, Try.ntmps59
      go_wp2
      go_ret
      exact ⟨by first | rfl | simp [h2], hB0⟩
  · have e : b = false := by cases b; rfl; exact absurd (hk.1 rfl).1.1 h1
    subst e
    clear hk
    go_enter Try.func59, Try.ntmps59
    go_wp2
    go_ret
    exact ⟨by first | rfl | simp [h1], hB0⟩
end
end Go.Proofs.Ytlelckdcmlpmdaa
