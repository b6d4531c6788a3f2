/- frame: Check, place, Sectors, FrameAt, PageAt. -/
import Derived.Test.YtlelckdcmlpmdaaFrWithin
import Derived.ScopeJumps
namespace Go.Proofs.Ytlelckdcmlpmdaa
open Go Go.RowKit Lou

def planOk (fr pg : Int) : Bool := isIn 1 2000 [fr] && isIn 1 2000 [pg]
theorem planOk_iff (fr pg : Int) : planOk fr pg = true ↔ (1 ≤ fr ∧ fr ≤ 2000) ∧ (1 ≤ pg ∧ pg ≤ 2000) := by
  simp [planOk, isIn_one]

theorem InN.one (W : World) (x : Int) : InN (W.alloc (.cells #[.int .i64 x] 3)) (some ⟨W.heap.size, 0, none⟩) [x] := ⟨fun _ => ⟨_, _, rfl, fun j hj => by
  obtain rfl : j = 0 := by simpa using hj
  exact (BlkIs.new W 3 #[.int .i64 x]).boxed⟩⟩
theorem withinOne_gives (W : World) (lo hi x : Int) :
    Calls Try.prog 126 #[.int .i64 lo, .int .i64 hi, .slice (some ⟨W.heap.size, 0, none⟩) 1 1] (W.alloc (.cells #[.int .i64 x] 3)) fun e w' => e = .returned (.bool (isIn lo hi [x])) ∧ Below W.heap.size W w' :=
  (within_gives (W.alloc (.cells #[.int .i64 x] 3)) (some ⟨W.heap.size, 0, none⟩) 1 [x] (InN.one W x) (fun g o e => by injection e with e; injection e with e1; subst e1; simp) (by simp) lo hi).mono fun e w' ⟨he, hB⟩ =>
    ⟨he, ((Below.refl _ W).alloc (Nat.le_refl _) _).trans (hB.mono (by simp))⟩

set_option maxRecDepth 100000 in
set_option maxHeartbeats 1000000 in
theorem check_gives (fr pg : Int) (w : World) :
    Calls Try.prog 61 #[.agg #[.int .i64 fr, .int .i64 pg]] w fun e w' => e = .returned (.int .i64 (if planOk fr pg then 0 else 2)) ∧ Below w.heap.size w w' := by
  have hb := BlkIs.new w 90 #[.int .i64 fr, .int .i64 pg]
  have hB0 : Below w.heap.size w (w.alloc (.cells #[.int .i64 fr, .int .i64 pg] 90)) := (Below.refl _ w).alloc (Nat.le_refl _) _
  obtain ⟨v, hv⟩ : ∃ v : Int, v = if planOk fr pg then 0 else 2 := ⟨_, rfl⟩
  rw [← hv]
  have hV := Lib.hid hv
  clear hv
  go_enter Try.func61, Try.ntmps61
  have H := withinOne_gives (w.alloc (.cells #[.int .i64 fr, .int .i64 pg] 90)) 1 2000 fr
  rw [World.size_alloc] at H
  cases h1 : isIn 1 2000 [fr] with
  | false =>
    rw [h1] at H
    have e2 : v = 2 := by rw [hV.out]; simp [planOk, h1]
    subst e2
    go_wp2_with (go_at_call 126; refine H.mono ?_; rintro e w1 ⟨rfl, hB⟩)
    go_ret
    exact ⟨rfl, hB0.trans (hB.mono (by simp))⟩
  | true =>
    rw [h1] at H
    go_wp2_with fail
    refine H.mono ?_
    clear H
    rintro e w1 ⟨rfl, hB⟩
    have hb1 := hb.below hB (by simp)
    have hc1 : w1.cell? ⟨w.heap.size, 1, none⟩ = some (.int .i64 pg) := by rw [hb1.cell]; rfl
    have hB1 := hB0.trans (hB.mono (by simp))
    have H := withinOne_gives w1 1 2000 pg
    go_wp2_with fail
    refine H.mono ?_
    clear H
    rintro e w2 ⟨rfl, hB2⟩
    cases h2 : isIn 1 2000 [pg] with
    | false =>
      have e2 : v = 2 := by rw [hV.out]; simp [planOk, h2]
      subst e2
      go_wp2
      go_ret
      exact ⟨rfl, hB1.trans (hB2.mono hB1.size)⟩
    | true =>
      have e2 : v = 0 := by rw [hV.out]; simp [planOk, h1, h2]
      subst e2
      go_wp2
      go_ret
      exact ⟨rfl, hB1.trans (hB2.mono hB1.size)⟩

def plE (ok : Bool) (i many : Int) : Int := if ok then (if 0 ≤ i ∧ i < many then 0 else 4) else 2
def PlNone (e : Int) (a : Act) : Prop := ∃ u0 u1 u2 u3 u4 u5 u6 u7 u8 u10 u11 u12 u13 u14 u15 u16 u17 u18 u19 u20 u21 u22 u23, a = { tmps := #[u0, u1, u2, u3, u4, u5, u6, u7, u8, .int .i64 e, u10, u11, u12, u13, u14, u15, u16, u17, u18, u19, u20, u21, u22, u23], defers := [] }

set_option maxRecDepth 100000 in
set_option maxHeartbeats 2000000 in
theorem place_gives (fr pg i many r : Int) (g : FuncId) (lb : Array Value) (eg : ∀ args w, (callFunc g args).run Try.prog w = .ok (.enter g args) w) (w : World)
    (hof : planOk fr pg = true → 0 ≤ i → i < many → ∀ W, Below w.heap.size w W → Calls Try.prog g lb W fun e w' => e = .returned (.int .i64 r) ∧ W = w') :
    Calls Try.prog 122 #[.agg #[.int .i64 fr, .int .i64 pg], .int .i64 i, .int .i64 many, .func (.func g) #[] lb] w fun e w' =>
      e = .returned (.tuple #[.int .i64 (if plE (planOk fr pg) i many = 0 then r else 0), .int .i64 (plE (planOk fr pg) i many)]) ∧ Below w.heap.size w w' := by
  have hB0 : Below w.heap.size w (w.alloc (.cells #[.int .i64 fr, .int .i64 pg] 90)) := (Below.refl _ w).alloc (Nat.le_refl _) _
  obtain ⟨v, hv⟩ : ∃ v : Int, v = plE (planOk fr pg) i many := ⟨_, rfl⟩
  obtain ⟨u, hu⟩ : ∃ u : Int, u = if v = 0 then r else 0 := ⟨_, rfl⟩
  rw [← hv, ← hu]
  have hV := Lib.hid hv
  have hU := Lib.hid hu
  clear hv hu
  go_enter Try.func122, Try.ntmps122
  go_wp2_with fail
  refine wp_scope_jumps (rest := ?rest) 0 (fun a w' => Hid (u = 0) ∧ PlNone v a ∧ Below w.heap.size w w') (fun _ _ => 0) ?hf ?first ?pass
  case hf => exact rfl
  case pass =>
    rintro a w' ⟨hn, ⟨u0, u1, u2, u3, u4, u5, u6, u7, u8, u10, u11, u12, u13, u14, u15, u16, u17, u18, u19, u20, u21, u22, u23, rfl⟩, hB⟩
    go_wp2
    simp only [Exit.jump]
    go_wp2
    refine bodyPost_ret (results_tmp2 rfl _ _ _) rfl ?_
    have e := hn.out
    subst e
    exact ⟨rfl, hB⟩
  case first =>
    have H := check_gives fr pg (w.alloc (.cells #[.int .i64 fr, .int .i64 pg] 90))
    cases hp : planOk fr pg with
    | false =>
      rw [hp] at H
      have e2 : v = 2 := by rw [hV.out, hp]; rfl
      have eu : Hid (u = 0) := Lib.hid (by rw [hU.out, e2]; rfl)
      subst e2
      go_wp2_with (go_at_call 61; refine H.mono ?_; rintro e w1 ⟨rfl, hB⟩)
      go_step3
      exact ⟨rfl, eu, by repeat (first | exact rfl | apply Exists.intro), hB0.trans (hB.mono (by simp))⟩
    | true =>
      rw [hp] at H
      by_cases h1 : 0 ≤ i ∧ i < many
      · have e2 : v = 0 := by rw [hV.out, hp]; simp [plE, h1]
        have eu : u = r := by rw [hU.out, e2]; rfl
        subst e2 eu
        have hof := hof hp h1.1 h1.2
        obtain ⟨h1, h2⟩ := h1
        go_wp2_with (go_at_call 61; refine H.mono ?_; rintro e w1 ⟨rfl, hB⟩)
        refine (hof _ (hB0.trans (hB.mono (by simp)))).mono ?_
        rintro e w2 ⟨rfl, rfl⟩
        go_wp2
        simp only [Exit.jump]
        refine bodyPost_ret (results_tmp2 rfl _ _ _) rfl ?_
        exact ⟨rfl, hB0.trans (hB.mono (by simp))⟩
      · have e2 : v = 4 := by rw [hV.out, hp]; simp [plE, h1]
        have eu : Hid (u = 0) := Lib.hid (by rw [hU.out, e2]; rfl)
        subst e2
        have h2 : i < 0 ∨ (0 ≤ i ∧ many ≤ i) := by omega
        clear h1
        rcases h2 with h2 | ⟨h2, h3⟩
        · go_wp2_with (go_at_call 61; refine H.mono ?_; rintro e w1 ⟨rfl, hB⟩)
          go_step3
          exact ⟨rfl, eu, by repeat (first | exact rfl | apply Exists.intro), hB0.trans (hB.mono (by simp))⟩
        · go_wp2_with (go_at_call 61; refine H.mono ?_; rintro e w1 ⟨rfl, hB⟩)
          go_step3
          exact ⟨rfl, eu, by repeat (first | exact rfl | apply Exists.intro), hB0.trans (hB.mono (by simp))⟩
end Go.Proofs.Ytlelckdcmlpmdaa
