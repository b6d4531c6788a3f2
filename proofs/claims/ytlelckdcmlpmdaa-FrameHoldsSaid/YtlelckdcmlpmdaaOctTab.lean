/- (*octet.table).make, step: the sum's table, made once. -/
import Derived.Test.YtlelckdcmlpmdaaOctSync
import Derived.Test.YtlelckdcmlpmdaaOctSumRef
namespace Go.Proofs.Ytlelckdcmlpmdaa
open Go Go.RowKit Lou

/-- k entries of the table are told. -/
structure TabTo (cs0 : Array Value) (k : Nat) (cs : Array Value) : Prop where
  size : cs.size = 260
  c0 : cs[0]? = cs0[0]?
  c1 : cs[1]? = cs0[1]?
  c2 : cs[2]? = cs0[2]?
  many : cs[3]? = some (.int .i64 (k : Int))
  to : ∀ j, j < k → cs[4 + j]? = some (.int .u32 (shN 8 j : Int))

theorem TabTo.next {cs0 cs : Array Value} {k : Nat} (h : TabTo cs0 k cs) (hk : k < 256) :
    TabTo cs0 (k + 1) ((cs.setIfInBounds (4 + k) (.int .u32 (shN 8 k : Int))).setIfInBounds 3 (.int .i64 ((k : Int) + 1))) := by
  have hs := h.size
  refine ⟨by simp [hs], ?_, ?_, ?_, ?_, ?_⟩
  · rw [Array.getElem?_setIfInBounds, if_neg (by omega), Array.getElem?_setIfInBounds, if_neg (by omega)]; exact h.c0
  · rw [Array.getElem?_setIfInBounds, if_neg (by omega), Array.getElem?_setIfInBounds, if_neg (by omega)]; exact h.c1
  · rw [Array.getElem?_setIfInBounds, if_neg (by omega), Array.getElem?_setIfInBounds, if_neg (by omega)]; exact h.c2
  · simp [Array.getElem?_setIfInBounds, hs]
  · intro j hj
    rw [Array.getElem?_setIfInBounds, if_neg (by omega), Array.getElem?_setIfInBounds]
    by_cases e : j = k
    · subst e; rw [if_pos rfl, if_pos (by omega)]
    · rw [if_neg (by omega)]; exact h.to j (by omega)

theorem and_one {y : Nat} (hy : y < 4294967296) : bits .and .u32 (y : Int) 1 = ((y % 2 : Nat) : Int) := by
  have := u32_and_nat y 1 hy (by omega)
  rw [Nat.and_one_is_mod] at this
  exact this

set_option maxRecDepth 100000 in
set_option maxHeartbeats 2000000 in
theorem make_gives (b : Nat) (cs0 : Array Value) (w : World) (hb : BlkIs w b 186 cs0) (h0 : TabTo cs0 0 cs0) :
    Calls Try.prog 165 #[.pointer (some ⟨b, 0, none⟩)] w fun e w' => e = .returned (.tuple #[]) ∧ (∃ cs, BlkIs w' b 186 cs ∧ TabTo cs0 256 cs) ∧ w.grownBy w' (some b) := by
  go_enter Try.func165, Try.ntmps165
  go_wp2_with fail
  go_loopw [5] (fun i wr => ∃ (k : Nat) (cs : Array Value), k ≤ 256 ∧ i = .int .i64 k ∧ Hid (BlkIs wr b 186 cs ∧ TabTo cs0 k cs) ∧ w.grownBy wr (some b)) (fun i _ => 256 - (intOf i).toNat)
  case atStart => exact ⟨0, cs0, by omega, rfl, Lib.hid ⟨hb, h0⟩, World.grownBy.refl _ _⟩
  case round =>
    obtain ⟨k, cs, hk, rfl, hT, hg⟩ := hrel
    by_cases hlt : k < 256
    · have hsz := hT.out.2.size
      have hgetold : ∃ u, cs[4 + k]? = some u := ⟨cs[4 + k]'(by omega), Array.getElem?_eq_getElem (by omega)⟩
      obtain ⟨u, hu⟩ := hgetold
      have hc4 : wr.cell? ⟨b, 4 + k, none⟩ = some u := (hT.out.1.cell _).trans hu
      have hf4 : wr.frozen? ⟨b, 4 + k, none⟩ = false := hT.out.1.free _
      clear hsz hu
      go_wp2_with fail
      go_loop [3, 10] (fun s i => ∃ j y : Nat, j ≤ 8 ∧ i = .int .i64 j ∧ y < 4294967296 ∧ s = .int .u32 y ∧ Hid (shN (8 - j) y = shN 8 k)) (fun _ i => 8 - (intOf i).toNat)
      case atStart => exact ⟨0, k, by omega, rfl, by omega, rfl, Lib.hid rfl⟩
      case round =>
        obtain ⟨j, y, hj, rfl, hyl, rfl, hY⟩ := hrel
        by_cases hj8 : j < 8
        · have hn : Hid (shN (8 - (j + 1)) (sh y) = shN 8 k) := by
            have := hY.out
            rw [show 8 - j = (8 - (j + 1)) + 1 from by omega] at this
            exact Lib.hid this
          have hlt2 := sh_lt hyl
          have hand := and_one hyl
          clear hY
          by_cases hod : y % 2 = 1
          · have hs : Hid (sh y = (y / 2) ^^^ poly) := Lib.hid (sh_odd hod)
            have hb1 : ((((y % 2 : Nat) : Int)) == 1) = true := by rw [beq_iff_eq]; omega
            have hx2 := xor_poly hyl
            clear hod
            go_wp2_with fail
            exact ⟨⟨j + 1, sh y, by omega, by go_num, hlt2, by rw [hs.out], hn⟩, by simp [intOf]; omega⟩
          · have hs : Hid (sh y = y / 2) := Lib.hid (sh_even hod)
            have hb1 : ((((y % 2 : Nat) : Int)) == 1) = false := by rw [beq_eq_false_iff_ne]; omega
            clear hod
            go_wp2_with fail
            exact ⟨⟨j + 1, sh y, by omega, by go_num, hlt2, by rw [hs.out]; go_num, hn⟩, by simp [intOf]; omega⟩
        · have hn : Hid (y = shN 8 k) := by
            have := hY.out
            rw [show 8 - j = 0 from by omega] at this
            exact Lib.hid this
          clear hY
          have hb4 := hT.out.1.set (4 + k) (.int .u32 (y : Int))
          have hc3 : (wr.setCell ⟨b, 4 + k, none⟩ (.int .u32 (y : Int))).cell? ⟨b, 3, none⟩ = some (.int .i64 (k : Int)) := by
            rw [hb4.cell, Array.getElem?_setIfInBounds, if_neg (by omega)]
            exact hT.out.2.many
          have hf3 := hb4.free 3
          go_wp2_with (go_at_call 191; refine (int64_add b 3 k (by omega) _ hc3 hf3).mono ?_; rintro e w' ⟨rfl, rfl⟩)
          refine ⟨⟨k + 1, _, by omega, by go_num, Lib.hid ⟨hb4.set 3 _, ?_⟩, grownBy_trans hg (grownBy_trans (grownBy_set _ _ _ _) (grownBy_set _ _ _ _))⟩, by simp [intOf]; omega⟩
          rw [hn.out]
          exact hT.out.2.next hlt
    · obtain rfl : k = 256 := by omega
      go_wp2_with fail
      go_end0
      exact ⟨rfl, ⟨cs, hT.out⟩, hg⟩

/-- The Once, its lock free; done: 0 or 1. Where it's done the table is told. -/
structure TabOk (d : Nat) (cs : Array Value) : Prop where
  size : cs.size = 260
  c0 : cs[0]? = some (.int .u32 (d : Int))
  c1 : cs[1]? = some (.int .i32 0)
  dd : d = 0 ∨ d = 1
  many : d = 0 → cs[3]? = some (.int .i64 0)
  to : d = 1 → ∀ j, j < 256 → cs[4 + j]? = some (.int .u32 (shN 8 j : Int))

set_option maxRecDepth 100000 in
set_option maxHeartbeats 2000000 in
theorem doSlow_gives (b : Nat) (cs0 : Array Value) (w : World) (hb : BlkIs w b 186 cs0) (h0 : TabOk 0 cs0) :
    Calls Try.prog 190 #[.pointer (some ⟨b, 0, none⟩), .func (.func 165) #[.pointer (some ⟨b, 0, none⟩)] #[]] w fun e w' =>
      e = .returned (.tuple #[]) ∧ (∃ cs, BlkIs w' b 186 cs ∧ TabOk 1 cs) ∧ w.grownBy w' (some b) := by
  have hc1 : w.cell? ⟨b, 1, none⟩ = some (.int .i32 0) := (hb.cell 1).trans h0.c1
  have hf1 := hb.free 1
  have hb1 := hb.set 1 (.int .i32 1)
  have hc0 : (w.setCell ⟨b, 1, none⟩ (.int .i32 1)).cell? ⟨b, 0, none⟩ = some (.int .u32 ((0 : Nat) : Int)) := by
    rw [hb1.cell, Array.getElem?_setIfInBounds, if_neg (by omega)]
    exact h0.c0
  have hsz := h0.size
  have ht0 : TabTo (cs0.setIfInBounds 1 (.int .i32 1)) 0 (cs0.setIfInBounds 1 (.int .i32 1)) := ⟨by simp [hsz], rfl, rfl, rfl, by
    rw [Array.getElem?_setIfInBounds, if_neg (by omega)]
    exact h0.many rfl, fun j hj => by omega⟩
  have hM := make_gives b _ _ hb1 ht0
  have hbd : (((0 : Nat) : Int) != 0) = false := by decide
  clear ht0 hb1
  go_enter_defers Try.func190, Try.ntmps190
  go_wp2_with (first
    | (go_at_call 211; refine (lock_free ⟨b, 1, none⟩ _ hc1 hf1).mono ?_; rintro e w' ⟨rfl, rfl⟩)
    | (go_at_call 189; refine (bool_load ⟨b, 0, none⟩ 0 _ hc0).mono ?_; rintro e w' ⟨rfl, rfl⟩)
    | (go_at_call 165; refine hM.mono ?_; rintro e w1 ⟨rfl, ⟨cs1, hb1, ht1⟩, hg1⟩))
  have hs1 := ht1.size
  have e0 : cs1[0]? = some (.int .u32 ((0 : Nat) : Int)) := by rw [ht1.c0, Array.getElem?_setIfInBounds, if_neg (by omega)]; exact h0.c0
  have e1 : cs1[1]? = some (.int .i32 1) := by rw [ht1.c1, Array.getElem?_setIfInBounds, if_pos rfl, if_pos (by omega)]
  have hb2 := hb1.drew.set 0 (.int .u32 1)
  have hb3 := hb2.set 1 (.int .i32 0)
  refine leaves_cons (f := 213) (args := #[.pointer (some ⟨b, 0, none⟩), .bool true]) (by simp) (by simp [go_sem]) ?_
  refine (store_deferred ⟨b, 0, none⟩ (.int .u32 0) .returning _ ((hb1.cell 0).trans e0) (hb1.free 0)).mono ?_
  rintro e u' w'' ⟨rfl, rfl, rfl⟩
  refine leaves_cons (f := 212) (args := #[.pointer (some ⟨b, 1, none⟩)]) (by simp [settle]) (by simp [go_sem]) ?_
  refine (unlock_deferred ⟨b, 1, none⟩ _ _ (by rw [hb2.cell, Array.getElem?_setIfInBounds, if_neg (by omega)]; exact e1) (hb2.free 1)).mono ?_
  rintro e u' w'' ⟨rfl, rfl, rfl⟩
  have hfin : (∃ cs, BlkIs ((w1.drew.setCell ⟨b, 0, none⟩ (.int .u32 1)).setCell ⟨b, 1, none⟩ (.int .i32 0)) b 186 cs ∧ TabOk 1 cs) ∧ w.grownBy ((w1.drew.setCell ⟨b, 0, none⟩ (.int .u32 1)).setCell ⟨b, 1, none⟩ (.int .i32 0)) (some b) := by
    refine ⟨⟨_, hb3, ⟨by simp [hs1], ?_, ?_, .inr rfl, fun h => by omega, fun _ j hj => ?_⟩⟩, ?_⟩
    · rw [Array.getElem?_setIfInBounds, if_neg (by omega), Array.getElem?_setIfInBounds, if_pos rfl, if_pos (by omega)]; rfl
    · rw [Array.getElem?_setIfInBounds, if_pos rfl, if_pos (by simp; omega)]
    · rw [Array.getElem?_setIfInBounds, if_neg (by omega), Array.getElem?_setIfInBounds, if_neg (by omega)]; exact ht1.to j hj
    · exact grownBy_trans (grownBy_set _ _ _ _) (grownBy_trans hg1 (grownBy_trans (grownBy_drew _ _) (grownBy_trans (grownBy_set _ _ _ _) (grownBy_set _ _ _ _))))
  have hH := Lib.hid hfin
  clear hfin
  simp [Leaves, settle, results, Try.results190]
  exact hH.out

set_option maxRecDepth 100000 in
set_option maxHeartbeats 1000000 in
theorem once_gives (b d : Nat) (cs0 : Array Value) (w : World) (hb : BlkIs w b 186 cs0) (h0 : TabOk d cs0) :
    Calls Try.prog 164 #[.pointer (some ⟨b, 0, none⟩), .func (.func 165) #[.pointer (some ⟨b, 0, none⟩)] #[]] w fun e w' =>
      e = .returned (.tuple #[]) ∧ (∃ cs, BlkIs w' b 186 cs ∧ TabOk 1 cs) ∧ w.grownBy w' (some b) := by
  have hc0 : w.cell? ⟨b, 0, none⟩ = some (.int .u32 (d : Int)) := (hb.cell 0).trans h0.c0
  rcases h0.dd with rfl | rfl
  · have hM := doSlow_gives b _ _ hb h0
    have hbd : (((0 : Nat) : Int) != 0) = false := by decide
    go_enter Try.func164, Try.ntmps164
    go_wp2_with (first
      | (go_at_call 189; refine (bool_load ⟨b, 0, none⟩ 0 _ hc0).mono ?_; rintro e w' ⟨rfl, rfl⟩)
      | (go_at_call 190; refine hM.mono ?_; rintro e w1 ⟨rfl, hT, hg1⟩))
    go_end0
    exact ⟨rfl, hT, hg1⟩
  · have hbd : (((1 : Nat) : Int) != 0) = true := by decide
    go_enter Try.func164, Try.ntmps164
    go_wp2_with (go_at_call 189; refine (bool_load ⟨b, 0, none⟩ 1 _ hc0).mono ?_; rintro e w' ⟨rfl, rfl⟩)
    go_end0
    exact ⟨rfl, ⟨cs0, hb, h0⟩, World.grownBy.refl _ _⟩

set_option maxRecDepth 100000 in
set_option maxHeartbeats 1000000 in
theorem step_gives (b d : Nat) (cs0 : Array Value) (s : Nat) (c : UInt8) (hs : s < 4294967296) (w : World) (hb : BlkIs w b 186 cs0) (h0 : TabOk d cs0) :
    Calls Try.prog 100 #[.pointer (some ⟨b, 0, none⟩), .int .u32 s, .int .u8 (c.toNat : Int)] w fun e w' =>
      e = .returned (.int .u32 (stepC s c : Int)) ∧ (∃ cs, BlkIs w' b 186 cs ∧ TabOk 1 cs) ∧ w.grownBy w' (some b) := by
  have hO := once_gives b d cs0 w hb h0
  have hmf : ∀ (fn : Fn) (first cap : Array Value) (w : World), (Instr.makeFunc fn first cap).run Try.prog w = .ok (.func fn first cap) w := fun _ _ _ _ => rfl
  have hcl := c.toNat_lt
  have hxl : (s % 256) ^^^ c.toNat < 256 := by
    have := Nat.xor_lt_two_pow (n := 8) (show s % 256 < 2 ^ 8 from by omega) (show c.toNat < 2 ^ 8 from by omega)
    simpa using this
  have hx8 : bits .xor .u8 ((s : Int) % 256) (c.toNat : Int) = (((s % 256) ^^^ c.toNat : Nat) : Int) := by
    have := u8_xor_nat (s % 256) c.toNat (by omega) (by omega)
    rw [← this]
    congr 1
  have hst := stepC_table s c
  generalize hx : (s % 256) ^^^ c.toNat = x at *
  have hX := Lib.hid hx
  clear hx
  have hx32 : bits .xor .u32 ((s : Int) / 256) (shN 8 x : Int) = (stepC s c : Int) := by
    have := u32_xor_nat (s / 256) (shN 8 x) (by omega) (shN_lt 8 (by omega))
    rw [hst, ← this]
    congr 1
  clear hst
  go_enter Try.func100, Try.ntmps100
  go_wp2_with (go_at_call 164; refine hO.mono ?_; clear hO; rintro e w1 ⟨rfl, ⟨cs1, hb1, h1⟩, hg1⟩; have hcx := (hb1.cell (4 + x)).trans (h1.to rfl x hxl))
  go_ret
  exact ⟨rfl, ⟨cs1, hb1, h1⟩, hg1⟩
end Go.Proofs.Ytlelckdcmlpmdaa
