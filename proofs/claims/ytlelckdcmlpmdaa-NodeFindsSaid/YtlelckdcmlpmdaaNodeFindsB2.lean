/- Texts that the proof of NodeFinds leans on, part 2. -/
import Derived.Defers
import Derived.Laws.LoneSync
import Derived.RegionTactic
import Derived.RegionCalls
import Derived.ChangeAlike
import Derived.RangeFuncBox
import Derived.RangeFuncNested
import Derived.RangeFuncBound
import Derived.RangeFuncCalls
import Derived.RangeFuncLeaves
import Derived.Shelf.Abstract
import Derived.Shelf.RegionOpen
import Derived.OwnWalkIn
import Derived.TacticsInMore
import Derived.LoopNIn
import Derived.LoopIn
import Derived.Lib.SlBytesConst
import Derived.Test.YtlelckdcmlpmdaaNodeFindsB1
/- What sync.Once leans on, each a contract of its own (turned from the guide's worked text on a lazy value). -/
namespace Go.Proofs.Ytlelckdcmlpmdaa
open Go Go.RowKit Lou

theorem disable (w : World) : (callFunc 237 #[]).run Try.prog w = .ok (.value (.tuple #[])) w := run_call_mark0 Try.func237 (by kernel_rfl) (by kernel_rfl) (by kernel_rfl) .disable (by kernel_rfl) w
theorem enable (w : World) : (callFunc 239 #[]).run Try.prog w = .ok (.value (.tuple #[])) w := run_call_mark0 Try.func239 (by kernel_rfl) (by kernel_rfl) (by kernel_rfl) .enable (by kernel_rfl) w
theorem acquire (a : Addr) (w : World) : (callFunc 240 #[.pointer (some a)]).run Try.prog w = .ok (.value (.tuple #[])) w := run_call_marked Try.func240 (by kernel_rfl) (by kernel_rfl) (by kernel_rfl) .acquire (by kernel_rfl) a w
theorem releaseMerge (a : Addr) (w : World) : (callFunc 242 #[.pointer (some a)]).run Try.prog w = .ok (.value (.tuple #[])) w := run_call_marked Try.func242 (by kernel_rfl) (by kernel_rfl) (by kernel_rfl) .releaseMerge (by kernel_rfl) a w

/-- '(*sync/atomic.Bool).Store(true)', entered as a deferred call: the cell holds 1. -/
theorem store_deferred (a : Addr) (x : Value) (u : FrameMode) (w : World) (hc : w.cell? a = some x) (hz : w.frozen? a = false) :
    CallsD Try.prog 213 #[.pointer (some a), .bool true] u w fun e u' w' => u' = u ∧ (e = .returned (.tuple #[]) ∧ w' = w.drew.setCell a (.int .u32 1)) := by
  have hc' : w.drew.cell? a = some x := by go_simp
  have hz' : w.drew.frozen? a = false := by go_simp
  have hst := run_call_store (P := Try.prog) Try.func229 (by kernel_rfl) (by kernel_rfl) (by kernel_rfl) (by kernel_rfl) (k := .u32) (y := 1) hc' hz'
  go_enter_d Try.func213, Try.ntmps213
  go_wp2
  go_region_calls
  all_goals (go_end0; exact ⟨rfl, rfl⟩)

set_option maxRecDepth 100000 in
/-- '(*sync.Mutex).Unlock', entered as a deferred call, the lock held and nobody waiting (state 1): state 0. -/
theorem unlock_deferred (a : Addr) (u : FrameMode) (w : World) (hc : w.cell? a = some (.int .i32 1)) (hz : w.frozen? a = false) :
    CallsD Try.prog 212 #[.pointer (some a)] u w fun e u' w' => u' = u ∧ (e = .returned (.tuple #[]) ∧ w' = w.setCell a (.int .i32 0)) := by
  have hd := disable
  have he := enable
  have hr := releaseMerge
  have hadd := run_call_add (P := Try.prog) Try.func243 (by kernel_rfl) (by kernel_rfl) (by kernel_rfl) .i32 (by kernel_rfl) (y := -1) (s := 0) hc hz (by simp [go_sem]; rfl)
  have hcv := run_convert_to_unsafe (P := Try.prog) (src := 328) (dst := 332) Try.underlying328 Try.underlying332 (by kernel_rfl) hc
  go_enter_d Try.func212, Try.ntmps212
  go_wp2
  go_end0
  go_wp2
  go_end0
  exact ⟨rfl, rfl⟩

set_option maxRecDepth 100000 in
/-- '(*sync.Mutex).Lock', the lock free (state 0): state 1. -/
theorem lock_free (a : Addr) (w : World) (hc : w.cell? a = some (.int .i32 0)) (hz : w.frozen? a = false) :
    Calls Try.prog 211 #[.pointer (some a)] w fun e w' => e = .returned (.tuple #[]) ∧ w' = w.setCell a (.int .i32 1) := by
  have hd := disable
  have he := enable
  have ha := acquire
  have hcas := run_call_cas_hit (P := Try.prog) Try.func238 (by kernel_rfl) (by kernel_rfl) (by kernel_rfl) .i32 (by kernel_rfl) (y := 1) hc hz
  have hc' : (w.setCell a (.int .i32 1)).cell? a = some (.int .i32 1) := World.cell?_setCell_same w a _ hc
  have hcv := run_convert_to_unsafe (P := Try.prog) (src := 328) (dst := 332) Try.underlying328 Try.underlying332 (by kernel_rfl) hc'
  go_enter Try.func211, Try.ntmps211
  go_wp2
  first | go_end0 | (simp only [Exit.inBlock, Exit.then]; refine bodyPost_ret (results_none rfl _ _ _) rfl ?_) | refine bodyPost_ret (results_none rfl _ _ _) rfl ?_
  go_wp2
  go_end0
  exact ⟨rfl, rfl⟩

/-- '(*sync/atomic.Bool).Load'. -/
theorem bool_load (a : Addr) (d : Nat) (w : World) (hc : w.cell? a = some (.int .u32 d)) :
    Calls Try.prog 189 #[.pointer (some a)] w fun e w' => e = .returned (.bool ((d : Int) != 0)) ∧ w = w' := by
  have hl := run_call_load (P := Try.prog) Try.func210 (by kernel_rfl) (by kernel_rfl) (by kernel_rfl) .u32 (by kernel_rfl) hc
  go_enter Try.func189, Try.ntmps189
  go_wp2
  go_ret
  exact ⟨rfl, rfl⟩

/-- '(*sync/atomic.Int64).Add(1)'. -/
theorem int64_add (b o k : Nat) (hk : k ≤ 1000000) (w : World) (hc : w.cell? ⟨b, o, none⟩ = some (.int .i64 k)) (hz : w.frozen? ⟨b, o, none⟩ = false) :
    Calls Try.prog 191 #[.pointer (some ⟨b, o, none⟩), .int .i64 1] w fun e w' => e = .returned (.int .i64 ((k : Int) + 1)) ∧ w.setCell ⟨b, o, none⟩ (.int .i64 ((k : Int) + 1)) = w' := by
  have hadd := run_call_add (P := Try.prog) Try.func214 (by kernel_rfl) (by kernel_rfl) (by kernel_rfl) .i64 (by kernel_rfl) (y := 1) (s := (k : Int) + 1) hc hz (by
    have := IntWalk.i64_in ((k : Int) + 1) (by omega)
    simp [go_sem, this])
  go_enter Try.func191, Try.ntmps191
  go_wp2
  go_ret
  exact ⟨rfl, rfl⟩
end Go.Proofs.Ytlelckdcmlpmdaa
/- louperef03.Sum: the sum of bytes. -/
namespace Go.Proofs.Ytlelckdcmlpmdaa
open Go Go.RowKit Lou

theorem sh_odd {y : Nat} (h : y % 2 = 1) : sh y = (y / 2) ^^^ poly := by unfold sh; rw [if_pos h]
theorem sh_even {y : Nat} (h : ¬ y % 2 = 1) : sh y = y / 2 := by unfold sh; rw [if_neg h]
theorem xor_u32 {x y : Nat} (hx : x < 4294967296) (hy : y < 4294967296) : bits .xor .u32 (x : Int) (y : Int) = ((x ^^^ y : Nat) : Int) := u32_xor_nat x y hx hy
theorem xor_poly {y : Nat} (hy : y < 4294967296) : bits .xor .u32 ((y : Int) / 2) 3988292384 = ((y / 2 ^^^ poly : Nat) : Int) := u32_xor_nat (y / 2) 3988292384 (by omega) (by omega)
theorem xor_inv {x : Nat} (hx : x < 4294967296) : bits .xor .u32 IntKind.u32.max (x : Int) = ((x ^^^ 4294967295 : Nat) : Int) := by
  have e : IntKind.u32.max = ((4294967295 : Nat) : Int) := rfl
  rw [e, u32_xor_nat _ _ (by omega) hx, Nat.xor_comm]

set_option maxRecDepth 100000 in
set_option maxHeartbeats 1000000 in
theorem refSum_gives (w : World) (B : Nat) (A : Option Addr) (c : Nat) (l : List UInt8) (h : InB w B A c l) : Calls Try.prog 37 #[.slice A l.length c] w fun e w' => e = .returned (.int .u32 (sumL l : Int)) ∧ w = w' := by
  have hle := h.le
  have hmax := h.max
  go_enter Try.func37, Try.ntmps37
  go_wp2_with fail
  go_loop [3, 4] (fun s i => ∃ k x : Nat, k ≤ l.length ∧ i = .int .i64 k ∧ x < 4294967296 ∧ s = .int .u32 x ∧ Hid (x = sumS 4294967295 (l.take k))) (fun _ i => l.length - (intOf i).toNat)
  case atStart => exact ⟨0, 4294967295, by omega, rfl, by omega, rfl, Lib.hid rfl⟩
  case round =>
    obtain ⟨k, x, hk, rfl, hx, rfl, hX⟩ := hrel
    by_cases hlt : k < l.length
    · obtain ⟨g, o, rfl, _, hc⟩ := h.lies (by omega)
      have hck := hc k hlt
      clear hc
      have hbd := (l[k]).toNat_lt
      have hxor := xor_u32 hx (show l[k].toNat < 4294967296 from by omega)
      have hy := xor_lt32 hx (show l[k].toNat < 4294967296 from by omega)
      have hst : stepC x l[k] = shN 8 (x ^^^ l[k].toNat) := rfl
      have hS := Lib.hid hst
      clear hst
      go_wp2_with fail
      go_loop [3, 5] (fun s i => ∃ j y : Nat, j ≤ 8 ∧ i = .int .i64 j ∧ y < 4294967296 ∧ s = .int .u32 y ∧ Hid (shN (8 - j) y = stepC x l[k])) (fun _ i => 8 - (intOf i).toNat)
      case atStart => exact ⟨0, _, by omega, rfl, hy, rfl, Lib.hid rfl⟩
      case round =>
        obtain ⟨j, y, hj, rfl, hyl, rfl, hY⟩ := hrel
        clear hy hxor
        by_cases hj8 : j < 8
        · have hn : Hid (shN (8 - (j + 1)) (sh y) = stepC x l[k]) := by
            have := hY.out
            rw [show 8 - j = (8 - (j + 1)) + 1 from by omega] at this
            exact Lib.hid this
          have hlt2 := sh_lt hyl
          clear hY
          by_cases hod : y % 2 = 1
          · have hs : Hid (sh y = (y / 2) ^^^ poly) := Lib.hid (sh_odd hod)
            have hb : (((y : Int) % 2) == 1) = true := by rw [beq_iff_eq]; omega
            have hx2 := xor_poly hyl
            clear hod
            go_wp2_with fail
            refine ⟨⟨j + 1, sh y, by omega, by go_num, hlt2, by rw [hs.out], hn⟩, by simp [intOf]; omega⟩
          · have hs : Hid (sh y = y / 2) := Lib.hid (sh_even hod)
            have hb : (((y : Int) % 2) == 1) = false := by rw [beq_eq_false_iff_ne]; omega
            clear hod
            go_wp2_with fail
            refine ⟨⟨j + 1, sh y, by omega, by go_num, hlt2, by rw [hs.out]; go_num, hn⟩, by simp [intOf]; omega⟩
        · have hn : Hid (y = stepC x l[k]) := by
            have := hY.out
            rw [show 8 - j = 0 from by omega] at this
            exact Lib.hid this
          clear hY
          go_wp2_with fail
          refine ⟨⟨k + 1, y, by omega, by go_num, hyl, rfl, ?_⟩, by simp [intOf]; omega⟩
          have : y = sumS 4294967295 (l.take (k + 1)) := by
            rw [hn.out, hX.out, List.take_succ_eq_append_getElem hlt, sumS_append]
            rfl
          exact Lib.hid this
    · have hinv := xor_inv hx
      go_wp2_with fail
      go_ret
      have : x ^^^ 4294967295 = sumL l := by
        rw [hX.out, List.take_of_length_le (by omega)]
        rfl
      exact ⟨by rw [← this]; rfl, rfl⟩
end Go.Proofs.Ytlelckdcmlpmdaa
/- (*octet.table).make, step: the sum's table, made once. -/
namespace Go.Proofs.Ytlelckdcmlpmdaa
open Go Go.RowKit Lou

/-- k entries of the table are told. -/
structure TabTo (cs0 : Array Value) (k : Nat) (cs : Array Value) : Prop where
  size : cs.size = 260
  c0 : cs[0]? = cs0[0]?
  c1 : cs[1]? = cs0[1]?
  c2 : cs[2]? = cs0[2]?
  many : cs[3]? = some (.int .i64 (k : Int))
  to : ∀ j, j < k → cs[4 + j]? = some (.int .u32 (shN 8 j : Int))

theorem TabTo.next {cs0 cs : Array Value} {k : Nat} (h : TabTo cs0 k cs) (hk : k < 256) :
    TabTo cs0 (k + 1) ((cs.setIfInBounds (4 + k) (.int .u32 (shN 8 k : Int))).setIfInBounds 3 (.int .i64 ((k : Int) + 1))) := by
  have hs := h.size
  refine ⟨by simp [hs], ?_, ?_, ?_, ?_, ?_⟩
  · rw [Array.getElem?_setIfInBounds, if_neg (by omega), Array.getElem?_setIfInBounds, if_neg (by omega)]; exact h.c0
  · rw [Array.getElem?_setIfInBounds, if_neg (by omega), Array.getElem?_setIfInBounds, if_neg (by omega)]; exact h.c1
  · rw [Array.getElem?_setIfInBounds, if_neg (by omega), Array.getElem?_setIfInBounds, if_neg (by omega)]; exact h.c2
  · simp [Array.getElem?_setIfInBounds, hs]
  · intro j hj
    rw [Array.getElem?_setIfInBounds, if_neg (by omega), Array.getElem?_setIfInBounds]
    by_cases e : j = k
    · subst e; rw [if_pos rfl, if_pos (by omega)]
    · rw [if_neg (by omega)]; exact h.to j (by omega)

theorem and_one {y : Nat} (hy : y < 4294967296) : bits .and .u32 (y : Int) 1 = ((y % 2 : Nat) : Int) := by
  have := u32_and_nat y 1 hy (by omega)
  rw [Nat.and_one_is_mod] at this
  exact this

set_option maxRecDepth 100000 in
set_option maxHeartbeats 2000000 in
theorem make_gives (b : Nat) (cs0 : Array Value) (w : World) (hb : BlkIs w b 186 cs0) (h0 : TabTo cs0 0 cs0) :
    Calls Try.prog 165 #[.pointer (some ⟨b, 0, none⟩)] w fun e w' => e = .returned (.tuple #[]) ∧ (∃ cs, BlkIs w' b 186 cs ∧ TabTo cs0 256 cs) ∧ w.grownBy w' (some b) := by
  go_enter Try.func165, Try.ntmps165
  go_wp2_with fail
  go_loopw [5] (fun i wr => ∃ (k : Nat) (cs : Array Value), k ≤ 256 ∧ i = .int .i64 k ∧ Hid (BlkIs wr b 186 cs ∧ TabTo cs0 k cs) ∧ w.grownBy wr (some b)) (fun i _ => 256 - (intOf i).toNat)
  case atStart => exact ⟨0, cs0, by omega, rfl, Lib.hid ⟨hb, h0⟩, World.grownBy.refl _ _⟩
  case round =>
    obtain ⟨k, cs, hk, rfl, hT, hg⟩ := hrel
    by_cases hlt : k < 256
    · have hsz := hT.out.2.size
      have hgetold : ∃ u, cs[4 + k]? = some u := ⟨cs[4 + k]'(by omega), Array.getElem?_eq_getElem (by omega)⟩
      obtain ⟨u, hu⟩ := hgetold
      have hc4 : wr.cell? ⟨b, 4 + k, none⟩ = some u := (hT.out.1.cell _).trans hu
      have hf4 : wr.frozen? ⟨b, 4 + k, none⟩ = false := hT.out.1.free _
      clear hsz hu
      go_wp2_with fail
      go_loop [3, 10] (fun s i => ∃ j y : Nat, j ≤ 8 ∧ i = .int .i64 j ∧ y < 4294967296 ∧ s = .int .u32 y ∧ Hid (shN (8 - j) y = shN 8 k)) (fun _ i => 8 - (intOf i).toNat)
      case atStart => exact ⟨0, k, by omega, rfl, by omega, rfl, Lib.hid rfl⟩
      case round =>
        obtain ⟨j, y, hj, rfl, hyl, rfl, hY⟩ := hrel
        by_cases hj8 : j < 8
        · have hn : Hid (shN (8 - (j + 1)) (sh y) = shN 8 k) := by
            have := hY.out
            rw [show 8 - j = (8 - (j + 1)) + 1 from by omega] at this
            exact Lib.hid this
          have hlt2 := sh_lt hyl
          have hand := and_one hyl
          clear hY
          by_cases hod : y % 2 = 1
          · have hs : Hid (sh y = (y / 2) ^^^ poly) := Lib.hid (sh_odd hod)
            have hb1 : ((((y % 2 : Nat) : Int)) == 1) = true := by rw [beq_iff_eq]; omega
            have hx2 := xor_poly hyl
            clear hod
            go_wp2_with fail
            exact ⟨⟨j + 1, sh y, by omega, by go_num, hlt2, by rw [hs.out], hn⟩, by simp [intOf]; omega⟩
          · have hs : Hid (sh y = y / 2) := Lib.hid (sh_even hod)
            have hb1 : ((((y % 2 : Nat) : Int)) == 1) = false := by rw [beq_eq_false_iff_ne]; omega
            clear hod
            go_wp2_with fail
            exact ⟨⟨j + 1, sh y, by omega, by go_num, hlt2, by rw [hs.out]; go_num, hn⟩, by simp [intOf]; omega⟩
        · have hn : Hid (y = shN 8 k) := by
            have := hY.out
            rw [show 8 - j = 0 from by omega] at this
            exact Lib.hid this
          clear hY
          have hb4 := hT.out.1.set (4 + k) (.int .u32 (y : Int))
          have hc3 : (wr.setCell ⟨b, 4 + k, none⟩ (.int .u32 (y : Int))).cell? ⟨b, 3, none⟩ = some (.int .i64 (k : Int)) := by
            rw [hb4.cell, Array.getElem?_setIfInBounds, if_neg (by omega)]
            exact hT.out.2.many
          have hf3 := hb4.free 3
          go_wp2_with (go_at_call 191; refine (int64_add b 3 k (by omega) _ hc3 hf3).mono ?_; rintro e w' ⟨rfl, rfl⟩)
          refine ⟨⟨k + 1, _, by omega, by go_num, Lib.hid ⟨hb4.set 3 _, ?_⟩, grownBy_trans hg (grownBy_trans (grownBy_set _ _ _ _) (grownBy_set _ _ _ _))⟩, by simp [intOf]; omega⟩
          rw [hn.out]
          exact hT.out.2.next hlt
    · obtain rfl : k = 256 := by omega
      go_wp2_with fail
      go_end0
      exact ⟨rfl, ⟨cs, hT.out⟩, hg⟩

/-- The Once, its lock free; done: 0 or 1. Where it's done the table is told. -/
structure TabOk (d : Nat) (cs : Array Value) : Prop where
  size : cs.size = 260
  c0 : cs[0]? = some (.int .u32 (d : Int))
  c1 : cs[1]? = some (.int .i32 0)
  dd : d = 0 ∨ d = 1
  many : d = 0 → cs[3]? = some (.int .i64 0)
  to : d = 1 → ∀ j, j < 256 → cs[4 + j]? = some (.int .u32 (shN 8 j : Int))

set_option maxRecDepth 100000 in
set_option maxHeartbeats 2000000 in
theorem doSlow_gives (b : Nat) (cs0 : Array Value) (w : World) (hb : BlkIs w b 186 cs0) (h0 : TabOk 0 cs0) :
    Calls Try.prog 190 #[.pointer (some ⟨b, 0, none⟩), .func (.func 165) #[.pointer (some ⟨b, 0, none⟩)] #[]] w fun e w' =>
      e = .returned (.tuple #[]) ∧ (∃ cs, BlkIs w' b 186 cs ∧ TabOk 1 cs) ∧ w.grownBy w' (some b) := by
  have hc1 : w.cell? ⟨b, 1, none⟩ = some (.int .i32 0) := (hb.cell 1).trans h0.c1
  have hf1 := hb.free 1
  have hb1 := hb.set 1 (.int .i32 1)
  have hc0 : (w.setCell ⟨b, 1, none⟩ (.int .i32 1)).cell? ⟨b, 0, none⟩ = some (.int .u32 ((0 : Nat) : Int)) := by
    rw [hb1.cell, Array.getElem?_setIfInBounds, if_neg (by omega)]
    exact h0.c0
  have hsz := h0.size
  have ht0 : TabTo (cs0.setIfInBounds 1 (.int .i32 1)) 0 (cs0.setIfInBounds 1 (.int .i32 1)) := ⟨by simp [hsz], rfl, rfl, rfl, by
    rw [Array.getElem?_setIfInBounds, if_neg (by omega)]
    exact h0.many rfl, fun j hj => by omega⟩
  have hM := make_gives b _ _ hb1 ht0
  have hbd : (((0 : Nat) : Int) != 0) = false := by decide
  clear ht0 hb1
  go_enter_defers Try.func190, Try.ntmps190
  go_wp2_with (first
    | (go_at_call 211; refine (lock_free ⟨b, 1, none⟩ _ hc1 hf1).mono ?_; rintro e w' ⟨rfl, rfl⟩)
    | (go_at_call 189; refine (bool_load ⟨b, 0, none⟩ 0 _ hc0).mono ?_; rintro e w' ⟨rfl, rfl⟩)
    | (go_at_call 165; refine hM.mono ?_; rintro e w1 ⟨rfl, ⟨cs1, hb1, ht1⟩, hg1⟩))
  have hs1 := ht1.size
  have e0 : cs1[0]? = some (.int .u32 ((0 : Nat) : Int)) := by rw [ht1.c0, Array.getElem?_setIfInBounds, if_neg (by omega)]; exact h0.c0
  have e1 : cs1[1]? = some (.int .i32 1) := by rw [ht1.c1, Array.getElem?_setIfInBounds, if_pos rfl, if_pos (by omega)]
  have hb2 := hb1.drew.set 0 (.int .u32 1)
  have hb3 := hb2.set 1 (.int .i32 0)
  refine leaves_cons (f := 213) (args := #[.pointer (some ⟨b, 0, none⟩), .bool true]) (by simp) (by simp [go_sem]) ?_
  refine (store_deferred ⟨b, 0, none⟩ (.int .u32 0) .returning _ ((hb1.cell 0).trans e0) (hb1.free 0)).mono ?_
  rintro e u' w'' ⟨rfl, rfl, rfl⟩
  refine leaves_cons (f := 212) (args := #[.pointer (some ⟨b, 1, none⟩)]) (by simp [settle]) (by simp [go_sem]) ?_
  refine (unlock_deferred ⟨b, 1, none⟩ _ _ (by rw [hb2.cell, Array.getElem?_setIfInBounds, if_neg (by omega)]; exact e1) (hb2.free 1)).mono ?_
  rintro e u' w'' ⟨rfl, rfl, rfl⟩
  have hfin : (∃ cs, BlkIs ((w1.drew.setCell ⟨b, 0, none⟩ (.int .u32 1)).setCell ⟨b, 1, none⟩ (.int .i32 0)) b 186 cs ∧ TabOk 1 cs) ∧ w.grownBy ((w1.drew.setCell ⟨b, 0, none⟩ (.int .u32 1)).setCell ⟨b, 1, none⟩ (.int .i32 0)) (some b) := by
    refine ⟨⟨_, hb3, ⟨by simp [hs1], ?_, ?_, .inr rfl, fun h => by omega, fun _ j hj => ?_⟩⟩, ?_⟩
    · rw [Array.getElem?_setIfInBounds, if_neg (by omega), Array.getElem?_setIfInBounds, if_pos rfl, if_pos (by omega)]; rfl
    · rw [Array.getElem?_setIfInBounds, if_pos rfl, if_pos (by simp; omega)]
    · rw [Array.getElem?_setIfInBounds, if_neg (by omega), Array.getElem?_setIfInBounds, if_neg (by omega)]; exact ht1.to j hj
    · exact grownBy_trans (grownBy_set _ _ _ _) (grownBy_trans hg1 (grownBy_trans (grownBy_drew _ _) (grownBy_trans (grownBy_set _ _ _ _) (grownBy_set _ _ _ _))))
  have hH := Lib.hid hfin
  clear hfin
  simp [Leaves, settle, results, Try.results190]
  exact hH.out

set_option maxRecDepth 100000 in
set_option maxHeartbeats 1000000 in
theorem once_gives (b d : Nat) (cs0 : Array Value) (w : World) (hb : BlkIs w b 186 cs0) (h0 : TabOk d cs0) :
    Calls Try.prog 164 #[.pointer (some ⟨b, 0, none⟩), .func (.func 165) #[.pointer (some ⟨b, 0, none⟩)] #[]] w fun e w' =>
      e = .returned (.tuple #[]) ∧ (∃ cs, BlkIs w' b 186 cs ∧ TabOk 1 cs) ∧ w.grownBy w' (some b) := by
  have hc0 : w.cell? ⟨b, 0, none⟩ = some (.int .u32 (d : Int)) := (hb.cell 0).trans h0.c0
  rcases h0.dd with rfl | rfl
  · have hM := doSlow_gives b _ _ hb h0
    have hbd : (((0 : Nat) : Int) != 0) = false := by decide
    go_enter Try.func164, Try.ntmps164
    go_wp2_with (first
      | (go_at_call 189; refine (bool_load ⟨b, 0, none⟩ 0 _ hc0).mono ?_; rintro e w' ⟨rfl, rfl⟩)
      | (go_at_call 190; refine hM.mono ?_; rintro e w1 ⟨rfl, hT, hg1⟩))
    go_end0
    exact ⟨rfl, hT, hg1⟩
  · have hbd : (((1 : Nat) : Int) != 0) = true := by decide
    go_enter Try.func164, Try.ntmps164
    go_wp2_with (go_at_call 189; refine (bool_load ⟨b, 0, none⟩ 1 _ hc0).mono ?_; rintro e w' ⟨rfl, rfl⟩)
    go_end0
    exact ⟨rfl, ⟨cs0, hb, h0⟩, World.grownBy.refl _ _⟩

set_option maxRecDepth 100000 in
set_option maxHeartbeats 1000000 in
theorem step_gives (b d : Nat) (cs0 : Array Value) (s : Nat) (c : UInt8) (hs : s < 4294967296) (w : World) (hb : BlkIs w b 186 cs0) (h0 : TabOk d cs0) :
    Calls Try.prog 100 #[.pointer (some ⟨b, 0, none⟩), .int .u32 s, .int .u8 (c.toNat : Int)] w fun e w' =>
      e = .returned (.int .u32 (stepC s c : Int)) ∧ (∃ cs, BlkIs w' b 186 cs ∧ TabOk 1 cs) ∧ w.grownBy w' (some b) := by
  have hO := once_gives b d cs0 w hb h0
  have hmf : ∀ (fn : Fn) (first cap : Array Value) (w : World), (Instr.makeFunc fn first cap).run Try.prog w = .ok (.func fn first cap) w := fun _ _ _ _ => rfl
  have hcl := c.toNat_lt
  have hxl : (s % 256) ^^^ c.toNat < 256 := by
    have := Nat.xor_lt_two_pow (n := 8) (show s % 256 < 2 ^ 8 from by omega) (show c.toNat < 2 ^ 8 from by omega)
    simpa using this
  have hx8 : bits .xor .u8 ((s : Int) % 256) (c.toNat : Int) = (((s % 256) ^^^ c.toNat : Nat) : Int) := by
    have := u8_xor_nat (s % 256) c.toNat (by omega) (by omega)
    rw [← this]
    congr 1
  have hst := stepC_table s c
  generalize hx : (s % 256) ^^^ c.toNat = x at *
  have hX := Lib.hid hx
  clear hx
  have hx32 : bits .xor .u32 ((s : Int) / 256) (shN 8 x : Int) = (stepC s c : Int) := by
    have := u32_xor_nat (s / 256) (shN 8 x) (by omega) (shN_lt 8 (by omega))
    rw [hst, ← this]
    congr 1
  clear hst
  go_enter Try.func100, Try.ntmps100
  go_wp2_with (go_at_call 164; refine hO.mono ?_; clear hO; rintro e w1 ⟨rfl, ⟨cs1, hb1, h1⟩, hg1⟩; have hcx := (hb1.cell (4 + x)).trans (h1.to rfl x hxl))
  go_ret
  exact ⟨rfl, ⟨cs1, hb1, h1⟩, hg1⟩
end Go.Proofs.Ytlelckdcmlpmdaa
/- What ranges over functions lean on in this seat: growth that turns no cells; what has come of a list. -/
namespace Go.Proofs.Ytlelckdcmlpmdaa
open Go Go.RowKit Lou

/-- A block of cells is kept where one block that holds none is turned. -/
theorem BlkIs.kept {W W' : World} {row : Option Nat} {g : Nat} {t : TypeId} {cs : Array Value} (h : BlkIs W g t cs) (hg : W.grownBy W' row) (hr : ∀ r, row = some r → ∃ o : Obj, W.heap[r]? = some o ∧ o.isCells = false) : BlkIs W' g t cs :=
  h.grown hg (fun e => by
    obtain ⟨o, ho, hc⟩ := hr g e.symm
    rw [h] at ho
    injection ho with ho
    subst ho
    cases hc)
theorem BlkIs.own (g : Nat) (t : TypeId) {β : Type} (cs : β → Array Value) : Own (fun (s : β) W => BlkIs W g t (cs s)) := fun _ _ _ _ hs hg hr => hs.kept hg hr
theorem BlkIs.boxed {W : World} {g : Nat} {t : TypeId} {v : Value} (h : BlkIs W g t #[v]) : W.cell? ⟨g, 0, none⟩ = some v := by rw [h.cell]; rfl
theorem BlkIs.others {W W' : World} {b : Nat} {t : TypeId} {cs : Array Value} (h : BlkIs W b t cs) (hg : W.grownBy W' (some b)) : KeepsOthers W W' :=
  KeepsOthers.of_grownBy hg (fun j o e ho => by
    injection e with e
    subst e
    rw [h] at ho
    injection ho with ho
    subst ho
    rfl)
end Go.Proofs.Ytlelckdcmlpmdaa
/- slices.Values over lists of bytes; octet.Sum. -/
namespace Go.Proofs.Ytlelckdcmlpmdaa
open Go Go.RowKit Lou Go.Shelf
attribute [local go_sem] Oper.semAt_some

/-- Bytes that came in, as one value (below n₀ in the world w0). -/
abbrev Piece (w0 : World) (n₀ : Nat) := { x : (Option Addr × Nat) × List UInt8 // InB w0 n₀ x.1.1 x.1.2 x.2 }
def Piece.val {w0 : World} {n₀ : Nat} (p : Piece w0 n₀) : Value := .slice p.1.1.1 p.1.2.length p.1.1.2
def Piece.l {w0 : World} {n₀ : Nat} (p : Piece w0 n₀) : List UInt8 := p.1.2

/-- A list of bytes' lists that came in. -/
structure InLL (w : World) (B : Nat) (A : Option Addr) (c : Nat) (ls : List (Piece w B)) : Prop where
  le : ls.length ≤ c
  max : c ≤ 9223372036854775807
  lies : 0 < ls.length → ∃ g o, A = some ⟨g, o, none⟩ ∧ g < B ∧ ∀ j (h : j < ls.length), w.cell? ⟨g, o + j, none⟩ = some ls[j].val

section
variable {w0 : World} {n₀ : Nat}

set_option maxRecDepth 100000 in
set_option maxHeartbeats 2000000 in
theorem values1_some (n : Nat) (hn1 : 1 ≤ n) (l Bs b off cap : Nat) (zs : List (Piece w0 n₀)) (hmax : zs.length ≤ 9223372036854775807) (hb : b < n₀) (J Jx : List (Piece w0 n₀) → World → Prop)
    (hY : ∀ pre x W, J pre W → pre.length < zs.length → YieldAt Fence.wide (n - 1) Try.prog l #[x.val] W fun e W' =>
      (e = .returned (.bool true) ∧ J (pre ++ [x]) W' ∧ Below n₀ W W') ∨ (e = .returned (.bool false) ∧ Jx (pre ++ [x]) W'))
    (W : World) (hBs : W.cell? ⟨Bs, 0, none⟩ = some (.slice (some ⟨b, off, none⟩) zs.length cap)) (hc : ∀ j (h : j < zs.length), W.cell? ⟨b, off + j, none⟩ = some zs[j].val) (h0 : J [] W) :
    CallsIn Fence.wide n Try.prog 163 #[.func (.yield l) #[] #[], .pointer (some ⟨Bs, 0, none⟩)] W fun e W' => (∃ v, e = .returned v) ∧
      ((∃ ys, ys = zs ∧ J ys W') ∨ (∃ pre, pre <+: zs ∧ Jx pre W')) := by
  refine callsIn_of_wp Try.func163 rfl trivial ?_ rfl
  simp only [Try.ntmps163, List.size_toArray, List.length_cons, List.length_nil, Nat.reduceAdd, Nat.reduceSub, Array.replicate_succ, Array.replicate_zero, List.push_toArray, List.append_toArray, List.nil_append, List.cons_append]
  gi_wp2
  gi_loopw [7] (fun i wr => ∃ k : Nat, k ≤ zs.length ∧ i = .int .i64 k ∧ J (zs.take k) wr ∧ Below n₀ W wr)
    (fun i _ => zs.length - (intOf i).toNat)
  case atStart => exact ⟨0, Nat.zero_le _, rfl, by simpa using h0, Below.refl _ _⟩
  case round =>
    obtain ⟨k, hk, rfl, hJs, hnx⟩ := hrel
    by_cases hlt : k < zs.length
    · have hcx : wr.cell? ⟨b, off + k, none⟩ = some zs[k].val := (hnx.cell (p := ⟨b, off + k, none⟩) hb).trans (hc k hlt)
      obtain ⟨fn, tmps, assign, body, hy, hR⟩ := hY _ zs[k] wr hJs (by simp; omega)
      have htk : zs.take k ++ [zs[k]] = zs.take (k + 1) := (List.take_succ_eq_append_getElem hlt).symm
      have hTk := Lib.hid htk
      clear htk
      have hval : zs[k].val = .slice zs[k].1.1.1 zs[k].1.2.length zs[k].1.1.2 := rfl
      rw [hval] at hcx hy
      clear hval hc
      gi_wp2
      refine hR.mono ?_
      rintro e W3 (⟨rfl, hJ3, hk3⟩ | ⟨rfl, hJx3⟩)
      · gi_wp2
        go_roundw
        case rel => exact ⟨k + 1, by omega, by simp, by rw [← hTk.out]; exact hJ3, hnx.trans hk3⟩
        case measure => simp [intOf]; omega
      · gi_wp2
        refine bodyPost_ret (results_none rfl _ _ _) rfl ?_
        exact ⟨⟨_, rfl⟩, .inr ⟨_, by rw [hTk.out]; exact List.take_prefix _ _, hJx3⟩⟩
    · obtain rfl : k = zs.length := by omega
      gi_wp2
      go_end0
      exact ⟨⟨_, rfl⟩, .inl ⟨_, List.take_length, hJs⟩⟩

set_option maxRecDepth 100000 in
set_option maxHeartbeats 1000000 in
theorem values1_empty (n : Nat) (l Bs : Nat) (A : Option Addr) (cap : Nat) (J : List (Piece w0 n₀) → World → Prop) (W : World) (hBs : W.cell? ⟨Bs, 0, none⟩ = some (.slice A 0 cap)) (h0 : J [] W) :
    CallsIn Fence.wide n Try.prog 163 #[.func (.yield l) #[] #[], .pointer (some ⟨Bs, 0, none⟩)] W fun e W' => (∃ v, e = .returned v) ∧ J [] W' := by
  refine callsIn_of_wp Try.func163 rfl trivial ?_ rfl
  simp only [Try.ntmps163, List.size_toArray, List.length_cons, List.length_nil, Nat.reduceAdd, Nat.reduceSub, Array.replicate_succ, Array.replicate_zero, List.push_toArray, List.append_toArray, List.nil_append, List.cons_append]
  gi_wp2
  gi_loopw [7] (fun i wr => i = .int .i64 0 ∧ J [] wr) (fun _ _ => 0)
  case atStart => exact ⟨rfl, h0⟩
  case round =>
    obtain ⟨rfl, hJs⟩ := hrel
    gi_wp2
    go_end0
    exact ⟨⟨_, rfl⟩, hJs⟩

set_option maxHeartbeats 1000000 in
theorem values_in (n : Nat) (a : Option Addr) (len cap : Nat) (w : World) :
    CallsIn Fence.wide n Try.prog 99 #[.slice a len cap] w fun e w' => e = .returned (.func (.func 163) #[] #[.pointer (some ⟨w.heap.size, 0, none⟩)]) ∧ w.alloc (.cells #[.slice a len cap] 168) = w' := by
  refine callsIn_of_wp Try.func99 rfl trivial ?_ rfl
  simp only [Try.ntmps99, List.size_toArray, List.length_cons, List.length_nil, Nat.reduceAdd, Nat.reduceSub, Array.replicate_succ, Array.replicate_zero, List.push_toArray, List.append_toArray, List.nil_append, List.cons_append]
  gi_wp2
  go_ret
  exact ⟨rfl, rfl⟩

theorem values_stops (n : Nat) (hn1 : 1 ≤ n) (Bs : Nat) (A : Option Addr) (c : Nat) (zs : List (Piece w0 n₀)) (hI : InLL w0 n₀ A c zs) (w : World) (hb0 : Below n₀ w0 w) (hBs : Bs < w.heap.size) (hn₀ : n₀ ≤ w.heap.size)
    (hc : w.cell? ⟨Bs, 0, none⟩ = some (.slice A zs.length c)) :
    SeqStopsK Fence.wide n Try.prog 163 #[.pointer (some ⟨Bs, 0, none⟩)] (fun x : Piece w0 n₀ => #[x.val]) (Below n₀) (fun ys => ys = zs) (fun pre => pre <+: zs) zs.length w := fun l J Jx W hW _ _ hY h0 => by
  have hc' := (hW.cell (p := ⟨Bs, 0, none⟩) hBs).trans hc
  have hle := hI.le
  have hmx := hI.max
  rcases Nat.eq_zero_or_pos zs.length with hz | hz
  · obtain rfl := List.eq_nil_of_length_eq_zero hz
    exact (values1_empty n l Bs A c J W hc' h0).mono fun e W' ⟨he, hj⟩ => ⟨he, .inl ⟨_, rfl, hj⟩⟩
  · obtain ⟨g, o, rfl, hg, hcs⟩ := hI.lies hz
    exact values1_some n hn1 l Bs g o c zs (by omega) hg J Jx hY W hc' (fun j hj => ((hb0.trans (hW.mono hn₀)).cell hg).trans (hcs j hj)) h0
end

theorem tab_zero : TabOk 0 Try.zeroCells186 :=
  ⟨by kernel_rfl, by kernel_rfl, by kernel_rfl, .inl rfl, fun _ => by kernel_rfl, fun h => by omega⟩

set_option maxRecDepth 100000 in
set_option maxHeartbeats 2000000 in
theorem sum_in (n : Nat) (hn : 4 ≤ n) (w : World) (A : Option Addr) (c : Nat) (zs : List (Piece w w.heap.size)) (hI : InLL w w.heap.size A c zs) :
    CallsIn Fence.wide n Try.prog 29 #[.slice A zs.length c] w fun e W' => e = .returned (.int .u32 (sumL (zs.map Piece.l).flatten : Int)) ∧ Below w.heap.size w W' := by
  have h1 : 1 ≤ n := by omega
  refine callsIn_of_wp_marks Try.func29 rfl trivial ?_ rfl
  simp only [Try.ntmps29, List.size_toArray, List.length_cons, List.length_nil, Nat.reduceAdd, Nat.reduceSub, Array.replicate_succ, Array.replicate_zero, List.push_toArray, List.append_toArray, List.nil_append, List.cons_append]
  gi_wp2_with (refine ⟨trivial, ?_⟩; gi_at_call 99; refine (values_in (n - 1) _ _ _ _).mono ?_; rintro e w' ⟨rfl, rfl⟩)
  have b0 : BlkIs ((((w.alloc (.cells Try.zeroCells186 186)).alloc (.cells #[.pointer (some ⟨w.heap.size, 0, none⟩)] 169)).alloc (.cells #[.int .u32 4294967295] 45)).alloc (.cells #[.slice A zs.length c] 168)) w.heap.size 186 Try.zeroCells186 := (((BlkIs.new _ _ _).alloc _).alloc _).alloc _
  have b1 : BlkIs ((((w.alloc (.cells Try.zeroCells186 186)).alloc (.cells #[.pointer (some ⟨w.heap.size, 0, none⟩)] 169)).alloc (.cells #[.int .u32 4294967295] 45)).alloc (.cells #[.slice A zs.length c] 168)) (w.heap.size + 1) 169 #[.pointer (some ⟨w.heap.size, 0, none⟩)] := by
    have := ((BlkIs.new (w.alloc (.cells Try.zeroCells186 186)) 169 #[.pointer (some ⟨w.heap.size, 0, none⟩)]).alloc (.cells #[.int .u32 4294967295] 45)).alloc (.cells #[.slice A zs.length c] 168)
    rwa [World.size_alloc] at this
  have b2 : BlkIs ((((w.alloc (.cells Try.zeroCells186 186)).alloc (.cells #[.pointer (some ⟨w.heap.size, 0, none⟩)] 169)).alloc (.cells #[.int .u32 4294967295] 45)).alloc (.cells #[.slice A zs.length c] 168)) (w.heap.size + 1 + 1) 45 #[.int .u32 4294967295] := by
    have := (BlkIs.new ((w.alloc (.cells Try.zeroCells186 186)).alloc (.cells #[.pointer (some ⟨w.heap.size, 0, none⟩)] 169)) 45 #[.int .u32 4294967295]).alloc (.cells #[.slice A zs.length c] 168)
    rwa [World.size_alloc, World.size_alloc] at this
  have b3 : ((((w.alloc (.cells Try.zeroCells186 186)).alloc (.cells #[.pointer (some ⟨w.heap.size, 0, none⟩)] 169)).alloc (.cells #[.int .u32 4294967295] 45)).alloc (.cells #[.slice A zs.length c] 168)).cell? ⟨w.heap.size + 1 + 1 + 1, 0, none⟩ = some (.slice A zs.length c) := by
    have := new_cell (((w.alloc (.cells Try.zeroCells186 186)).alloc (.cells #[.pointer (some ⟨w.heap.size, 0, none⟩)] 169)).alloc (.cells #[.int .u32 4294967295] 45)) (.slice A zs.length c) 168
    rwa [World.size_alloc, World.size_alloc, World.size_alloc] at this
  have hB0 : Below w.heap.size w ((((w.alloc (.cells Try.zeroCells186 186)).alloc (.cells #[.pointer (some ⟨w.heap.size, 0, none⟩)] 169)).alloc (.cells #[.int .u32 4294967295] 45)).alloc (.cells #[.slice A zs.length c] 168)) :=
    ((((Below.refl _ w).alloc (Nat.le_refl _) _).alloc (by simp) _).alloc (by simp; omega) _).alloc (by simp; omega) _
  have hsz : ((((w.alloc (.cells Try.zeroCells186 186)).alloc (.cells #[.pointer (some ⟨w.heap.size, 0, none⟩)] 169)).alloc (.cells #[.int .u32 4294967295] 45)).alloc (.cells #[.slice A zs.length c] 168)).heap.size = w.heap.size + 4 := by simp
  generalize hW0 : ((((w.alloc (.cells Try.zeroCells186 186)).alloc (.cells #[.pointer (some ⟨w.heap.size, 0, none⟩)] 169)).alloc (.cells #[.int .u32 4294967295] 45)).alloc (.cells #[.slice A zs.length c] 168)) = W0 at *
  clear hW0
  refine wpIn_rangeFunc_ownG rfl h1 (gf := 163) (lb := #[.pointer (some ⟨w.heap.size + 1 + 1 + 1, 0, none⟩)]) rfl trivial (enters_of Try.func163 (by kernel_rfl) rfl)
    (values_stops (n - 1) (by omega) (w.heap.size + 1 + 1 + 1) A c zs hI W0 hB0 (by omega) (by omega) b3) belowK_t (belowK_b (by omega)) (Below.refl _ _) (fun _ => rfl)
    (fun pre W => ((∃ d cs, BlkIs W w.heap.size 186 cs ∧ TabOk d cs) ∧ BlkIs W (w.heap.size + 1) 169 #[.pointer (some ⟨w.heap.size, 0, none⟩)] ∧ BlkIs W (w.heap.size + 1 + 1) 45 #[.int .u32 (sumS 4294967295 (pre.map Piece.l).flatten : Int)]) ∧ Below w.heap.size w W)
    (fun _ _ _ => False)
    (OwnFrom.and (Own.from (fun s A B row hs hg hr => ⟨by obtain ⟨d, cs, h1, h2⟩ := hs.1; exact ⟨d, cs, h1.kept hg hr, h2⟩, hs.2.1.kept hg hr, hs.2.2.kept hg hr⟩) _) (ownFrom_below (Nat.le_refl _) (by omega)))
    (fun _ _ _ _ _ hs _ _ => hs)
    ⟨⟨⟨0, _, b0, tab_zero⟩, b1, b2⟩, hB0⟩
    (fun x => { tmps := #[.slice A zs.length c, undef, .int .u32 0, .pointer (some ⟨w.heap.size + 1, 0, none⟩), .pointer (some ⟨w.heap.size + 1 + 1, 0, none⟩), .slice x.1.1.1 x.1.2.length x.1.1.2, undef, undef, .agg Try.zeroCells186, .pointer (some ⟨w.heap.size, 0, none⟩), .slice A zs.length c, .func (.func 163) #[] #[.pointer (some ⟨w.heap.size + 1 + 1 + 1, 0, none⟩)], .slice x.1.1.1 x.1.2.length x.1.1.2, undef, undef, undef, undef, undef, undef, undef, undef, undef, undef, undef, undef, undef], defers := [] }) ?assign ?body ?done ?stop
  case assign =>
    intro l x W K hK
    have hv : x.val = .slice x.1.1.1 x.1.2.length x.1.1.2 := rfl
    dsimp only [hv]
    gi_wp2
    exact hK
  case body =>
    rintro l pre x W ⟨⟨⟨d, cs, hT, hOk⟩, hP, hS⟩, hB⟩ _
    have hx := x.2
    have hxl := hx.le
    have hxm := hx.max
    have h11 : 1 ≤ n - 1 - 1 := by omega
    have hF : (pre ++ [x]).map Piece.l = pre.map Piece.l ++ [x.1.2] := by simp [Piece.l]
    have hFl : sumS 4294967295 ((pre ++ [x]).map Piece.l).flatten = sumS (sumS 4294967295 (pre.map Piece.l).flatten) x.1.2 := by
      rw [hF, List.flatten_append, sumS_append]; simp
    have hs32 := sumS_lt (s := 4294967295) (by omega) (pre.map Piece.l).flatten
    have HF := Lib.hid hFl
    clear hF hFl
    generalize sumS 4294967295 (pre.map Piece.l).flatten = s0 at *
    have hz := hsz
    gi_wp2_with fail
    gi_loopw [15] (fun i wr => ∃ k : Nat, k ≤ x.1.2.length ∧ i = .int .i64 k ∧ (∃ d cs, BlkIs wr w.heap.size 186 cs ∧ TabOk d cs) ∧ BlkIs wr (w.heap.size + 1) 169 #[.pointer (some ⟨w.heap.size, 0, none⟩)] ∧ BlkIs wr (w.heap.size + 1 + 1) 45 #[.int .u32 (sumS s0 (x.1.2.take k) : Int)] ∧ Below w.heap.size W wr ∧ KeepsOthers W wr)
      (fun i _ => x.1.2.length - (intOf i).toNat)
    case atStart => exact ⟨0, by omega, rfl, ⟨d, cs, hT, hOk⟩, hP, hS, Below.refl _ _, KeepsOthers.refl _⟩
    case round =>
      obtain ⟨k, hk, rfl, ⟨d, cs, hT, hOk⟩, hP, hS, hBW, hKO⟩ := hrel
      by_cases hlt : k < x.1.2.length
      · obtain ⟨g, o, hA, hg, hc⟩ := hx.lies (by omega)
        have hck : wr.cell? ⟨g, o + k, none⟩ = some (.int .u8 (x.1.2[k].toNat : Int)) := ((hB.trans hBW).cell (p := ⟨g, o + k, none⟩) hg).trans (hc k hlt)
        have hsk := sumS_lt hs32 (x.1.2.take k)
        have hnext : sumS s0 (x.1.2.take (k + 1)) = stepC (sumS s0 (x.1.2.take k)) x.1.2[k] := by
          rw [List.take_succ_eq_append_getElem hlt, sumS_append]; rfl
        have HN := Lib.hid hnext
        clear hnext hc hs32
        generalize sumS s0 (x.1.2.take k) = sk at *
        have hcP := hP.boxed
        have hcS := hS.boxed
        rw [hA]
        have HA := Lib.hid hA
        clear hA
        gi_wp2_with (refine ⟨trivial, ?_⟩; gi_at_call 100; refine (CallsIn.inRound l (callsIn_wide.2 (step_gives w.heap.size d cs sk x.1.2[k] hsk _ hT hOk))).mono ?_; rintro e w' ⟨rfl, ⟨cs1, hb1, h1⟩, hg1⟩; have hS1 := hS.grown hg1 (by simp; omega); have hP1 := hP.grown hg1 (by simp); have hcS1 := hS1.boxed; have hfS1 := hS1.free 0)
        have hBw : Below w.heap.size wr w' := (Below.refl _ _).grown hg1 (by have := hT.lt; omega) (fun k hk => by cases hk; exact Nat.le_refl _)
        refine ⟨⟨k + 1, by omega, by go_num, ⟨1, cs1, hb1.other (by simp; omega) _, h1⟩, hP1.other (by simp) _, ?_, (hBW.trans hBw).setCell (p := ⟨w.heap.size + 1 + 1, 0, none⟩) (by simp; omega) _, (hKO.trans (hT.others hg1)).trans (KeepsOthers.setCell _ _ _)⟩, by simp [intOf]; omega⟩
        rw [HN.out]
        exact hS1.set 0 _
      · obtain rfl : k = x.1.2.length := by omega
        gi_wp2_with fail
        rw [List.take_length] at hS
        refine ⟨hKO.from _, hBW, ⟨⟨⟨d, cs, hT, hOk⟩, hP, ?_⟩, hB.trans hBW⟩⟩
        rw [HF.out]
        exact hS
  case done =>
    rintro D ys W hD rfl ⟨⟨hT, hP, hS⟩, hB⟩ hK
    have hcS := hS.boxed
    have hs32 := sumS_lt (s := 4294967295) (by omega) (ys.map Piece.l).flatten
    have hinv := xor_inv hs32
    gi_wp2
    refine ⟨by simp, .inl ⟨_, _, rfl, run_takeDeferred hK, ?_⟩⟩
    exact ⟨_, results_tmp rfl _ _ _, rfl, hB.trans (belowK_b (w := w) (Nat.le_refl _) W D _ _ (by omega) hK rfl rfl)⟩
  case stop =>
    rintro D c pre W _ _ h _
    exact h.elim

/-- octet.Sum, whatever lists of bytes. -/
theorem sum_gives (w : World) (A : Option Addr) (c : Nat) (zs : List (Piece w w.heap.size)) (hI : InLL w w.heap.size A c zs) :
    Calls Try.prog 29 #[.slice A zs.length c] w fun e W' => e = .returned (.int .u32 (sumL (zs.map Piece.l).flatten : Int)) ∧ Below w.heap.size w W' :=
  callsIn_wide.1 (sum_in 4 (Nat.le_refl _) w A c zs hI)

/-- .. of none, of one, of two, in a block just laid. -/
theorem sum0_gives (w : World) : Calls Try.prog 29 #[.slice none 0 0] w fun e W' => e = .returned (.int .u32 (sumL [] : Int)) ∧ Below w.heap.size w W' :=
  sum_gives w none 0 [] ⟨by simp, by omega, fun h => by simp at h⟩
theorem sum1_gives (W : World) (A : Option Addr) (c : Nat) (l : List UInt8) (hin : InB W W.heap.size A c l) :
    Calls Try.prog 29 #[.slice (some ⟨W.heap.size, 0, none⟩) 1 1] (W.alloc (.cells #[.slice A l.length c] 30)) fun e W' => e = .returned (.int .u32 (sumL l : Int)) ∧ Below W.heap.size W W' := by
  have hb : Below W.heap.size W (W.alloc (.cells #[.slice A l.length c] 30)) := (Below.refl _ _).alloc (Nat.le_refl _) _
  have h1 : InB (W.alloc (.cells #[.slice A l.length c] 30)) (W.alloc (.cells #[.slice A l.length c] 30)).heap.size A c l := (hin.below hb).more (by simp)
  have H := sum_gives (W.alloc (.cells #[.slice A l.length c] 30)) (some ⟨W.heap.size, 0, none⟩) 1 [⟨((A, c), l), h1⟩] ⟨by simp, by omega, fun _ => ⟨W.heap.size, 0, rfl, by simp, fun j hj => by
    obtain rfl : j = 0 := by simpa using hj
    exact new_cell _ _ _⟩⟩
  refine H.mono ?_
  rintro e W' ⟨rfl, hB⟩
  exact ⟨by simp [Piece.l], hb.trans (hB.mono (by simp))⟩
theorem sum2_gives (W : World) (A A2 : Option Addr) (c c2 : Nat) (l l2 : List UInt8) (hin : InB W W.heap.size A c l) (hin2 : InB W W.heap.size A2 c2 l2) :
    Calls Try.prog 29 #[.slice (some ⟨W.heap.size, 0, none⟩) 2 2] (W.alloc (.cells #[.slice A l.length c, .slice A2 l2.length c2] 30)) fun e W' => e = .returned (.int .u32 (sumL (l ++ l2) : Int)) ∧ Below W.heap.size W W' := by
  have hb : Below W.heap.size W (W.alloc (.cells #[.slice A l.length c, .slice A2 l2.length c2] 30)) := (Below.refl _ _).alloc (Nat.le_refl _) _
  have h1 : InB (W.alloc (.cells #[.slice A l.length c, .slice A2 l2.length c2] 30)) (W.alloc (.cells #[.slice A l.length c, .slice A2 l2.length c2] 30)).heap.size A c l := (hin.below hb).more (by simp)
  have h2 : InB (W.alloc (.cells #[.slice A l.length c, .slice A2 l2.length c2] 30)) (W.alloc (.cells #[.slice A l.length c, .slice A2 l2.length c2] 30)).heap.size A2 c2 l2 := (hin2.below hb).more (by simp)
  have hbk := BlkIs.new W 30 #[.slice A l.length c, .slice A2 l2.length c2]
  have H := sum_gives (W.alloc (.cells #[.slice A l.length c, .slice A2 l2.length c2] 30)) (some ⟨W.heap.size, 0, none⟩) 2 [⟨((A, c), l), h1⟩, ⟨((A2, c2), l2), h2⟩] ⟨by simp, by omega, fun _ => ⟨W.heap.size, 0, rfl, by simp, fun j hj => by
    rw [hbk.cell]
    rcases (show j = 0 ∨ j = 1 from by simp at hj; omega) with rfl | rfl
    · rfl
    · rfl⟩⟩
  refine H.mono ?_
  rintro e W' ⟨rfl, hB⟩
  exact ⟨by simp [Piece.l], hb.trans (hB.mono (by simp))⟩
end Go.Proofs.Ytlelckdcmlpmdaa
/- octet.Numbers: what its function goes through. -/
namespace Lou
/-- The numbers read in order from the start, and where the next would stand. -/
inductive Run (l : List UInt8) : List (Nat × Nat) → Nat → Prop
  | nil : Run l [] 0
  | snoc {pre : List (Nat × Nat)} {p v u : Nat} : Run l pre p → rd (l.drop p) = some (v, u) → Run l (pre ++ [(p, v)]) (p + u)
theorem Run.le {l : List UInt8} {pre : List (Nat × Nat)} {p : Nat} (h : Run l pre p) : pre.length ≤ p ∧ p ≤ l.length := by
  induction h with
  | nil => simp
  | snoc _ hr ih =>
    have := rd_bound hr
    simp at this ⊢
    omega
theorem Run.inv {l : List UInt8} {r : List (Nat × Nat)} {q : Nat} (h : Run l r q) : (r = [] ∧ q = 0) ∨ ∃ pre p v u, r = pre ++ [(p, v)] ∧ q = p + u ∧ Run l pre p ∧ rd (l.drop p) = some (v, u) := by
  cases h with
  | nil => exact .inl ⟨rfl, rfl⟩
  | snoc h hr => exact .inr ⟨_, _, _, _, rfl, rfl, h, hr⟩
theorem Run.det {l : List UInt8} {pre : List (Nat × Nat)} {p : Nat} (h : Run l pre p) : ∀ {q}, Run l pre q → p = q := by
  induction h with
  | nil =>
    intro q hq
    rcases hq.inv with ⟨_, e⟩ | ⟨pre, p, v, u, e, _⟩
    · exact e.symm
    · simp at e
  | snoc h hr ih =>
    intro q hq
    rcases hq.inv with ⟨e, _⟩ | ⟨pre', p', v', u', e, rfl, h', hr'⟩
    · simp at e
    · have e1 := List.append_inj' e rfl
      obtain ⟨rfl, e2⟩ := e1
      simp only [List.cons.injEq, Prod.mk.injEq, and_true] at e2
      obtain ⟨rfl, rfl⟩ := e2
      rw [hr] at hr'
      injection hr' with e3
      injection e3 with _ e4
      rw [e4]
/-- What stands next is the only one that goes on. -/
theorem Run.next {l : List UInt8} {pre : List (Nat × Nat)} {p : Nat} (h : Run l pre p) {x : Nat × Nat} {q : Nat} (h' : Run l (pre ++ [x]) q) : ∃ u, x.1 = p ∧ rd (l.drop p) = some (x.2, u) ∧ q = p + u := by
  rcases h'.inv with ⟨e, _⟩ | ⟨pre', p', v', u', e, rfl, h2, hr'⟩
  · simp at e
  · have e1 := List.append_inj' e rfl
    obtain ⟨rfl, e2⟩ := e1
    simp only [List.cons.injEq, and_true] at e2
    subst e2
    have := h.det h2
    subst this
    exact ⟨u', rfl, hr', rfl⟩
end Lou
namespace Go.Proofs.Ytlelckdcmlpmdaa
open Go Go.RowKit Lou Go.Shelf
attribute [local go_sem] Oper.semAt_some

theorem wrap_i64_id' (n : Int) (h0 : -9223372036854775808 ≤ n) (h1 : n < 9223372036854775808) : IntKind.i64.wrap n = n := by
  simp [IntKind.wrap, IntKind.bits, IntKind.signed]
  split <;> omega
theorem rdV_some' {l : List UInt8} {n k : Nat} (h : rd l = some (n, k)) : rdV l = .tuple #[.int .u64 n, .int .i64 k, .int .i64 0] := rdV_some h
theorem rdV_none' {l : List UInt8} (h : rd l = none) : ∃ e : Int, e ≠ 0 ∧ rdV l = .tuple #[.int .u64 0, .int .i64 0, .int .i64 e] := ⟨130, by decide, rdV_none h⟩

theorem wpIn_scope_wide {P : Program} {n : Nat} {c : Code} {Q : Exit → Act → World → Prop} {a : Act} {w : World} (h : c.wpIn Fence.wide n P (Exit.noGoto Q) a w) : (Code.scope c).wpIn Fence.wide n P Q a w := wpIn_wide.2 (wp_scope_straight (wpIn_wide.1 h))
section
variable {w0 : World} {n₀ : Nat}

set_option maxRecDepth 100000 in
set_option maxHeartbeats 2000000 in
theorem numbers1_in (n : Nat) (hn2 : 2 ≤ n) (l Bs : Nat) (A : Option Addr) (c : Nat) (b : List UInt8) (J Jx : List (Nat × Nat) → World → Prop)
    (hY : ∀ pre x W, J pre W → pre.length < b.length → YieldAt Fence.wide (n - 1) Try.prog l #[.int .i64 (x.1 : Int), .int .u64 (x.2 : Int)] W fun e W' =>
      (e = .returned (.bool true) ∧ J (pre ++ [x]) W' ∧ Below n₀ W W') ∨ (e = .returned (.bool false) ∧ Jx (pre ++ [x]) W'))
    (W : World) (hBn : Bs < n₀) (hBs : W.cell? ⟨Bs, 0, none⟩ = some (.slice A b.length c)) (hin : InB W n₀ A c b) (h0 : J [] W) :
    CallsIn Fence.wide n Try.prog 101 #[.func (.yield l) #[] #[], .pointer (some ⟨Bs, 0, none⟩)] W fun e W' => (∃ v, e = .returned v) ∧
      ((∃ ys, (∃ p, Run b ys p ∧ (p < b.length → rd (b.drop p) = none)) ∧ J ys W') ∨ (∃ pre, (∃ p, Run b pre p) ∧ Jx pre W')) := by
  have hle := hin.le
  have hmax := hin.max
  have h1 : 1 ≤ n := by omega
  refine callsIn_of_wp Try.func101 rfl trivial ?_ rfl
  simp only [Try.ntmps101, List.size_toArray, List.length_cons, List.length_nil, Nat.reduceAdd, Nat.reduceSub, Array.replicate_succ, Array.replicate_zero, List.push_toArray, List.append_toArray, List.nil_append, List.cons_append]
  refine wpIn_scope_wide ?_
  gi_wp2
  refine wpIn_label ?_
  gi_wp2
  gi_loopw [3] (fun i wr => ∃ (p : Nat) (pre : List (Nat × Nat)), p ≤ b.length ∧ i = .int .i64 p ∧ Run b pre p ∧ J pre wr ∧ Below n₀ W wr)
    (fun i _ => b.length - (intOf i).toNat)
  case atStart => exact ⟨0, [], Nat.zero_le _, rfl, .nil, h0, Below.refl _ _⟩
  case round =>
    obtain ⟨p, pre, hp, rfl, hrun, hJs, hnx⟩ := hrel
    have hcx : wr.cell? ⟨Bs, 0, none⟩ = some (.slice A b.length c) := (hnx.cell (p := ⟨Bs, 0, none⟩) hBn).trans hBs
    by_cases hlt : p < b.length
    · have hcm : cutA A c p = Option.map (fun x => x.add p) A := if_neg (by omega)
      have hind := (hin.below hnx).drop p hp
      have hpl := hrun.le.1
      rw [hcm] at hind
      clear hcm
      rcases hrd : rd (b.drop p) with _ | ⟨v, u⟩
      · obtain ⟨e, he, hv⟩ := rdV_none' hrd
        have H := readNumber_gives wr n₀ _ (c - p) (b.drop p) hind
        rw [hv, List.length_drop] at H
        gi_wp2_with (refine ⟨trivial, ?_⟩; gi_at_call 38; refine (callsIn_wide.2 H).mono ?_; rintro e' w' ⟨rfl, rfl⟩)
        refine ⟨fun _ h => (by cases h), ?_⟩
        gi_wp2
        simp only [Exit.noGoto]
        go_end0
        exact ⟨⟨_, rfl⟩, .inl ⟨pre, ⟨p, hrun, fun _ => hrd⟩, hJs⟩⟩
      · have hbd := rd_bound hrd
        have hbl : (b.drop p).length = b.length - p := List.length_drop
        have H := readNumber_gives wr n₀ _ (c - p) (b.drop p) hind
        rw [rdV_some' hrd, List.length_drop] at H
        obtain ⟨fn, tmps, assign, body, hy, hR⟩ := hY pre (p, v) wr hJs (by omega)
        have hwr : IntKind.i64.wrap ((p : Int) + (u : Int)) = (p : Int) + (u : Int) := wrap_i64_id' _ (by omega) (by omega)
        gi_wp2_with (first | (refine ⟨trivial, ?_⟩; gi_at_call 38; refine (callsIn_wide.2 H).mono ?_; rintro e' w' ⟨rfl, rfl⟩))
        refine hR.mono ?_
        rintro e W3 (⟨rfl, hJ3, hk3⟩ | ⟨rfl, hJx3⟩)
        · gi_wp2
          go_roundw
          case rel => exact ⟨p + u, pre ++ [(p, v)], by omega, by simp, .snoc hrun hrd, hJ3, hnx.trans hk3⟩
          case measure => simp [intOf]; omega
        · gi_wp2
          simp only [Exit.noGoto]
          go_end0
          exact ⟨⟨_, rfl⟩, .inr ⟨_, ⟨_, .snoc hrun hrd⟩, hJx3⟩⟩
    · obtain rfl : p = b.length := by omega
      gi_wp2
      simp only [Exit.noGoto]
      go_end0
      exact ⟨⟨_, rfl⟩, .inl ⟨pre, ⟨_, hrun, fun h => by omega⟩, hJs⟩⟩

theorem numbers_stops (n : Nat) (hn2 : 2 ≤ n) (Bs : Nat) (A : Option Addr) (c : Nat) (b : List UInt8) (hin : InB w0 n₀ A c b) (w : World) (hb0 : Below n₀ w0 w) (hBs : Bs < n₀) (hn₀ : n₀ ≤ w.heap.size)
    (hc : w.cell? ⟨Bs, 0, none⟩ = some (.slice A b.length c)) :
    SeqStopsK Fence.wide n Try.prog 101 #[.pointer (some ⟨Bs, 0, none⟩)] (fun x : Nat × Nat => #[.int .i64 (x.1 : Int), .int .u64 (x.2 : Int)]) (Below n₀)
      (fun ys => ∃ p, Run b ys p ∧ (p < b.length → rd (b.drop p) = none)) (fun pre => ∃ p, Run b pre p) b.length w := fun l J Jx W hW _ _ hY h0 =>
  numbers1_in n hn2 l Bs A c b J Jx hY W hBs ((hW.cell (p := ⟨Bs, 0, none⟩) (by simp; omega)).trans hc) (hin.below (hb0.trans (hW.mono hn₀))) h0
end
set_option maxHeartbeats 1000000 in
theorem numbers_in (n : Nat) (a : Option Addr) (len cap : Nat) (w : World) :
    CallsIn Fence.wide n Try.prog 30 #[.slice a len cap] w fun e w' => e = .returned (.func (.func 101) #[] #[.pointer (some ⟨w.heap.size, 0, none⟩)]) ∧ w.alloc (.cells #[.slice a len cap] 30) = w' := by
  refine callsIn_of_wp Try.func30 rfl trivial ?_ rfl
  simp only [Try.ntmps30, List.size_toArray, List.length_cons, List.length_nil, Nat.reduceAdd, Nat.reduceSub, Array.replicate_succ, Array.replicate_zero, List.push_toArray, List.append_toArray, List.nil_append, List.cons_append]
  gi_wp2
  go_ret
  exact ⟨rfl, rfl⟩
theorem wpIn_by_stop {F : Fence} {n : Nat} {P : Program} {C : Code} {Q : Exit → Act → World → Prop} {a0 : Act} {w0 : World} (S : Act → Act → World → Prop) (h1 : ∀ Q', (∀ a w, S a0 a w → Q' .normal a w) → C.wpIn F n P Q' a0 w0) (h2 : ∀ a w, S a0 a w → Q .normal a w) : C.wpIn F n P Q a0 w0 := h1 Q h2
end Go.Proofs.Ytlelckdcmlpmdaa
/- octet.Four, Eight and what they call; louperef03.Fixed: fixed bytes. -/
namespace Go.Proofs.Ytlelckdcmlpmdaa
open Go Go.RowKit Lou

set_option maxRecDepth 100000 in
theorem four1_gives (n b : Nat) (hb : b ≤ 31) (w : World) : Calls Try.prog 106 #[.int .u32 n, .int .i64 b] w fun e w' => e = .returned (.int .u8 ((n / 2 ^ b % 256 : Nat) : Int)) ∧ w = w' := by
  go_enter Try.func106, Try.ntmps106
  go_wp2
  go_ret
  exact ⟨by simp, rfl⟩

set_option maxRecDepth 100000 in
theorem eight1_gives (n b : Nat) (hb : b ≤ 63) (w : World) : Calls Try.prog 108 #[.int .u64 n, .int .i64 b] w fun e w' => e = .returned (.int .u8 ((n / 2 ^ b % 256 : Nat) : Int)) ∧ w = w' := by
  go_enter Try.func108, Try.ntmps108
  go_wp2
  go_ret
  exact ⟨by simp, rfl⟩

/-- What fixed has told when k bytes are still to come. -/
def FixAt (m n k : Nat) (pre : List UInt8) : Prop := pre ++ fixL k n = fixL m n ∧ pre.length + k = m
theorem FixAt.start (m n : Nat) : FixAt m n m [] := ⟨rfl, by simp⟩
theorem FixAt.next {m n k : Nat} {pre : List UInt8} (h : FixAt m n (k + 1) pre) : FixAt m n k (pre ++ [UInt8.ofNat (n / 2 ^ (8 * k) % 256)]) := by
  refine ⟨?_, by have := h.2; simp; omega⟩
  rw [← h.1, fixL_succ, List.append_assoc, List.singleton_append]
  congr 2
  apply UInt8.toNat_inj.1
  rw [show (256 : Nat) ^ k = 2 ^ (8 * k) from by rw [Nat.pow_mul]]
  simp [UInt8.toNat_ofNat']
theorem FixAt.last {m n : Nat} {pre : List UInt8} (h : FixAt m n 0 pre) : pre = fixL m n := by
  have := h.1
  simpa [fixL] using this

set_option maxRecDepth 100000 in
set_option maxHeartbeats 1000000 in
theorem fixed32_gives (m n : Nat) (hm : m ≤ 4) (w : World) : Calls Try.prog 105 #[.int .u32 n, .int .i64 m, .func (.func 106) #[] #[]] w (GivesB w (fixL m n)) := by
  obtain ⟨i0, hi, hz0, hz1, hz2⟩ := info_parts inf_u8
  go_enter Try.func105, Try.ntmps105
  go_wp2_with fail
  go_loopw [6, 7] (fun v i wr => ∃ (k : Nat) (pre : List UInt8), Hid (FixAt m n k pre) ∧ pre.length ≤ m ∧ k ≤ m ∧ i = .int .i64 ((k : Int) - 1) ∧ OwnB wr w.heap.size v pre ∧ Below w.heap.size w wr)
    (fun _ i _ => (intOf i + 1).toNat)
  case atStart => exact ⟨m, [], Lib.hid (FixAt.start m n), by simp, by omega, rfl, OwnB.nil _ _, Below.refl _ _⟩
  case round =>
    obtain ⟨k, pre, hF, hl, hk, rfl, hown, hB⟩ := hrel
    have hBs := hB.size
    rcases k with _ | k
    · have hi0 : ((0 : Nat) : Int) - 1 < 0 := by omega
      go_wp2_with fail
      go_ret
      have e := hF.out.last
      subst e
      exact ⟨_, rfl, hown, hB⟩
    · have e1 : (((k + 1 : Nat) : Int) - 1) = (k : Int) := by omega
      rw [e1]
      clear e1
      go_wp2_with fail
      rw [show (8 * (k : Int)) = ((8 * k : Nat) : Int) from by omega]
      refine (four1_gives n (8 * k) (by omega) _).mono ?_
      rintro e w' ⟨rfl, rfl⟩
      have hb8 : n / 2 ^ (8 * k) % 256 < 256 := by omega
      generalize hx : n / 2 ^ (8 * k) % 256 = x at *
      have hX := Lib.hid hx
      clear hx
      go_wp2_with (at_builtin; refine wpList_append_own _ rfl _ _ 30 rfl w.heap.size 5 i0 (.int .u8 0) 1 1 Try.underlying30 hi hz0 hz1 hz2 rfl (by decide) _ _ _ rfl (World.ownsRow.alloc hown _) ⟨wr.heap.size, 0, none⟩ 1 1 _ rfl rfl (cell_one_new _ _ _) (by simp [Value.oneCell']) (by unfold maxLen; omega) (by omega) (by simp; omega) ?_; intro v' w1 hown' hgrow _)
      have hNx := hF.out.next
      rw [hX.out] at hNx
      rw [map_snoc_b8 pre x hb8] at hown'
      refine ⟨⟨k, pre ++ [UInt8.ofNat x], Lib.hid hNx, ?_, by omega, rfl, ?_, (hB.alloc hBs _).grown hgrow (by simp; omega) (fun k hk => (World.ownsRow.lt hown k hk).1)⟩, by simp [intOf]⟩
      · have := hNx.2; omega
      · unfold OwnB
        simpa using hown'

set_option maxRecDepth 100000 in
set_option maxHeartbeats 1000000 in
theorem fixed64_gives (m n : Nat) (hm : m ≤ 8) (w : World) : Calls Try.prog 107 #[.int .u64 n, .int .i64 m, .func (.func 108) #[] #[]] w (GivesB w (fixL m n)) := by
  obtain ⟨i0, hi, hz0, hz1, hz2⟩ := info_parts inf_u8
  go_enter Try.func107, Try.ntmps107
  go_wp2_with fail
  go_loopw [6, 7] (fun v i wr => ∃ (k : Nat) (pre : List UInt8), Hid (FixAt m n k pre) ∧ pre.length ≤ m ∧ k ≤ m ∧ i = .int .i64 ((k : Int) - 1) ∧ OwnB wr w.heap.size v pre ∧ Below w.heap.size w wr)
    (fun _ i _ => (intOf i + 1).toNat)
  case atStart => exact ⟨m, [], Lib.hid (FixAt.start m n), by simp, by omega, rfl, OwnB.nil _ _, Below.refl _ _⟩
  case round =>
    obtain ⟨k, pre, hF, hl, hk, rfl, hown, hB⟩ := hrel
    have hBs := hB.size
    rcases k with _ | k
    · have hi0 : ((0 : Nat) : Int) - 1 < 0 := by omega
      go_wp2_with fail
      go_ret
      have e := hF.out.last
      subst e
      exact ⟨_, rfl, hown, hB⟩
    · have e1 : (((k + 1 : Nat) : Int) - 1) = (k : Int) := by omega
      rw [e1]
      clear e1
      go_wp2_with fail
      rw [show (8 * (k : Int)) = ((8 * k : Nat) : Int) from by omega]
      refine (eight1_gives n (8 * k) (by omega) _).mono ?_
      rintro e w' ⟨rfl, rfl⟩
      have hb8 : n / 2 ^ (8 * k) % 256 < 256 := by omega
      generalize hx : n / 2 ^ (8 * k) % 256 = x at *
      have hX := Lib.hid hx
      clear hx
      go_wp2_with (at_builtin; refine wpList_append_own _ rfl _ _ 30 rfl w.heap.size 5 i0 (.int .u8 0) 1 1 Try.underlying30 hi hz0 hz1 hz2 rfl (by decide) _ _ _ rfl (World.ownsRow.alloc hown _) ⟨wr.heap.size, 0, none⟩ 1 1 _ rfl rfl (cell_one_new _ _ _) (by simp [Value.oneCell']) (by unfold maxLen; omega) (by omega) (by simp; omega) ?_; intro v' w1 hown' hgrow _)
      have hNx := hF.out.next
      rw [hX.out] at hNx
      rw [map_snoc_b8 pre x hb8] at hown'
      refine ⟨⟨k, pre ++ [UInt8.ofNat x], Lib.hid hNx, ?_, by omega, rfl, ?_, (hB.alloc hBs _).grown hgrow (by simp; omega) (fun k hk => (World.ownsRow.lt hown k hk).1)⟩, by simp [intOf]⟩
      · have := hNx.2; omega
      · unfold OwnB
        simpa using hown'

/-- octet.Four -/
theorem four_gives (n : Nat) (w : World) : Calls Try.prog 43 #[.int .u32 n] w (GivesB w (fixL 4 n)) := by
  go_enter Try.func43, Try.ntmps43
  go_wp2_with fail
  refine (fixed32_gives 4 n (by omega) _).mono ?_
  rintro e w' ⟨v, rfl, h1, h2⟩
  go_wp2
  go_ret
  exact ⟨v, rfl, h1, h2⟩

/-- octet.Eight -/
theorem eight_gives (n : Nat) (w : World) : Calls Try.prog 45 #[.int .u64 n] w (GivesB w (fixL 8 n)) := by
  go_enter Try.func45, Try.ntmps45
  go_wp2_with fail
  refine (fixed64_gives 8 n (by omega) _).mono ?_
  rintro e w' ⟨v, rfl, h1, h2⟩
  go_wp2
  go_ret
  exact ⟨v, rfl, h1, h2⟩
end Go.Proofs.Ytlelckdcmlpmdaa
/- loupelaw03.works: the chapter's rows. -/
namespace Go.Proofs.Ytlelckdcmlpmdaa
open Go Go.RowKit Lou

theorem num3_gives (e : Int) (w : World) : Calls Try.prog 36 #[.int .i64 e] w fun x w' => x = .returned (.int .i64 e) ∧ w = w' := by
  go_enter Try.func36, Try.ntmps36
  go_wp2
  go_ret
  exact ⟨rfl, rfl⟩

theorem num300 : num 300 = [172, 2] := by decide +kernel
theorem rd_a : rd [128, 0] = none := by decide +kernel
theorem rd_b : rd [172, 2, 7] = some (300, 2) := by decide +kernel
theorem rdV_b : rdV [172, 2, 7] = .tuple #[.int .u64 300, .int .i64 2, .int .i64 0] := rdV_some rd_b
theorem fix258 : fixL 4 258 = [0, 0, 1, 2] := by decide +kernel
theorem strab : strL [97, 98] = [2, 97, 98] := by decide +kernel
theorem sum19 : sumL [49, 50, 51, 52, 53, 54, 55, 56, 57] = 3421780262 := by decide +kernel
theorem sum0 : sumL [] = 0 := by decide +kernel

theorem OwnB.toStr {w : World} {base : Nat} {v : Value} {l : List UInt8} (h : OwnB w base v l) : (convert 30 9 v).run Try.prog w = .ok (.string (str l)) w := by
  obtain ⟨A, c, rfl, hin⟩ := h.inB
  exact hin.string

set_option maxRecDepth 100000 in
set_option maxHeartbeats 4000000 in
theorem works3_gives (w : World) : Calls Try.prog 27 #[] w fun e w' => e = .returned (.bool true) ∧ Below w.heap.size w w' := by
  have hb0 : Below w.heap.size w w := Below.refl _ _
  go_enter Try.func27, Try.ntmps27
  go_wp2_with fail
  have hb1 : Below w.heap.size w (w.alloc (.cells #[.int .u8 128, .int .u8 0] 5)) := (Below.refl _ _).alloc (Nat.le_refl _) _
  have i1 : InB (w.alloc (.cells #[.int .u8 128, .int .u8 0] 5)) (w.heap.size + 1) (some ⟨w.heap.size, 0, none⟩) 2 [128, 0] := BlkIs.inB (l := [128, 0]) (BlkIs.new w 5 #[.int .u8 128, .int .u8 0]) _ (by omega) (by simp)
  have H1 := readNumber_gives _ _ _ _ _ i1
  rw [rdV_none rd_a] at H1
  refine H1.mono ?_
  clear H1 i1
  rintro e w' ⟨rfl, rfl⟩
  generalize w.alloc (.cells #[.int .u8 128, .int .u8 0] 5) = w1 at *
  go_wp2_with fail
  have hb2 : Below w.heap.size w (w1.alloc (.cells #[.int .u8 172, .int .u8 2, .int .u8 7] 5)) := hb1.alloc hb1.size _
  have i1 : InB (w1.alloc (.cells #[.int .u8 172, .int .u8 2, .int .u8 7] 5)) (w1.heap.size + 1) (some ⟨w1.heap.size, 0, none⟩) 3 [172, 2, 7] := BlkIs.inB (l := [172, 2, 7]) (BlkIs.new w1 5 #[.int .u8 172, .int .u8 2, .int .u8 7]) _ (by omega) (by simp)
  have H1 := readNumber_gives _ _ _ _ _ i1
  rw [rdV_b] at H1
  refine H1.mono ?_
  clear H1 i1 hb1
  rintro e w' ⟨rfl, rfl⟩
  generalize w1.alloc (.cells #[.int .u8 172, .int .u8 2, .int .u8 7] 5) = w2 at *
  go_wp2_with fail
  refine (number_gives 300 (by omega) _).mono ?_
  rintro e w3 ⟨v, rfl, hown, hB⟩
  have hb3 := hb2.trans (hB.mono hb2.size)
  have hst := hown.toStr
  rw [num300] at hst
  clear hown hB hb2
  have hs1 : str [172, 2] = ⟨#[172, 2]⟩ := rfl
  go_wp2_with (go_at_call 36; refine (num3_gives _ _).mono ?_; rintro e w' ⟨rfl, rfl⟩)
  clear hst hs1
  refine (four_gives 258 _).mono ?_
  rintro e w4 ⟨v4, rfl, hown, hB⟩
  have hb4 := hb3.trans (hB.mono hb3.size)
  have hst := hown.toStr
  rw [fix258] at hst
  clear hown hB hb3
  have hs1 : str [0, 0, 1, 2] = ⟨#[0, 0, 1, 2]⟩ := rfl
  go_wp2_with fail
  clear hst hs1
  refine (string_gives [97, 98] (by simp) _).mono ?_
  rintro e w5 ⟨v5, rfl, hown, hB⟩
  have hb5 := hb4.trans (hB.mono hb4.size)
  have hst := hown.toStr
  rw [strab] at hst
  clear hown hB hb4
  have hs1 : str [2, 97, 98] = ⟨#[2, 97, 98]⟩ := rfl
  have kc := fun (w : World) (C : Array Value) (n c : Nat) => Lib.run_convert_bytes_const (P := Try.prog) w 30 5 C n c Try.underlying30 Try.underlying5
  go_wp2_with fail
  clear hst hs1 kc
  have hb6 : Below w.heap.size w (w5.alloc (.cells #[.int .u8 49, .int .u8 50, .int .u8 51, .int .u8 52, .int .u8 53, .int .u8 54, .int .u8 55, .int .u8 56, .int .u8 57] 5 (9, 10))) := hb5.alloc hb5.size _
  have i1 : InB (w5.alloc (.cells #[.int .u8 49, .int .u8 50, .int .u8 51, .int .u8 52, .int .u8 53, .int .u8 54, .int .u8 55, .int .u8 56, .int .u8 57] 5 (9, 10))) (w5.alloc (.cells #[.int .u8 49, .int .u8 50, .int .u8 51, .int .u8 52, .int .u8 53, .int .u8 54, .int .u8 55, .int .u8 56, .int .u8 57] 5 (9, 10))).heap.size (some ⟨w5.heap.size, 0, none⟩) 9 [49, 50, 51, 52, 53, 54, 55, 56, 57] :=
    inB_row (l := [49, 50, 51, 52, 53, 54, 55, 56, 57]) (heap_alloc_new w5 _) _ (by simp) (by simp)
  have H1 := sum1_gives _ _ _ _ i1
  rw [sum19, World.size_alloc] at H1
  refine H1.mono ?_
  clear H1 i1 hb5
  rintro e w7 ⟨rfl, hB⟩
  have hb7 := hb6.trans (hB.mono (by have := hb6.size; simpa using this))
  clear hb6 hB
  go_wp2_with fail
  have H1 := sum0_gives w7
  rw [sum0] at H1
  refine H1.mono ?_
  clear H1
  rintro e w8 ⟨rfl, hB⟩
  have hb8 := hb7.trans (hB.mono hb7.size)
  go_wp2_with fail
  go_ret
  exact ⟨rfl, hb8⟩
end Go.Proofs.Ytlelckdcmlpmdaa
