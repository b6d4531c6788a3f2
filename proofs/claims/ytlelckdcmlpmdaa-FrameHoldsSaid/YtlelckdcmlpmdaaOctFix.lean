/- octet.Four, Eight and what they call; louperef03.Fixed: fixed bytes. -/
import Derived.Test.YtlelckdcmlpmdaaOctNum
namespace Go.Proofs.Ytlelckdcmlpmdaa
open Go Go.RowKit Lou

set_option maxRecDepth 100000 in
theorem four1_gives (n b : Nat) (hb : b ≤ 31) (w : World) : Calls Try.prog 106 #[.int .u32 n, .int .i64 b] w fun e w' => e = .returned (.int .u8 ((n / 2 ^ b % 256 : Nat) : Int)) ∧ w = w' := by
  go_enter Try.func106, Try.ntmps106
  go_wp2
  go_ret
  exact ⟨by simp, rfl⟩

set_option maxRecDepth 100000 in
theorem eight1_gives (n b : Nat) (hb : b ≤ 63) (w : World) : Calls Try.prog 108 #[.int .u64 n, .int .i64 b] w fun e w' => e = .returned (.int .u8 ((n / 2 ^ b % 256 : Nat) : Int)) ∧ w = w' := by
  go_enter Try.func108, Try.ntmps108
  go_wp2
  go_ret
  exact ⟨by simp, rfl⟩

/-- What fixed has told when k bytes are still to come. -/
def FixAt (m n k : Nat) (pre : List UInt8) : Prop := pre ++ fixL k n = fixL m n ∧ pre.length + k = m
theorem FixAt.start (m n : Nat) : FixAt m n m [] := ⟨rfl, by simp⟩
theorem FixAt.next {m n k : Nat} {pre : List UInt8} (h : FixAt m n (k + 1) pre) : FixAt m n k (pre ++ [UInt8.ofNat (n / 2 ^ (8 * k) % 256)]) := by
  refine ⟨?_, by have := h.2; simp; omega⟩
  rw [← h.1, fixL_succ, List.append_assoc, List.singleton_append]
  congr 2
  apply UInt8.toNat_inj.1
  rw [show (256 : Nat) ^ k = 2 ^ (8 * k) from by rw [Nat.pow_mul]]
  simp [UInt8.toNat_ofNat']
theorem FixAt.last {m n : Nat} {pre : List UInt8} (h : FixAt m n 0 pre) : pre = fixL m n := by
  have := h.1
  simpa [fixL] using this

set_option maxRecDepth 100000 in
set_option maxHeartbeats 1000000 in
theorem fixed32_gives (m n : Nat) (hm : m ≤ 4) (w : World) : Calls Try.prog 105 #[.int .u32 n, .int .i64 m, .func (.func 106) #[] #[]] w (GivesB w (fixL m n)) := by
  obtain ⟨i0, hi, hz0, hz1, hz2⟩ := info_parts inf_u8
  go_enter Try.func105, Try.ntmps105
  go_wp2_with fail
  go_loopw [6, 7] (fun v i wr => ∃ (k : Nat) (pre : List UInt8), Hid (FixAt m n k pre) ∧ pre.length ≤ m ∧ k ≤ m ∧ i = .int .i64 ((k : Int) - 1) ∧ OwnB wr w.heap.size v pre ∧ Below w.heap.size w wr)
    (fun _ i _ => (intOf i + 1).toNat)
  case atStart => exact ⟨m, [], Lib.hid (FixAt.start m n), by simp, by omega, rfl, OwnB.nil _ _, Below.refl _ _⟩
  case round =>
    obtain ⟨k, pre, hF, hl, hk, rfl, hown, hB⟩ := hrel
    have hBs := hB.size
    rcases k with _ | k
    · have hi0 : ((0 : Nat) : Int) - 1 < 0 := by omega
      go_wp2_with fail
      go_ret
      have e := hF.out.last
      subst e
      exact ⟨_, rfl, hown, hB⟩
    · have e1 : (((k + 1 : Nat) : Int) - 1) = (k : Int) := by omega
      rw [e1]
      clear e1
      go_wp2_with fail
      rw [show (8 * (k : Int)) = ((8 * k : Nat) : Int) from by omega]
      refine (four1_gives n (8 * k) (by omega) _).mono ?_
      rintro e w' ⟨rfl, rfl⟩
      have hb8 : n / 2 ^ (8 * k) % 256 < 256 := by omega
      generalize hx : n / 2 ^ (8 * k) % 256 = x at *
      have hX := Lib.hid hx
      clear hx
      go_wp2_with (at_builtin; refine wpList_append_own _ rfl _ _ 30 rfl w.heap.size 5 i0 (.int .u8 0) 1 1 Try.underlying30 hi hz0 hz1 hz2 rfl (by decide) _ _ _ rfl (World.ownsRow.alloc hown _) ⟨wr.heap.size, 0, none⟩ 1 1 _ rfl rfl (cell_one_new _ _ _) (by simp [Value.oneCell']) (by unfold maxLen; omega) (by omega) (by simp; omega) ?_; intro v' w1 hown' hgrow _)
      have hNx := hF.out.next
      rw [hX.out] at hNx
      rw [map_snoc_b8 pre x hb8] at hown'
      refine ⟨⟨k, pre ++ [UInt8.ofNat x], Lib.hid hNx, ?_, by omega, rfl, ?_, (hB.alloc hBs _).grown hgrow (by simp; omega) (fun k hk => (World.ownsRow.lt hown k hk).1)⟩, by simp [intOf]⟩
      · have := hNx.2; omega
      · unfold OwnB
        simpa using hown'

set_option maxRecDepth 100000 in
set_option maxHeartbeats 1000000 in
theorem fixed64_gives (m n : Nat) (hm : m ≤ 8) (w : World) : Calls Try.prog 107 #[.int .u64 n, .int .i64 m, .func (.func 108) #[] #[]] w (GivesB w (fixL m n)) := by
  obtain ⟨i0, hi, hz0, hz1, hz2⟩ := info_parts inf_u8
  go_enter Try.func107, Try.ntmps107
  go_wp2_with fail
  go_loopw [6, 7] (fun v i wr => ∃ (k : Nat) (pre : List UInt8), Hid (FixAt m n k pre) ∧ pre.length ≤ m ∧ k ≤ m ∧ i = .int .i64 ((k : Int) - 1) ∧ OwnB wr w.heap.size v pre ∧ Below w.heap.size w wr)
    (fun _ i _ => (intOf i + 1).toNat)
  case atStart => exact ⟨m, [], Lib.hid (FixAt.start m n), by simp, by omega, rfl, OwnB.nil _ _, Below.refl _ _⟩
  case round =>
    obtain ⟨k, pre, hF, hl, hk, rfl, hown, hB⟩ := hrel
    have hBs := hB.size
    rcases k with _ | k
    · have hi0 : ((0 : Nat) : Int) - 1 < 0 := by omega
      go_wp2_with fail
      go_ret
      have e := hF.out.last
      subst e
      exact ⟨_, rfl, hown, hB⟩
    · have e1 : (((k + 1 : Nat) : Int) - 1) = (k : Int) := by omega
      rw [e1]
      clear e1
      go_wp2_with fail
      rw [show (8 * (k : Int)) = ((8 * k : Nat) : Int) from by omega]
      refine (eight1_gives n (8 * k) (by omega) _).mono ?_
      rintro e w' ⟨rfl, rfl⟩
      have hb8 : n / 2 ^ (8 * k) % 256 < 256 := by omega
      generalize hx : n / 2 ^ (8 * k) % 256 = x at *
      have hX := Lib.hid hx
      clear hx
      go_wp2_with (at_builtin; refine wpList_append_own _ rfl _ _ 30 rfl w.heap.size 5 i0 (.int .u8 0) 1 1 Try.underlying30 hi hz0 hz1 hz2 rfl (by decide) _ _ _ rfl (World.ownsRow.alloc hown _) ⟨wr.heap.size, 0, none⟩ 1 1 _ rfl rfl (cell_one_new _ _ _) (by simp [Value.oneCell']) (by unfold maxLen; omega) (by omega) (by simp; omega) ?_; intro v' w1 hown' hgrow _)
      have hNx := hF.out.next
      rw [hX.out] at hNx
      rw [map_snoc_b8 pre x hb8] at hown'
      refine ⟨⟨k, pre ++ [UInt8.ofNat x], Lib.hid hNx, ?_, by omega, rfl, ?_, (hB.alloc hBs _).grown hgrow (by simp; omega) (fun k hk => (World.ownsRow.lt hown k hk).1)⟩, by simp [intOf]⟩
      · have := hNx.2; omega
      · unfold OwnB
        simpa using hown'

/-- octet.Four -/
theorem four_gives (n : Nat) (w : World) : Calls Try.prog 43 #[.int .u32 n] w (GivesB w (fixL 4 n)) := by
  go_enter Try.func43, Try.ntmps43
  go_wp2_with fail
  refine (fixed32_gives 4 n (by omega) _).mono ?_
  rintro e w' ⟨v, rfl, h1, h2⟩
  go_wp2
  go_ret
  exact ⟨v, rfl, h1, h2⟩

/-- octet.Eight -/
theorem eight_gives (n : Nat) (w : World) : Calls Try.prog 45 #[.int .u64 n] w (GivesB w (fixL 8 n)) := by
  go_enter Try.func45, Try.ntmps45
  go_wp2_with fail
  refine (fixed64_gives 8 n (by omega) _).mono ?_
  rintro e w' ⟨v, rfl, h1, h2⟩
  go_wp2
  go_ret
  exact ⟨v, rfl, h1, h2⟩
end Go.Proofs.Ytlelckdcmlpmdaa
