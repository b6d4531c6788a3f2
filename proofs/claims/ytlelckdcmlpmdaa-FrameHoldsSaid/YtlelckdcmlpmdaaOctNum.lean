/- octet.Number, louperef03.Number: they give the number's bytes. -/
import Derived.Test.YtlelckdcmlpmdaaKit
namespace Go.Proofs.Ytlelckdcmlpmdaa
open Go Go.RowKit Lou

theorem numF_lt {f n : Nat} (hf : 1 ≤ f) (h : n < 128) : numF f n = [UInt8.ofNat n] := by
  cases f with
  | zero => omega
  | succ f => unfold numF; rw [if_pos h]

def NumAt (n0 n f : Nat) (pre : List UInt8) : Prop := pre ++ numF f n = num n0 ∧ n < 2 ^ (7 * f - 6) ∧ 1 ≤ f ∧ pre.length + f = 10

theorem NumAt.start {n0 : Nat} (h : n0 < 2 ^ 64) : NumAt n0 n0 10 [] := ⟨rfl, by simpa using h, by omega, by simp⟩
theorem NumAt.last {n0 n f : Nat} {pre : List UInt8} (h : NumAt n0 n f pre) (hlt : n < 128) : pre ++ [UInt8.ofNat n] = num n0 := by
  rw [← numF_lt h.2.2.1 hlt]; exact h.1
theorem NumAt.next {n0 n f : Nat} {pre : List UInt8} (h : NumAt n0 n f pre) (hge : 128 ≤ n) : NumAt n0 (n / 128) (f - 1) (pre ++ [UInt8.ofNat (n % 128 + 128)]) := by
  obtain ⟨h1, h2, h3, h4⟩ := h
  cases f with
  | zero => omega
  | succ f =>
    have hf : 1 ≤ f := by
      rcases Nat.eq_zero_or_pos f with h0 | h0
      · subst h0; simp at h2; omega
      · exact h0
    refine ⟨?_, ?_, by simpa using hf, by simp; omega⟩
    · rw [← h1]
      conv => rhs; unfold numF
      rw [if_neg (by omega)]
      simp
    · rw [Nat.div_lt_iff_lt_mul (by omega)]
      have : 2 ^ (7 * f - 6) * 128 = 2 ^ (7 * (f + 1) - 6) := by
        rw [show 7 * (f + 1) - 6 = (7 * f - 6) + 7 from by omega, Nat.pow_add]
      simp only [Nat.add_sub_cancel]
      omega

theorem NumAt.lt {n0 n f : Nat} {pre : List UInt8} (h : NumAt n0 n f pre) : n < 18446744073709551616 := by
  have h1 : 2 ^ (7 * f - 6) ≤ 2 ^ 64 := Nat.pow_le_pow_right (by omega) (by have := h.2.2.2; omega)
  have := h.2.1
  omega

theorem map_snoc_b8 (l : List UInt8) (n : Nat) (h : n < 256) : l.map b8 ++ [.int .u8 (n : Int)] = (l ++ [UInt8.ofNat n]).map b8 := by
  simp [b8]; omega

set_option maxRecDepth 100000 in
set_option maxHeartbeats 1000000 in
theorem number_gives (n0 : Nat) (hn : n0 < 2^64) (w : World) : Calls Try.prog 28 #[.int .u64 n0] w (GivesB w (num n0)) := by
  obtain ⟨i0, hi, hz0, hz1, hz2⟩ := info_parts inf_u8
  have hs := Lib.hid (NumAt.start hn)
  clear hn
  go_enter Try.func28, Try.ntmps28
  go_wp2_with fail
  go_loopw [0, 2] (fun a v wr => ∃ (n f : Nat) (pre : List UInt8), Hid (NumAt n0 n f pre) ∧ pre.length ≤ 10 ∧ a = .int .u64 n ∧ OwnB wr w.heap.size v pre ∧ Below w.heap.size w wr)
    (fun a _ _ => (intOf a).toNat)
  case atStart => exact ⟨n0, 10, [], hs, by simp, rfl, OwnB.nil _ _, Below.refl _ _⟩
  case round =>
    obtain ⟨n, f, pre, hN, hl, rfl, hown, hB⟩ := hrel
    have hBs := hB.size
    have hor := u8_or128 n
    by_cases hlt : n < 128
    · go_wp2_with (at_builtin; refine wpList_append_own _ rfl _ _ 30 rfl w.heap.size 5 i0 (.int .u8 0) 1 1 Try.underlying30 hi hz0 hz1 hz2 rfl (by decide) _ _ _ rfl (World.ownsRow.alloc hown _) ⟨wr.heap.size, 0, none⟩ 1 1 _ rfl rfl (cell_one_new _ _ _) (by simp [Value.oneCell']) (by unfold maxLen; omega) (by omega) (by simp; omega) ?_; intro v' w1 hown' hgrow _)
      go_ret
      have e1 := hN.out.last hlt
      refine ⟨v', rfl, ?_, (hB.alloc hBs _).grown hgrow (by simp; omega) (fun k hk => (World.ownsRow.lt hown k hk).1)⟩
      rw [map_snoc_b8 pre n (by omega), e1] at hown'
      unfold OwnB
      rw [show (num n0).length = pre.length + 1 from by rw [← e1]; simp]
      exact hown'
    · go_wp2_with (at_builtin; refine wpList_append_own _ rfl _ _ 30 rfl w.heap.size 5 i0 (.int .u8 0) 1 1 Try.underlying30 hi hz0 hz1 hz2 rfl (by decide) _ _ _ rfl (World.ownsRow.alloc hown _) ⟨wr.heap.size, 0, none⟩ 1 1 _ rfl rfl (cell_one_new _ _ _) (by simp [Value.oneCell']) (by unfold maxLen; omega) (by omega) (by simp; omega) ?_; intro v' w1 hown' hgrow _)
      have hNx := hN.out.next (by omega)
      refine ⟨⟨n / 128, f - 1, pre ++ [UInt8.ofNat (n % 128 + 128)], Lib.hid hNx, ?_, by go_num, ?_, ?_⟩, by simp [intOf]; omega⟩
      · have := hNx.2.2.2; omega
      · rw [show ((n : Int) % 128 + 128) = ((n % 128 + 128 : Nat) : Int) from by omega, map_snoc_b8 pre _ (by omega)] at hown'
        unfold OwnB
        simpa using hown'
      · exact (hB.alloc hBs _).grown hgrow (by simp; omega) (fun k hk => (World.ownsRow.lt hown k hk).1)
end Go.Proofs.Ytlelckdcmlpmdaa
