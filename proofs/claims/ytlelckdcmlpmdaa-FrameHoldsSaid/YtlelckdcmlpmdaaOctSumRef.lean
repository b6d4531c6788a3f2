/- louperef03.Sum: the sum of bytes. -/
import Derived.Test.YtlelckdcmlpmdaaOctNum
namespace Go.Proofs.Ytlelckdcmlpmdaa
open Go Go.RowKit Lou

theorem sh_odd {y : Nat} (h : y % 2 = 1) : sh y = (y / 2) ^^^ poly := by unfold sh; rw [if_pos h]
theorem sh_even {y : Nat} (h : ¬ y % 2 = 1) : sh y = y / 2 := by unfold sh; rw [if_neg h]
theorem xor_u32 {x y : Nat} (hx : x < 4294967296) (hy : y < 4294967296) : bits .xor .u32 (x : Int) (y : Int) = ((x ^^^ y : Nat) : Int) := u32_xor_nat x y hx hy
theorem xor_poly {y : Nat} (hy : y < 4294967296) : bits .xor .u32 ((y : Int) / 2) 3988292384 = ((y / 2 ^^^ poly : Nat) : Int) := u32_xor_nat (y / 2) 3988292384 (by omega) (by omega)
theorem xor_inv {x : Nat} (hx : x < 4294967296) : bits .xor .u32 IntKind.u32.max (x : Int) = ((x ^^^ 4294967295 : Nat) : Int) := by
  have e : IntKind.u32.max = ((4294967295 : Nat) : Int) := rfl
  rw [e, u32_xor_nat _ _ (by omega) hx, Nat.xor_comm]

set_option maxRecDepth 100000 in
set_option maxHeartbeats 1000000 in
theorem refSum_gives (w : World) (B : Nat) (A : Option Addr) (c : Nat) (l : List UInt8) (h : InB w B A c l) : Calls Try.prog 37 #[.slice A l.length c] w fun e w' => e = .returned (.int .u32 (sumL l : Int)) ∧ w = w' := by
  have hle := h.le
  have hmax := h.max
  go_enter Try.func37, Try.ntmps37
  go_wp2_with fail
  go_loop [3, 4] (fun s i => ∃ k x : Nat, k ≤ l.length ∧ i = .int .i64 k ∧ x < 4294967296 ∧ s = .int .u32 x ∧ Hid (x = sumS 4294967295 (l.take k))) (fun _ i => l.length - (intOf i).toNat)
  case atStart => exact ⟨0, 4294967295, by omega, rfl, by omega, rfl, Lib.hid rfl⟩
  case round =>
    obtain ⟨k, x, hk, rfl, hx, rfl, hX⟩ := hrel
    by_cases hlt : k < l.length
    · obtain ⟨g, o, rfl, _, hc⟩ := h.lies (by omega)
      have hck := hc k hlt
      clear hc
      have hbd := (l[k]).toNat_lt
      have hxor := xor_u32 hx (show l[k].toNat < 4294967296 from by omega)
      have hy := xor_lt32 hx (show l[k].toNat < 4294967296 from by omega)
      have hst : stepC x l[k] = shN 8 (x ^^^ l[k].toNat) := rfl
      have hS := Lib.hid hst
      clear hst
      go_wp2_with fail
      go_loop [3, 5] (fun s i => ∃ j y : Nat, j ≤ 8 ∧ i = .int .i64 j ∧ y < 4294967296 ∧ s = .int .u32 y ∧ Hid (shN (8 - j) y = stepC x l[k])) (fun _ i => 8 - (intOf i).toNat)
      case atStart => exact ⟨0, _, by omega, rfl, hy, rfl, Lib.hid rfl⟩
      case round =>
        obtain ⟨j, y, hj, rfl, hyl, rfl, hY⟩ := hrel
        clear hy hxor
        by_cases hj8 : j < 8
        · have hn : Hid (shN (8 - (j + 1)) (sh y) = stepC x l[k]) := by
            have := hY.out
            rw [show 8 - j = (8 - (j + 1)) + 1 from by omega] at this
            exact Lib.hid this
          have hlt2 := sh_lt hyl
          clear hY
          by_cases hod : y % 2 = 1
          · have hs : Hid (sh y = (y / 2) ^^^ poly) := Lib.hid (sh_odd hod)
            have hb : (((y : Int) % 2) == 1) = true := by rw [beq_iff_eq]; omega
            have hx2 := xor_poly hyl
            clear hod
            go_wp2_with fail
            refine ⟨⟨j + 1, sh y, by omega, by go_num, hlt2, by rw [hs.out], hn⟩, by simp [intOf]; omega⟩
          · have hs : Hid (sh y = y / 2) := Lib.hid (sh_even hod)
            have hb : (((y : Int) % 2) == 1) = false := by rw [beq_eq_false_iff_ne]; omega
            clear hod
            go_wp2_with fail
            refine ⟨⟨j + 1, sh y, by omega, by go_num, hlt2, by rw [hs.out]; go_num, hn⟩, by simp [intOf]; omega⟩
        · have hn : Hid (y = stepC x l[k]) := by
            have := hY.out
            rw [show 8 - j = 0 from by omega] at this
            exact Lib.hid this
          clear hY
          go_wp2_with fail
          refine ⟨⟨k + 1, y, by omega, by go_num, hyl, rfl, ?_⟩, by simp [intOf]; omega⟩
          have : y = sumS 4294967295 (l.take (k + 1)) := by
            rw [hn.out, hX.out, List.take_succ_eq_append_getElem hlt, sumS_append]
            rfl
          exact Lib.hid this
    · have hinv := xor_inv hx
      go_wp2_with fail
      go_ret
      have : x ^^^ 4294967295 = sumL l := by
        rw [hX.out, List.take_of_length_le (by omega)]
        rfl
      exact ⟨by rw [← this]; rfl, rfl⟩
end Go.Proofs.Ytlelckdcmlpmdaa
