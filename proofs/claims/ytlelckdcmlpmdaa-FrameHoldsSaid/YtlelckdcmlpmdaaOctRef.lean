/- louperef03.Number, ReadNumber: the same bytes, the same reading. -/
import Derived.Test.YtlelckdcmlpmdaaOctNum
import Derived.Test.YtlelckdcmlpmdaaOctRead
namespace Go.Proofs.Ytlelckdcmlpmdaa
open Go Go.RowKit Lou

set_option maxRecDepth 100000 in
set_option maxHeartbeats 1000000 in
theorem refNumber_gives (n0 : Nat) (hn : n0 < 2^64) (w : World) : Calls Try.prog 42 #[.int .u64 n0] w (GivesB w (num n0)) := by
  obtain ⟨i0, hi, hz0, hz1, hz2⟩ := info_parts inf_u8
  have hs := Lib.hid (NumAt.start hn)
  clear hn
  go_enter Try.func42, Try.ntmps42
  go_wp2_with fail
  go_loopw [0, 3] (fun a v wr => ∃ (n f : Nat) (pre : List UInt8), Hid (NumAt n0 n f pre) ∧ pre.length ≤ 10 ∧ a = .int .u64 n ∧ OwnB wr w.heap.size v pre ∧ Below w.heap.size w wr)
    (fun a _ _ => (intOf a).toNat)
  case atStart => exact ⟨n0, 10, [], hs, by simp, rfl, OwnB.nil _ _, Below.refl _ _⟩
  case round =>
    obtain ⟨n, f, pre, hN, hl, rfl, hown, hB⟩ := hrel
    have hBs := hB.size
    by_cases hlt : n < 128
    · go_wp2_with (at_builtin; refine wpList_append_own _ rfl _ _ 30 rfl w.heap.size 5 i0 (.int .u8 0) 1 1 Try.underlying30 hi hz0 hz1 hz2 rfl (by decide) _ _ _ rfl (World.ownsRow.alloc hown _) ⟨wr.heap.size, 0, none⟩ 1 1 _ rfl rfl (cell_one_new _ _ _) (by simp [Value.oneCell']) (by unfold maxLen; omega) (by omega) (by simp; omega) ?_; intro v' w1 hown' hgrow _)
      go_ret
      have e1 := hN.out.last hlt
      refine ⟨v', rfl, ?_, (hB.alloc hBs _).grown hgrow (by simp; omega) (fun k hk => (World.ownsRow.lt hown k hk).1)⟩
      rw [map_snoc_b8 pre n (by omega), e1] at hown'
      unfold OwnB
      rw [show (num n0).length = pre.length + 1 from by rw [← e1]; simp]
      exact hown'
    · have hq : IntKind.u64.wrap ((n : Int) / 128) = (n : Int) / 128 := by
        have h64 := hN.out.lt
        rw [IntKind.wrap_u64]
        omega
      go_wp2_with (at_builtin; refine wpList_append_own _ rfl _ _ 30 rfl w.heap.size 5 i0 (.int .u8 0) 1 1 Try.underlying30 hi hz0 hz1 hz2 rfl (by decide) _ _ _ rfl (World.ownsRow.alloc hown _) ⟨wr.heap.size, 0, none⟩ 1 1 _ rfl rfl (cell_one_new _ _ _) (by simp [Value.oneCell']) (by unfold maxLen; omega) (by omega) (by simp; omega) ?_; intro v' w1 hown' hgrow _)
      have hNx := hN.out.next (by omega)
      refine ⟨⟨n / 128, f - 1, pre ++ [UInt8.ofNat (n % 128 + 128)], Lib.hid hNx, ?_, by go_num, ?_, ?_⟩, by simp [intOf]; omega⟩
      · have := hNx.2.2.2; omega
      · rw [show ((n : Int) % 128 + 128) = ((n % 128 + 128 : Nat) : Int) from by omega, map_snoc_b8 pre _ (by omega)] at hown'
        unfold OwnB
        simpa using hown'
      · exact (hB.alloc hBs _).grown hgrow (by simp; omega) (fun k hk => (World.ownsRow.lt hown k hk).1)

def unitAt (k : Nat) : Nat := 128 ^ (min k 9)

theorem p63 : (128 : Nat) ^ 9 = 9223372036854775808 := by decide
theorem ref_add {acc c k un : Nat} (hc : c < 256) (hk : k < 10) (h9 : k = 9 → c ≤ 1) (ha : acc < 128 ^ k) (hu : un = unitAt k) :
    IntKind.u64.wrap ((acc : Int) + IntKind.u64.wrap (((c : Int) % 128) * (un : Int))) = ((acc + c % 128 * 128 ^ k : Nat) : Int) := by
  have e0 : un = 128 ^ k := by rw [hu, unitAt, show min k 9 = k from by omega]
  have hp : 128 ^ k ≤ 128 ^ 9 := Nat.pow_le_pow_right (by omega) (by omega)
  rw [p63] at hp
  have hb : acc + c % 128 * 128 ^ k < 18446744073709551616 := by
    by_cases e9 : k = 9
    · have h1 : c % 128 * 128 ^ k ≤ 1 * 128 ^ 9 := by subst e9; exact Nat.mul_le_mul_right _ (by have := h9 rfl; omega)
      rw [p63] at h1
      omega
    · have h8 : 128 ^ k ≤ 128 ^ 8 := Nat.pow_le_pow_right (by omega) (by omega)
      have h1 : c % 128 * 128 ^ k ≤ 127 * 128 ^ 8 := Nat.mul_le_mul (by omega) h8
      simp at h1 h8
      omega
  have e1 : ((c : Int) % 128) * (un : Int) = ((c % 128 * 128 ^ k : Nat) : Int) := by rw [e0]; push_cast; rfl
  rw [e1, IntKind.wrap_u64, IntKind.wrap_u64]
  omega

theorem ref_unit {k un : Nat} (hk : k < 9) (hu : un = unitAt k) : IntKind.u64.wrap ((un : Int) * 128) = ((unitAt (k + 1) : Nat) : Int) := by
  have e0 : un = 128 ^ k := by rw [hu, unitAt, show min k 9 = k from by omega]
  have e1 : unitAt (k + 1) = 128 ^ k * 128 := by rw [unitAt, show min (k + 1) 9 = k + 1 from by omega, Nat.pow_succ]
  have hp : 128 ^ (k + 1) ≤ 128 ^ 9 := Nat.pow_le_pow_right (by omega) (by omega)
  rw [p63, Nat.pow_succ] at hp
  rw [e1, e0, IntKind.wrap_u64]
  omega

set_option maxRecDepth 100000 in
set_option maxHeartbeats 4000000 in
theorem refReadNumber_some (w : World) (g o c : Nat) (l : List UInt8) (hl : 0 < l.length) (hc : l.length ≤ c) (hm : c ≤ 9223372036854775807) (hcell : ∀ j (h : j < l.length), w.cell? ⟨g, o + j, none⟩ = some (.int .u8 (l[j].toNat : Int))) :
    Calls Try.prog 31 #[.slice (some ⟨g, o, none⟩) l.length c] w fun e w' => e = .returned (rdV l) ∧ w = w' := by
  go_enter Try.func31, Try.ntmps31
  go_wp2_with fail
  go_loop [5, 6, 7] (fun a u i => ∃ (acc un k : Nat), i = .int .i64 k ∧ k ≤ l.length ∧ k ≤ 10 ∧ a = .int .u64 acc ∧ u = .int .u64 un ∧ Hid (RdAt l acc k ∧ un = unitAt k)) (fun _ _ i => l.length - (intOf i).toNat)
  case atStart => exact ⟨0, 1, 0, rfl, by omega, by omega, rfl, rfl, Lib.hid ⟨RdAt.start l, rfl⟩⟩
  case round =>
    obtain ⟨acc, un, k, rfl, hk, hk10, rfl, rfl, hR⟩ := hrel
    by_cases hlt : k < l.length ∧ k < 10
    · obtain ⟨h1, h2⟩ := hlt
      have hck := hcell k h1
      clear hcell
      have hbd := (l[k]).toNat_lt
      have hu := Lib.hid (hR.out.1.unfold h1 h2)
      by_cases hA : k = 9 ∧ 1 < l[k].toNat
      · have hn := Lib.hid (rdV_none (by have := hu.out; rwa [if_pos hA] at this))
        clear hu hR
        have hb9 : ((k : Int) == 9) = true := by rw [beq_iff_eq]; omega
        have hc1 := hA.2
        clear hA
        go_wp2_with fail
        go_ret3
        exact ⟨by rw [hn.out]; rfl, rfl⟩
      · have hadd := ref_add hbd h2 (by omega) hR.out.1.2.1 hR.out.2
        by_cases hB : 128 ≤ l[k].toNat
        · have h9 : k < 9 := by omega
          have hnext := Lib.hid (hR.out.1.next h1 h9 hB)
          have hun := ref_unit h9 hR.out.2
          clear hu hR hA
          go_wp2_with fail
          refine ⟨⟨_, _, k + 1, by go_num, by omega, by omega, rfl, rfl, Lib.hid ⟨hnext.out, rfl⟩⟩, by simp [intOf]; omega⟩
        · by_cases hC : l[k].toNat = 0 ∧ 0 < k
          · have hn := Lib.hid (rdV_none (by have := hu.out; rwa [if_neg hA, if_neg hB, if_pos hC] at this))
            obtain ⟨h0, hk0⟩ := hC
            have hc1 : l[k].toNat < 1 := by omega
            have hb0 : (((l[k].toNat : Int) % 128) == 0) = true := by rw [beq_iff_eq]; omega
            clear hu hR hA h0
            by_cases h9 : k < 9
            · go_wp2_with fail
              go_ret3
              exact ⟨by rw [hn.out]; rfl, rfl⟩
            · have hb9 : ((k : Int) == 9) = true := by rw [beq_iff_eq]; omega
              go_wp2_with fail
              go_ret3
              exact ⟨by rw [hn.out]; rfl, rfl⟩
          · have hv := Lib.hid (rdV_some (n := acc + l[k].toNat % 128 * 128 ^ k) (k := k + 1) (by have := hu.out; rwa [if_neg hA, if_neg hB, if_neg hC] at this))
            have hA9 : k = 9 → l[k].toNat ≤ 1 := by omega
            have hC' : l[k].toNat < 1 → k ≤ 0 := by omega
            clear hu hR hA hC
            by_cases h9 : k < 9
            · clear hA9
              by_cases h0 : l[k].toNat < 1
              · have hk0 : k ≤ 0 := hC' h0
                have hb0 : (((l[k].toNat : Int) % 128) == 0) = true := by rw [beq_iff_eq]; omega
                clear hC' h0
                go_wp2_with fail
                go_ret3
                exact ⟨by rw [hv.out]; rfl, rfl⟩
              · have hb0 : (((l[k].toNat : Int) % 128) == 0) = false := by rw [beq_eq_false_iff_ne]; omega
                clear hC'
                go_wp2_with fail
                go_ret3
                exact ⟨by rw [hv.out]; rfl, rfl⟩
            · have hc1 : l[k].toNat ≤ 1 := hA9 (by omega)
              have hc2 : 1 ≤ l[k].toNat := by
                rcases Nat.lt_or_ge l[k].toNat 1 with h | h
                · have := hC' h; omega
                · exact h
              have hb9 : ((k : Int) == 9) = true := by rw [beq_iff_eq]; omega
              have hb0 : (((l[k].toNat : Int) % 128) == 0) = false := by rw [beq_eq_false_iff_ne]; omega
              clear hC' hA9
              go_wp2_with fail
              go_ret3
              exact ⟨by rw [hv.out]; rfl, rfl⟩
    · have hn := Lib.hid (rdV_none (hR.out.1.out (by omega)))
      clear hcell hR
      by_cases hlt2 : k < l.length
      · go_wp2_with fail
        go_ret3
        exact ⟨by rw [hn.out]; rfl, rfl⟩
      · go_wp2_with fail
        go_ret3
        exact ⟨by rw [hn.out]; rfl, rfl⟩

set_option maxRecDepth 100000 in
set_option maxHeartbeats 1000000 in
theorem refReadNumber_empty (w : World) (A : Option Addr) (c : Nat) :
    Calls Try.prog 31 #[.slice A 0 c] w fun e w' => e = .returned (rdV []) ∧ w = w' := by
  go_enter Try.func31, Try.ntmps31
  go_wp2_with fail
  refine wp_loop_rounds 1 ?_
  rw [rounds_succ]
  go_wp2_with fail
  go_ret3
  exact ⟨rfl, rfl⟩

/-- louperef03.ReadNumber, whatever bytes. -/
theorem refReadNumber_gives (w : World) (B : Nat) (A : Option Addr) (c : Nat) (l : List UInt8) (h : InB w B A c l) :
    Calls Try.prog 31 #[.slice A l.length c] w fun e w' => e = .returned (rdV l) ∧ w = w' := by
  rcases Nat.eq_zero_or_pos l.length with h0 | h0
  · obtain rfl := List.eq_nil_of_length_eq_zero h0
    exact refReadNumber_empty w A c
  · obtain ⟨g, o, rfl, _, hc⟩ := h.lies h0
    exact refReadNumber_some w g o c l h0 h.le h.max hc
end Go.Proofs.Ytlelckdcmlpmdaa
