/- Texts that the proof of NodeReads leans on, part 4. -/
import Derived.ScopeJumps
import Derived.Lib.AppendZeros
import Derived.Orders
import Derived.RegionTactic
import Derived.Shelf.Abstract
import Derived.Test.YtlelckdcmlpmdaaNodeReadsB3
/- octet.ReadNumber: it reads the number with whose bytes these begin. -/
namespace Go.Proofs.Ytlelckdcmlpmdaa
open Go Go.RowKit Lou

/-- What a number's reading answers. -/
def rdV (l : List UInt8) : Value :=
  match rd l with
  | some (n, k) => .tuple #[.int .u64 (n : Int), .int .i64 (k : Int), .int .i64 0]
  | none => .tuple #[.int .u64 0, .int .i64 0, .int .i64 130]
theorem rdV_some {l : List UInt8} {n k : Nat} (h : rd l = some (n, k)) : rdV l = .tuple #[.int .u64 (n : Int), .int .i64 (k : Int), .int .i64 0] := by unfold rdV; rw [h]
theorem rdV_none {l : List UInt8} (h : rd l = none) : rdV l = .tuple #[.int .u64 0, .int .i64 0, .int .i64 130] := by unfold rdV; rw [h]

/-- k bytes are read. -/
def RdAt (l : List UInt8) (acc k : Nat) : Prop := rdF (10 - k) k acc (l.drop k) = rd l ∧ acc < 128 ^ k ∧ k ≤ 10
theorem RdAt.start (l : List UInt8) : RdAt l 0 0 := ⟨rfl, by simp, by omega⟩
theorem RdAt.unfold {l : List UInt8} {acc k : Nat} (h : RdAt l acc k) (hk : k < l.length) (h10 : k < 10) :
    rd l = if k = 9 ∧ 1 < l[k].toNat then none else if 128 ≤ l[k].toNat then rdF (10 - (k + 1)) (k + 1) (acc + l[k].toNat % 128 * 128 ^ k) (l.drop (k + 1))
      else if l[k].toNat = 0 ∧ 0 < k then none else some (acc + l[k].toNat % 128 * 128 ^ k, k + 1) := by
  rw [← h.1, List.drop_eq_getElem_cons hk, show 10 - k = (10 - (k + 1)) + 1 from by omega]
  rfl
theorem RdAt.out {l : List UInt8} {acc k : Nat} (h : RdAt l acc k) (hk : l.length ≤ k ∨ 10 ≤ k) : rd l = none := by
  rw [← h.1]
  rcases hk with hk | hk
  · rw [List.drop_eq_nil_of_le hk]
    cases 10 - k <;> rfl
  · rw [show 10 - k = 0 from by omega]
    rfl
theorem RdAt.next {l : List UInt8} {acc k : Nat} (h : RdAt l acc k) (hk : k < l.length) (h9 : k < 9) (hc : 128 ≤ l[k].toNat) : RdAt l (acc + l[k].toNat % 128 * 128 ^ k) (k + 1) := by
  refine ⟨?_, ?_, by omega⟩
  · rw [h.unfold hk (by omega), if_neg (by omega), if_pos hc]
  · have h1 : l[k].toNat % 128 ≤ 127 := by omega
    have h2 : l[k].toNat % 128 * 128 ^ k ≤ 127 * 128 ^ k := Nat.mul_le_mul_right _ h1
    have h3 : 128 ^ (k + 1) = 128 ^ k * 128 := Nat.pow_succ ..
    have := h.2.1
    omega

/-- One byte laid on: what the program's or makes. -/
theorem rd_or {acc c k : Nat} (hc : c < 256) (hk : k < 10) (h9 : k = 9 → c ≤ 1) (ha : acc < 128 ^ k) :
    bits .or .u64 (acc : Int) (IntKind.u64.wrap (IntKind.u64.wrap (bits .andNot .u8 (c : Int) 128) * 2 ^ (7 * k))) = ((acc + c % 128 * 128 ^ k : Nat) : Int) := by
  have e1 : bits .andNot .u8 (c : Int) 128 = ((c % 128 : Nat) : Int) := by
    have := u8_andNot_nat c 128 hc (by omega)
    have h2 : (((128 : Nat)) : Int) = 128 := rfl
    rw [h2] at this
    rw [this, show 255 - 128 = 2 ^ 7 - 1 from rfl, Nat.and_two_pow_sub_one_eq_mod]
  have h128 : (128 : Nat) ^ k = 2 ^ (7 * k) := by rw [Nat.pow_mul]
  have hp : 128 ^ k ≤ 128 ^ 9 := Nat.pow_le_pow_right (by omega) (by omega)
  have hb : c % 128 * 128 ^ k < 18446744073709551616 := by
    by_cases e9 : k = 9
    · have : c % 128 * 128 ^ k ≤ 1 * 128 ^ 9 := by subst e9; exact Nat.mul_le_mul_right _ (by have := h9 rfl; omega)
      simp at this
      omega
    · have h8 : 128 ^ k ≤ 128 ^ 8 := Nat.pow_le_pow_right (by omega) (by omega)
      have : c % 128 * 128 ^ k ≤ 127 * 128 ^ 8 := Nat.mul_le_mul (by omega) h8
      simp at this
      omega
  have e2 : IntKind.u64.wrap ((c % 128 : Nat) : Int) = ((c % 128 : Nat) : Int) := by
    rw [IntKind.wrap_u64]; omega
  have e3 : (((c % 128 : Nat) : Int)) * 2 ^ (7 * k) = ((c % 128 * 128 ^ k : Nat) : Int) := by
    rw [h128]; push_cast; rfl
  have e4 : IntKind.u64.wrap ((c % 128 * 128 ^ k : Nat) : Int) = ((c % 128 * 128 ^ k : Nat) : Int) := by
    rw [IntKind.wrap_u64]; omega
  rw [e1, e2, e3, e4, u64_or_nat _ _ (by simp at hp; omega) hb]
  congr 1
  rw [Nat.or_comm, nat_join (7 * k) _ _ (by rw [h128]; exact Nat.mul_mod_left _ _) (by rw [← h128]; exact ha)]
  omega

/-- Behind a jump to the label: the frame is whatever it is. -/
def RdNone (l : List UInt8) (a : Act) : Prop := rd l = none ∧ ∃ u0 u1 u2 u3 u4 u5 u6 u7 u8 u9 u10 u11 u12 u13 u14 u15 u16 u17 u18 u19 u20 u21 u22 u23 u24 u25 u26 u27 u28 u29 u30 u31 u32 u33 u34 u35 u36 u37 u38 u39 u40 u41 u42 u43 : Value, a = { tmps := #[u0, u1, u2, u3, u4, u5, u6, u7, u8, u9, u10, u11, u12, u13, u14, u15, u16, u17, u18, u19, u20, u21, u22, u23, u24, u25, u26, u27, u28, u29, u30, u31, u32, u33, u34, u35, u36, u37, u38, u39, u40, u41, u42, u43], defers := [] }

set_option maxRecDepth 100000 in
set_option maxHeartbeats 4000000 in
theorem readNumber_some (w : World) (g o c : Nat) (l : List UInt8) (hl : 0 < l.length) (hc : l.length ≤ c) (hm : c ≤ 9223372036854775807) (hcell : ∀ j (h : j < l.length), w.cell? ⟨g, o + j, none⟩ = some (.int .u8 (l[j].toNat : Int))) :
    Calls Try.prog 38 #[.slice (some ⟨g, o, none⟩) l.length c] w fun e w' => e = .returned (rdV l) ∧ w = w' := by
  go_enter Try.func38, Try.ntmps38
  go_wp2_with fail
  refine wp_scope_jumps (rest := ?rest) 0 (fun a w' => RdNone l a ∧ w = w') (fun _ _ => 0) ?hf ?first ?pass
  case hf => exact rfl
  case pass =>
    rintro a w' ⟨⟨hn, u0, u1, u2, u3, u4, u5, u6, u7, u8, u9, u10, u11, u12, u13, u14, u15, u16, u17, u18, u19, u20, u21, u22, u23, u24, u25, u26, u27, u28, u29, u30, u31, u32, u33, u34, u35, u36, u37, u38, u39, u40, u41, u42, u43, rfl⟩, rfl⟩
    have hN := Lib.hid (rdV_none hn)
    clear hn
    go_wp2
    simp only [Exit.jump]
    go_wp2
    go_ret3
    exact ⟨by rw [hN.out]; rfl, rfl⟩
  case first =>
    go_wp2_with fail
    all_goals
      go_loop [2, 13] (fun a i => ∃ (acc k : Nat), i = .int .i64 k ∧ k ≤ l.length ∧ k ≤ 10 ∧ a = .int .u64 acc ∧ Hid (RdAt l acc k)) (fun _ i => l.length - (intOf i).toNat)
      case atStart => exact ⟨0, 0, rfl, by omega, by omega, rfl, Lib.hid (RdAt.start l)⟩
      case round =>
        obtain ⟨acc, k, rfl, hk, hk10, rfl, hR⟩ := hrel
        by_cases hlt : k < l.length ∧ k < 10
        · obtain ⟨h1, h2⟩ := hlt
          have hck := hcell k h1
          clear hcell
          have hbd := (l[k]).toNat_lt
          have hu := Lib.hid (hR.out.unfold h1 h2)
          by_cases hA : k = 9 ∧ 1 < l[k].toNat
          · have hn : Hid (rd l = none) := by have := hu.out; rw [if_pos hA] at this; exact Lib.hid this
            clear hu hR
            obtain ⟨h9, hA⟩ := hA
            subst h9
            go_wp2_with fail
            go_step3
            exact ⟨rfl, ⟨hn.out, by repeat (first | exact rfl | apply Exists.intro)⟩, rfl⟩
          · by_cases hB : 128 ≤ l[k].toNat
            · have hnext := Lib.hid (hR.out.next h1 (by omega) hB)
              have hor := rd_or hbd h2 (by omega) hR.out.2.1
              clear hu hR
              have h9 : ¬ (k : Int) = 9 := by omega
              clear hA
              go_wp2_with fail
              refine ⟨⟨_, k + 1, by go_num, by omega, by omega, rfl, hnext⟩, by simp [intOf]; omega⟩
            · by_cases hC : l[k].toNat = 0 ∧ 0 < k
              · have hn : Hid (rd l = none) := by have := hu.out; rw [if_neg hA, if_neg hB, if_pos hC] at this; exact Lib.hid this
                clear hu hR
                obtain ⟨h0, hk0⟩ := hC
                have h9 : (k : Int) < 9 ∨ (k : Int) = 9 := by omega
                clear hA
                rcases h9 with h9 | h9
                · go_wp2_with fail
                  go_step3
                  exact ⟨rfl, ⟨hn.out, by repeat (first | exact rfl | apply Exists.intro)⟩, rfl⟩
                · obtain rfl : k = 9 := by omega
                  go_wp2_with fail
                  go_step3
                  exact ⟨rfl, ⟨hn.out, by repeat (first | exact rfl | apply Exists.intro)⟩, rfl⟩
              · have hn : Hid (rd l = some (acc + l[k].toNat % 128 * 128 ^ k, k + 1)) := by have := hu.out; rw [if_neg hA, if_neg hB, if_neg hC] at this; exact Lib.hid this
                have hor := rd_or hbd h2 (by omega) hR.out.2.1
                have hA9 : k = 9 → l[k].toNat ≤ 1 := by omega
                clear hu hR
                have hv := Lib.hid (rdV_some hn.out)
                clear hn
                have hE : ∀ x : Value, x = rdV l → Ending.returned x = Ending.returned (rdV l) := fun x hx => by rw [hx]
                have hE2 := Lib.hid hE
                have hC' : l[k].toNat < 1 → k ≤ 0 := by omega
                clear hE hA hC
                by_cases h9 : k < 9
                · clear hA9
                  by_cases h0 : l[k].toNat < 1
                  · have hk0 : k ≤ 0 := hC' h0
                    have hb0 : ((l[k].toNat : Int) == 0) = true := by rw [beq_iff_eq]; omega
                    clear hC' h0
                    go_wp2_with fail
                    all_goals
                      simp only [Exit.jump]
                      go_wp2
                      go_ret3
                      exact ⟨hE2.out _ (by rw [hv.out]; rfl), rfl⟩
                  · clear hC'
                    go_wp2_with fail
                    all_goals
                      simp only [Exit.jump]
                      go_wp2
                      go_ret3
                      exact ⟨hE2.out _ (by rw [hv.out]; rfl), rfl⟩
                · have hc1 : l[k].toNat ≤ 1 := hA9 (by omega)
                  have hc2 : 1 ≤ l[k].toNat := by
                    rcases Nat.lt_or_ge l[k].toNat 1 with h | h
                    · have := hC' h; omega
                    · exact h
                  have hb9 : ((k : Int) == 9) = true := by rw [beq_iff_eq]; omega
                  clear hC' hA9
                  go_wp2_with fail
                  all_goals
                    simp only [Exit.jump]
                    go_wp2
                    go_ret3
                    exact ⟨hE2.out _ (by rw [hv.out]; rfl), rfl⟩
        · have hn := Lib.hid (rdV_none (hR.out.out (by omega)))
          clear hcell hR
          go_wp2_with fail
          go_step3
          go_wp2_with fail
          simp only [Exit.jump]
          go_wp2
          go_ret3
          exact ⟨by rw [hn.out]; rfl, rfl⟩

set_option maxRecDepth 100000 in
set_option maxHeartbeats 1000000 in
theorem readNumber_empty (w : World) (A : Option Addr) (c : Nat) :
    Calls Try.prog 38 #[.slice A 0 c] w fun e w' => e = .returned (rdV []) ∧ w = w' := by
  go_enter Try.func38, Try.ntmps38
  go_wp2_with fail
  refine wp_scope_straight ?_
  go_wp2_with fail
  refine wp_loop_rounds 1 ?_
  rw [rounds_succ]
  go_wp2_with fail
  go_step3
  go_wp2_with fail
  rw [Exit.noGoto_ret]
  go_wp2
  go_ret3
  exact ⟨rfl, rfl⟩

/-- octet.ReadNumber, whatever bytes. -/
theorem readNumber_gives (w : World) (B : Nat) (A : Option Addr) (c : Nat) (l : List UInt8) (h : InB w B A c l) :
    Calls Try.prog 38 #[.slice A l.length c] w fun e w' => e = .returned (rdV l) ∧ w = w' := by
  rcases Nat.eq_zero_or_pos l.length with h0 | h0
  · obtain rfl := List.eq_nil_of_length_eq_zero h0
    exact readNumber_empty w A c
  · obtain ⟨g, o, rfl, _, hc⟩ := h.lies h0
    exact readNumber_some w g o c l h0 h.le h.max hc

end Go.Proofs.Ytlelckdcmlpmdaa
/- louperef03.Number, ReadNumber: the same bytes, the same reading. -/
namespace Go.Proofs.Ytlelckdcmlpmdaa
open Go Go.RowKit Lou

set_option maxRecDepth 100000 in
set_option maxHeartbeats 1000000 in
theorem refNumber_gives (n0 : Nat) (hn : n0 < 2^64) (w : World) : Calls Try.prog 42 #[.int .u64 n0] w (GivesB w (num n0)) := by
  obtain ⟨i0, hi, hz0, hz1, hz2⟩ := info_parts inf_u8
  have hs := Lib.hid (NumAt.start hn)
  clear hn
  go_enter Try.func42, Try.ntmps42
  go_wp2_with fail
  go_loopw [0, 3] (fun a v wr => ∃ (n f : Nat) (pre : List UInt8), Hid (NumAt n0 n f pre) ∧ pre.length ≤ 10 ∧ a = .int .u64 n ∧ OwnB wr w.heap.size v pre ∧ Below w.heap.size w wr)
    (fun a _ _ => (intOf a).toNat)
  case atStart => exact ⟨n0, 10, [], hs, by simp, rfl, OwnB.nil _ _, Below.refl _ _⟩
  case round =>
    obtain ⟨n, f, pre, hN, hl, rfl, hown, hB⟩ := hrel
    have hBs := hB.size
    by_cases hlt : n < 128
    · go_wp2_with (at_builtin; refine wpList_append_own _ rfl _ _ 30 rfl w.heap.size 5 i0 (.int .u8 0) 1 1 Try.underlying30 hi hz0 hz1 hz2 rfl (by decide) _ _ _ rfl (World.ownsRow.alloc hown _) ⟨wr.heap.size, 0, none⟩ 1 1 _ rfl rfl (cell_one_new _ _ _) (by simp [Value.oneCell']) (by unfold maxLen; omega) (by omega) (by simp; omega) ?_; intro v' w1 hown' hgrow _)
      go_ret
      have e1 := hN.out.last hlt
      refine ⟨v', rfl, ?_, (hB.alloc hBs _).grown hgrow (by simp; omega) (fun k hk => (World.ownsRow.lt hown k hk).1)⟩
      rw [map_snoc_b8 pre n (by omega), e1] at hown'
      unfold OwnB
      rw [show (num n0).length = pre.length + 1 from by rw [← e1]; simp]
      exact hown'
    · have hq : IntKind.u64.wrap ((n : Int) / 128) = (n : Int) / 128 := by
        have h64 := hN.out.lt
        rw [IntKind.wrap_u64]
        omega
      go_wp2_with (at_builtin; refine wpList_append_own _ rfl _ _ 30 rfl w.heap.size 5 i0 (.int .u8 0) 1 1 Try.underlying30 hi hz0 hz1 hz2 rfl (by decide) _ _ _ rfl (World.ownsRow.alloc hown _) ⟨wr.heap.size, 0, none⟩ 1 1 _ rfl rfl (cell_one_new _ _ _) (by simp [Value.oneCell']) (by unfold maxLen; omega) (by omega) (by simp; omega) ?_; intro v' w1 hown' hgrow _)
      have hNx := hN.out.next (by omega)
      refine ⟨⟨n / 128, f - 1, pre ++ [UInt8.ofNat (n % 128 + 128)], Lib.hid hNx, ?_, by go_num, ?_, ?_⟩, by simp [intOf]; omega⟩
      · have := hNx.2.2.2; omega
      · rw [show ((n : Int) % 128 + 128) = ((n % 128 + 128 : Nat) : Int) from by omega, map_snoc_b8 pre _ (by omega)] at hown'
        unfold OwnB
        simpa using hown'
      · exact (hB.alloc hBs _).grown hgrow (by simp; omega) (fun k hk => (World.ownsRow.lt hown k hk).1)

def unitAt (k : Nat) : Nat := 128 ^ (min k 9)

theorem p63 : (128 : Nat) ^ 9 = 9223372036854775808 := by decide
theorem ref_add {acc c k un : Nat} (hc : c < 256) (hk : k < 10) (h9 : k = 9 → c ≤ 1) (ha : acc < 128 ^ k) (hu : un = unitAt k) :
    IntKind.u64.wrap ((acc : Int) + IntKind.u64.wrap (((c : Int) % 128) * (un : Int))) = ((acc + c % 128 * 128 ^ k : Nat) : Int) := by
  have e0 : un = 128 ^ k := by rw [hu, unitAt, show min k 9 = k from by omega]
  have hp : 128 ^ k ≤ 128 ^ 9 := Nat.pow_le_pow_right (by omega) (by omega)
  rw [p63] at hp
  have hb : acc + c % 128 * 128 ^ k < 18446744073709551616 := by
    by_cases e9 : k = 9
    · have h1 : c % 128 * 128 ^ k ≤ 1 * 128 ^ 9 := by subst e9; exact Nat.mul_le_mul_right _ (by have := h9 rfl; omega)
      rw [p63] at h1
      omega
    · have h8 : 128 ^ k ≤ 128 ^ 8 := Nat.pow_le_pow_right (by omega) (by omega)
      have h1 : c % 128 * 128 ^ k ≤ 127 * 128 ^ 8 := Nat.mul_le_mul (by omega) h8
      simp at h1 h8
      omega
  have e1 : ((c : Int) % 128) * (un : Int) = ((c % 128 * 128 ^ k : Nat) : Int) := by rw [e0]; push_cast; rfl
  rw [e1, IntKind.wrap_u64, IntKind.wrap_u64]
  omega

theorem ref_unit {k un : Nat} (hk : k < 9) (hu : un = unitAt k) : IntKind.u64.wrap ((un : Int) * 128) = ((unitAt (k + 1) : Nat) : Int) := by
  have e0 : un = 128 ^ k := by rw [hu, unitAt, show min k 9 = k from by omega]
  have e1 : unitAt (k + 1) = 128 ^ k * 128 := by rw [unitAt, show min (k + 1) 9 = k + 1 from by omega, Nat.pow_succ]
  have hp : 128 ^ (k + 1) ≤ 128 ^ 9 := Nat.pow_le_pow_right (by omega) (by omega)
  rw [p63, Nat.pow_succ] at hp
  rw [e1, e0, IntKind.wrap_u64]
  omega

set_option maxRecDepth 100000 in
set_option maxHeartbeats 4000000 in
theorem refReadNumber_some (w : World) (g o c : Nat) (l : List UInt8) (hl : 0 < l.length) (hc : l.length ≤ c) (hm : c ≤ 9223372036854775807) (hcell : ∀ j (h : j < l.length), w.cell? ⟨g, o + j, none⟩ = some (.int .u8 (l[j].toNat : Int))) :
    Calls Try.prog 31 #[.slice (some ⟨g, o, none⟩) l.length c] w fun e w' => e = .returned (rdV l) ∧ w = w' := by
  go_enter Try.func31, Try.ntmps31
  go_wp2_with fail
  go_loop [5, 6, 7] (fun a u i => ∃ (acc un k : Nat), i = .int .i64 k ∧ k ≤ l.length ∧ k ≤ 10 ∧ a = .int .u64 acc ∧ u = .int .u64 un ∧ Hid (RdAt l acc k ∧ un = unitAt k)) (fun _ _ i => l.length - (intOf i).toNat)
  case atStart => exact ⟨0, 1, 0, rfl, by omega, by omega, rfl, rfl, Lib.hid ⟨RdAt.start l, rfl⟩⟩
  case round =>
    obtain ⟨acc, un, k, rfl, hk, hk10, rfl, rfl, hR⟩ := hrel
    by_cases hlt : k < l.length ∧ k < 10
    · obtain ⟨h1, h2⟩ := hlt
      have hck := hcell k h1
      clear hcell
      have hbd := (l[k]).toNat_lt
      have hu := Lib.hid (hR.out.1.unfold h1 h2)
      by_cases hA : k = 9 ∧ 1 < l[k].toNat
      · have hn := Lib.hid (rdV_none (by have := hu.out; rwa [if_pos hA] at this))
        clear hu hR
        have hb9 : ((k : Int) == 9) = true := by rw [beq_iff_eq]; omega
        have hc1 := hA.2
        clear hA
        go_wp2_with fail
        go_ret3
        exact ⟨by rw [hn.out]; rfl, rfl⟩
      · have hadd := ref_add hbd h2 (by omega) hR.out.1.2.1 hR.out.2
        by_cases hB : 128 ≤ l[k].toNat
        · have h9 : k < 9 := by omega
          have hnext := Lib.hid (hR.out.1.next h1 h9 hB)
          have hun := ref_unit h9 hR.out.2
          clear hu hR hA
          go_wp2_with fail
          refine ⟨⟨_, _, k + 1, by go_num, by omega, by omega, rfl, rfl, Lib.hid ⟨hnext.out, rfl⟩⟩, by simp [intOf]; omega⟩
        · by_cases hC : l[k].toNat = 0 ∧ 0 < k
          · have hn := Lib.hid (rdV_none (by have := hu.out; rwa [if_neg hA, if_neg hB, if_pos hC] at this))
            obtain ⟨h0, hk0⟩ := hC
            have hc1 : l[k].toNat < 1 := by omega
            have hb0 : (((l[k].toNat : Int) % 128) == 0) = true := by rw [beq_iff_eq]; omega
            clear hu hR hA h0
            by_cases h9 : k < 9
            · go_wp2_with fail
              go_ret3
              exact ⟨by rw [hn.out]; rfl, rfl⟩
            · have hb9 : ((k : Int) == 9) = true := by rw [beq_iff_eq]; omega
              go_wp2_with fail
              go_ret3
              exact ⟨by rw [hn.out]; rfl, rfl⟩
          · have hv := Lib.hid (rdV_some (n := acc + l[k].toNat % 128 * 128 ^ k) (k := k + 1) (by have := hu.out; rwa [if_neg hA, if_neg hB, if_neg hC] at this))
            have hA9 : k = 9 → l[k].toNat ≤ 1 := by omega
            have hC' : l[k].toNat < 1 → k ≤ 0 := by omega
            clear hu hR hA hC
            by_cases h9 : k < 9
            · clear hA9
              by_cases h0 : l[k].toNat < 1
              · have hk0 : k ≤ 0 := hC' h0
                have hb0 : (((l[k].toNat : Int) % 128) == 0) = true := by rw [beq_iff_eq]; omega
                clear hC' h0
                go_wp2_with fail
                go_ret3
                exact ⟨by rw [hv.out]; rfl, rfl⟩
              · have hb0 : (((l[k].toNat : Int) % 128) == 0) = false := by rw [beq_eq_false_iff_ne]; omega
                clear hC'
                go_wp2_with fail
                go_ret3
                exact ⟨by rw [hv.out]; rfl, rfl⟩
            · have hc1 : l[k].toNat ≤ 1 := hA9 (by omega)
              have hc2 : 1 ≤ l[k].toNat := by
                rcases Nat.lt_or_ge l[k].toNat 1 with h | h
                · have := hC' h; omega
                · exact h
              have hb9 : ((k : Int) == 9) = true := by rw [beq_iff_eq]; omega
              have hb0 : (((l[k].toNat : Int) % 128) == 0) = false := by rw [beq_eq_false_iff_ne]; omega
              clear hC' hA9
              go_wp2_with fail
              go_ret3
              exact ⟨by rw [hv.out]; rfl, rfl⟩
    · have hn := Lib.hid (rdV_none (hR.out.1.out (by omega)))
      clear hcell hR
      by_cases hlt2 : k < l.length
      · go_wp2_with fail
        go_ret3
        exact ⟨by rw [hn.out]; rfl, rfl⟩
      · go_wp2_with fail
        go_ret3
        exact ⟨by rw [hn.out]; rfl, rfl⟩

set_option maxRecDepth 100000 in
set_option maxHeartbeats 1000000 in
theorem refReadNumber_empty (w : World) (A : Option Addr) (c : Nat) :
    Calls Try.prog 31 #[.slice A 0 c] w fun e w' => e = .returned (rdV []) ∧ w = w' := by
  go_enter Try.func31, Try.ntmps31
  go_wp2_with fail
  refine wp_loop_rounds 1 ?_
  rw [rounds_succ]
  go_wp2_with fail
  go_ret3
  exact ⟨rfl, rfl⟩

/-- louperef03.ReadNumber, whatever bytes. -/
theorem refReadNumber_gives (w : World) (B : Nat) (A : Option Addr) (c : Nat) (l : List UInt8) (h : InB w B A c l) :
    Calls Try.prog 31 #[.slice A l.length c] w fun e w' => e = .returned (rdV l) ∧ w = w' := by
  rcases Nat.eq_zero_or_pos l.length with h0 | h0
  · obtain rfl := List.eq_nil_of_length_eq_zero h0
    exact refReadNumber_empty w A c
  · obtain ⟨g, o, rfl, _, hc⟩ := h.lies h0
    exact refReadNumber_some w g o c l h0 h.le h.max hc
end Go.Proofs.Ytlelckdcmlpmdaa
/- octet.ReadFour, ReadEight and what they call; louperef03.ReadFixed. -/
namespace Go.Proofs.Ytlelckdcmlpmdaa
open Go Go.RowKit Lou

/-- A reader: its one field, in a block of the call's own. -/
theorem has_gives (w : World) (g o : Nat) (A : Option Addr) (len c n : Nat) (hlen : len ≤ 9223372036854775807) (hc : w.cell? ⟨g, o, none⟩ = some (.slice A len c)) :
    Calls Try.prog 102 #[.pointer (some ⟨g, o, none⟩), .int .u64 n] w fun e w' => e = .returned (.bool (decide (n ≤ len))) ∧ w = w' := by
  go_enter Try.func102, Try.ntmps102
  go_wp2
  go_ret
  exact ⟨rfl, rfl⟩

theorem take_gives (w : World) (g o : Nat) (A : Option Addr) (len c n : Nat) (hlen : len ≤ c) (hcc : c ≤ 9223372036854775807) (hn : n ≤ len) (hc : w.cell? ⟨g, o, none⟩ = some (.slice A len c)) (hf : w.frozen? ⟨g, o, none⟩ = false) :
    Calls Try.prog 103 #[.pointer (some ⟨g, o, none⟩), .int .i64 n] w fun e w' => e = .returned (.slice A n n) ∧ w.setCell ⟨g, o, none⟩ (.slice (cutA A c n) (len - n) (c - n)) = w' := by
  by_cases hcn : c = n
  · obtain rfl : len = c := by omega
    subst hcn
    go_enter Try.func103, Try.ntmps103
    go_wp2
    go_ret
    refine ⟨rfl, ?_⟩
    simp [cutA]
  · go_enter Try.func103, Try.ntmps103
    go_wp2
    go_ret
    refine ⟨rfl, ?_⟩
    simp [cutA, hcn]

theorem rfix_snoc (l : List UInt8) (c : UInt8) : rfix (l ++ [c]) = 256 * rfix l + c.toNat := by simp [rfix]
theorem rfix_take_succ {l : List UInt8} {k : Nat} (hk : k < l.length) : rfix (l.take (k + 1)) = 256 * rfix (l.take k) + l[k].toNat := by
  rw [List.take_succ_eq_append_getElem hk, rfix_snoc]
theorem rfix_take_lt {l : List UInt8} {k m : Nat} (hk : k ≤ m) (hm : m ≤ 8) : rfix (l.take k) < 18446744073709551616 := by
  have h1 := rfix_lt (l.take k)
  have h2 : 256 ^ (l.take k).length ≤ 256 ^ 8 := Nat.pow_le_pow_right (by omega) (by simp; omega)
  have h3 : (256 : Nat) ^ 8 = 18446744073709551616 := by decide
  omega
theorem rfix_mul {l : List UInt8} {k m : Nat} (hk : k < m) (hm : m ≤ 8) : IntKind.u64.wrap (256 * (rfix (l.take k) : Int)) = 256 * (rfix (l.take k) : Int) := by
  have h1 := rfix_lt (l.take k)
  have h2 : 256 ^ (l.take k).length ≤ 256 ^ 7 := Nat.pow_le_pow_right (by omega) (by simp; omega)
  have h3 : (256 : Nat) ^ 7 = 72057594037927936 := by decide
  rw [IntKind.wrap_u64]
  omega
theorem rfix_add {l : List UInt8} {k m : Nat} (hl : k < l.length) (hk : k < m) (hm : m ≤ 8) : IntKind.u64.wrap (256 * (rfix (l.take k) : Int) + (l[k].toNat : Int)) = (rfix (l.take (k + 1)) : Int) := by
  rw [rfix_take_succ hl, IntKind.wrap_u64]
  have h1 := rfix_take_lt (l := l) (show k + 1 ≤ m from hk) hm
  rw [rfix_take_succ hl] at h1
  omega
theorem rfix_or {l : List UInt8} {k m : Nat} (hl : k < l.length) (hk : k < m) (hm : m ≤ 8) : bits .or .u64 (IntKind.u64.wrap ((rfix (l.take k) : Int) * 256)) (l[k].toNat : Int) = (rfix (l.take (k + 1)) : Int) := by
  have h0 := rfix_mul (l := l) hk hm
  rw [Int.mul_comm, h0]
  have hc := l[k].toNat_lt
  have h1 := rfix_take_lt (l := l) (show k + 1 ≤ m from hk) hm
  rw [rfix_take_succ hl] at h1
  have h2 := u64_or_nat (256 * rfix (l.take k)) l[k].toNat (by omega) (by omega)
  rw [show 256 * (rfix (l.take k) : Int) = ((256 * rfix (l.take k) : Nat) : Int) from by omega, h2, rfix_take_succ hl]
  congr 1
  exact nat_join 8 _ _ (by omega) (by omega)

def fixV (m : Nat) (l : List UInt8) : Value := if l.length < m then .tuple #[.int .u64 0, .int .i64 130] else .tuple #[.int .u64 (rfix (l.take m) : Int), .int .i64 0]

set_option maxRecDepth 100000 in
set_option maxHeartbeats 1000000 in
theorem refReadFixed_gives (w : World) (B : Nat) (A : Option Addr) (c : Nat) (l : List UInt8) (m : Nat) (hm : m ≤ 8) (h : InB w B A c l) :
    Calls Try.prog 41 #[.slice A l.length c, .int .i64 m] w fun e w' => e = .returned (fixV m l) ∧ w = w' := by
  have hle := h.le
  have hmax := h.max
  unfold fixV
  by_cases hs : l.length < m
  · rw [if_pos hs]
    go_enter Try.func41, Try.ntmps41
    go_wp2_with fail
    go_ret2
    exact ⟨rfl, rfl⟩
  · rw [if_neg hs]
    go_enter Try.func41, Try.ntmps41
    go_wp2_with fail
    go_loop [6, 7] (fun s i => ∃ k : Nat, k ≤ m ∧ i = .int .i64 k ∧ s = .int .u64 (rfix (l.take k) : Int)) (fun _ i => m - (intOf i).toNat)
    case atStart => exact ⟨0, by omega, rfl, rfl⟩
    case round =>
      obtain ⟨k, hk, rfl, rfl⟩ := hrel
      by_cases hlt : k < m
      · have hkl : k < l.length := by omega
        obtain ⟨g, o, rfl, _, hc⟩ := h.lies (by omega)
        have hck := hc k hkl
        clear hc
        have hbd := (l[k]).toNat_lt
        have h1 := rfix_mul (l := l) hlt hm
        have h2 := rfix_add hkl hlt hm
        go_wp2_with fail
        refine ⟨⟨k + 1, by omega, by go_num, rfl⟩, by simp [intOf]; omega⟩
      · obtain rfl : k = m := by omega
        go_wp2_with fail
        go_ret2
        exact ⟨rfl, rfl⟩

set_option maxRecDepth 100000 in
set_option maxHeartbeats 1000000 in
theorem rnumber_gives (w : World) (g B : Nat) (A : Option Addr) (c : Nat) (l : List UInt8) (m : Nat) (hm : m ≤ 8) (hB : B ≤ g) (h : InB w B A c l) (hc : w.cell? ⟨g, 0, none⟩ = some (.slice A l.length c)) (hf : w.frozen? ⟨g, 0, none⟩ = false) :
    Calls Try.prog 104 #[.pointer (some ⟨g, 0, none⟩), .int .i64 m] w fun e w' => e = .returned (fixV m l) ∧ Below g w w' := by
  have hle := h.le
  have hmax := h.max
  unfold fixV
  by_cases hs : l.length < m
  · rw [if_pos hs]
    have hd : decide (m ≤ l.length) = false := by simp; omega
    go_enter Try.func104, Try.ntmps104
    go_wp2_with (first | (go_at_call 102; refine (has_gives _ g 0 A l.length c m (by omega) hc).mono ?_; rintro e w' ⟨rfl, rfl⟩))
    go_ret2
    exact ⟨rfl, Below.refl _ _⟩
  · rw [if_neg hs]
    have hd : decide (m ≤ l.length) = true := by simp; omega
    have hin : InB (w.setCell ⟨g, 0, none⟩ (.slice (cutA A c m) (l.length - m) (c - m))) B A c l := h.keep fun p hp => World.cell?_setCell_other w _ p _ (fun e => by subst e; simp at hp; omega)
    go_enter Try.func104, Try.ntmps104
    go_wp2_with (first | (go_at_call 102; refine (has_gives _ g 0 A l.length c m (by omega) hc).mono ?_; rintro e w' ⟨rfl, rfl⟩) | (go_at_call 103; refine (take_gives _ g 0 A l.length c m (by omega) (by omega) (by omega) hc hf).mono ?_; rintro e w' ⟨rfl, rfl⟩))
    clear hc
    have hb : Below g w (w.setCell ⟨g, 0, none⟩ (.slice (cutA A c m) (l.length - m) (c - m))) := (Below.refl g w).setCell (p := ⟨g, 0, none⟩) (Nat.le_refl g) _
    generalize w.setCell ⟨g, 0, none⟩ (.slice (cutA A c m) (l.length - m) (c - m)) = W at *
    go_loop [4, 21] (fun s i => ∃ k : Nat, k ≤ m ∧ i = .int .i64 k ∧ s = .int .u64 (rfix (l.take k) : Int)) (fun _ i => m - (intOf i).toNat)
    case atStart => exact ⟨0, by omega, rfl, rfl⟩
    case round =>
      obtain ⟨k, hk, rfl, rfl⟩ := hrel
      by_cases hlt : k < m
      · have hkl : k < l.length := by omega
        obtain ⟨g', o, rfl, _, hc⟩ := hin.lies (by omega)
        have hck := hc k hkl
        clear hc
        have hbd := (l[k]).toNat_lt
        have h1 := rfix_or hkl hlt hm
        go_wp2_with fail
        refine ⟨⟨k + 1, by omega, by go_num, rfl⟩, by simp [intOf]; omega⟩
      · obtain rfl : k = m := by omega
        go_wp2_with fail
        go_ret2
        exact ⟨rfl, hb⟩

def fixV32 (l : List UInt8) : Value := if l.length < 4 then .tuple #[.int .u32 0, .int .i64 130] else .tuple #[.int .u32 (rfix (l.take 4) : Int), .int .i64 0]

theorem fixV_lt {m : Nat} {l : List UInt8} (h : l.length < m) : fixV m l = .tuple #[.int .u64 0, .int .i64 130] := by unfold fixV; rw [if_pos h]
theorem fixV_ge {m : Nat} {l : List UInt8} (h : ¬ l.length < m) : fixV m l = .tuple #[.int .u64 (rfix (l.take m) : Int), .int .i64 0] := by unfold fixV; rw [if_neg h]
theorem fixV32_lt {l : List UInt8} (h : l.length < 4) : fixV32 l = .tuple #[.int .u32 0, .int .i64 130] := by unfold fixV32; rw [if_pos h]
theorem fixV32_ge {l : List UInt8} (h : ¬ l.length < 4) : fixV32 l = .tuple #[.int .u32 (rfix (l.take 4) : Int), .int .i64 0] := by unfold fixV32; rw [if_neg h]

set_option maxRecDepth 100000 in
theorem readEight_gives (w : World) (A : Option Addr) (c : Nat) (l : List UInt8) (h : InB w w.heap.size A c l) :
    Calls Try.prog 40 #[.slice A l.length c] w fun e w' => e = .returned (fixV 8 l) ∧ Below w.heap.size w w' := by
  have hb : Below w.heap.size w (w.alloc (Obj.cells #[Value.slice A l.length c] 196)) := (Below.refl _ _).alloc (Nat.le_refl _) _
  have H := rnumber_gives (w.alloc (Obj.cells #[Value.slice A l.length c] 196)) w.heap.size w.heap.size A c l 8 (by omega) (Nat.le_refl _) (h.below hb) (new_cell _ _ _) (new_free _ _ _ _)
  by_cases hs : l.length < 8
  · rw [fixV_lt hs] at H ⊢
    go_enter Try.func40, Try.ntmps40
    go_wp2_with (go_at_call 104; refine H.mono ?_; rintro e w' ⟨rfl, hb2⟩)
    go_ret2
    exact ⟨rfl, hb.trans hb2⟩
  · rw [fixV_ge hs] at H ⊢
    go_enter Try.func40, Try.ntmps40
    go_wp2_with (go_at_call 104; refine H.mono ?_; rintro e w' ⟨rfl, hb2⟩)
    go_ret2
    exact ⟨rfl, hb.trans hb2⟩

set_option maxRecDepth 100000 in
theorem readFour_gives (w : World) (A : Option Addr) (c : Nat) (l : List UInt8) (h : InB w w.heap.size A c l) :
    Calls Try.prog 39 #[.slice A l.length c] w fun e w' => e = .returned (fixV32 l) ∧ Below w.heap.size w w' := by
  have hb : Below w.heap.size w (w.alloc (Obj.cells #[Value.slice A l.length c] 196)) := (Below.refl _ _).alloc (Nat.le_refl _) _
  have H := rnumber_gives (w.alloc (Obj.cells #[Value.slice A l.length c] 196)) w.heap.size w.heap.size A c l 4 (by omega) (Nat.le_refl _) (h.below hb) (new_cell _ _ _) (new_free _ _ _ _)
  by_cases hs : l.length < 4
  · rw [fixV_lt hs] at H
    rw [fixV32_lt hs]
    go_enter Try.func39, Try.ntmps39
    go_wp2_with (go_at_call 104; refine H.mono ?_; rintro e w' ⟨rfl, hb2⟩)
    go_ret2
    exact ⟨rfl, hb.trans hb2⟩
  · rw [fixV_ge hs] at H
    rw [fixV32_ge hs]
    have h4 : rfix (l.take 4) < 4294967296 := by
      have h1 := rfix_lt (l.take 4)
      have h2 : 256 ^ (l.take 4).length ≤ 256 ^ 4 := Nat.pow_le_pow_right (by omega) (by simp; omega)
      have h3 : (256 : Nat) ^ 4 = 4294967296 := by decide
      omega
    go_enter Try.func39, Try.ntmps39
    go_wp2_with (go_at_call 104; refine H.mono ?_; rintro e w' ⟨rfl, hb2⟩)
    go_ret2
    exact ⟨rfl, hb.trans hb2⟩
end Go.Proofs.Ytlelckdcmlpmdaa
/- octet.String, ReadString; louperef03.String, ReadString. -/
namespace Go.Proofs.Ytlelckdcmlpmdaa
open Go Go.RowKit Lou

/-- A string's bytes. -/
def strL (l : List UInt8) : List UInt8 := num l.length ++ l

theorem OwnB.below {w0 w w' : World} {v : Value} {l : List UInt8} (h : OwnB w w0.heap.size v l) (hb : Below w0.heap.size w0 w) (hg : w.grownBy w' v.ownBlock) : Below w0.heap.size w0 w' :=
  hb.grown hg hb.size (fun k hk => (World.ownsRow.lt h k hk).1)

set_option maxRecDepth 100000 in
theorem string_gives (l : List UInt8) (hl : l.length ≤ 1000000000) (w : World) : Calls Try.prog 32 #[.string (str l)] w (GivesB w (strL l)) := by
  have hsz := str_size l
  have hn := num_length l.length
  go_enter Try.func32, Try.ntmps32
  go_wp2_with fail
  refine (number_gives l.length (by omega) _).mono ?_
  rintro e w1 ⟨v, rfl, hown, hB⟩
  go_wp2_with (at_builtin; refine wp_appS rfl _ _ rfl w.heap.size v (num l.length) rfl hown (str l) rfl (by omega) hB.size ?_; intro v' w' hown' hgrow)
  go_ret
  exact ⟨v', rfl, hown', hown.below hB hgrow⟩

set_option maxRecDepth 100000 in
theorem refString_gives (l : List UInt8) (hl : l.length ≤ 1000000000) (w : World) : Calls Try.prog 35 #[.string (str l)] w (GivesB w (strL l)) := by
  have hsz := str_size l
  have hn := num_length l.length
  go_enter Try.func35, Try.ntmps35
  go_wp2_with fail
  refine (refNumber_gives l.length (by omega) _).mono ?_
  rintro e w1 ⟨v, rfl, hown, hB⟩
  go_wp2_with (at_builtin; refine wp_appS rfl _ _ rfl w.heap.size v (num l.length) rfl hown (str l) rfl (by omega) hB.size ?_; intro v' w' hown' hgrow)
  go_ret
  exact ⟨v', rfl, hown', hown.below hB hgrow⟩

/-- What a string's reading answers. -/
def rdS (l : List UInt8) : Option (List UInt8 × Nat) :=
  match rd l with
  | some (n, k) => if n ≤ l.length - k then some ((l.drop k).take n, k + n) else none
  | none => none
def rdSV (l : List UInt8) : Value :=
  match rdS l with
  | some (s, k) => .tuple #[.string (str s), .int .i64 (k : Int), .int .i64 0]
  | none => .tuple #[.string (str []), .int .i64 0, .int .i64 130]
theorem rdSV_a {l : List UInt8} (h : rd l = none) : rdSV l = .tuple #[.string (str []), .int .i64 0, .int .i64 130] := by unfold rdSV rdS; rw [h]
theorem rdSV_b {l : List UInt8} {n k : Nat} (h : rd l = some (n, k)) (hn : ¬ n ≤ l.length - k) : rdSV l = .tuple #[.string (str []), .int .i64 0, .int .i64 130] := by unfold rdSV rdS; rw [h]; simp only [if_neg hn]
theorem rdSV_c {l : List UInt8} {n k : Nat} (h : rd l = some (n, k)) (hn : n ≤ l.length - k) : rdSV l = .tuple #[.string (str ((l.drop k).take n)), .int .i64 ((k : Int) + (n : Int)), .int .i64 0] := by unfold rdSV rdS; rw [h]; simp only [if_pos hn]; rfl

set_option maxRecDepth 100000 in
set_option maxHeartbeats 1000000 in
theorem readString_gives (w : World) (A : Option Addr) (c : Nat) (l : List UInt8) (h : InB w w.heap.size A c l) :
    Calls Try.prog 33 #[.slice A l.length c] w fun e w' => e = .returned (rdSV l) ∧ Below w.heap.size w w' := by
  have hle := h.le
  have hmax := h.max
  have H := readNumber_gives w _ A c l h
  have hb0 : ∀ u, Below w.heap.size w (w.alloc (Obj.cells #[u] 196)) := fun u => (Below.refl _ _).alloc (Nat.le_refl _) _
  rcases hr : rd l with _ | ⟨n, k⟩
  · rw [rdV_none hr] at H
    have hS := Lib.hid (rdSV_a hr)
    clear hr
    go_enter Try.func33, Try.ntmps33
    go_wp2_with (first | (go_at_call 38; refine H.mono ?_; clear H; rintro e w' ⟨rfl, rfl⟩))
    go_ret3
    exact ⟨by rw [hS.out]; rfl, hb0 _⟩
  · rw [rdV_some hr] at H
    obtain ⟨hn64, hk1, hkl⟩ := rd_bound hr
    have hcut : (if c = k then A else Option.map (fun x => x.add k) A) = cutA A c k := rfl
    have hin : InB w w.heap.size (cutA A c k) (c - k) (l.drop k) := h.drop k hkl
    have hlen : (l.drop k).length = l.length - k := by simp
    have hN := Lib.hid hn64
    clear hn64
    by_cases hs : n ≤ l.length - k
    · have hS := Lib.hid (rdSV_c hr hs)
      have hd : decide (n ≤ l.length - k) = true := by simp [hs]
      have hin2 := hin.take n n (by omega) (Nat.le_refl _) (by omega)
      have hstr : ∀ W, Below w.heap.size w W → (convert 30 9 (.slice (cutA A c k) n n)).run Try.prog W = .ok (.string (str ((l.drop k).take n))) W := by
        intro W hW
        have := (hin2.below hW).string
        rwa [List.length_take, hlen, Nat.min_eq_left hs] at this
      clear hr hin hin2
      go_enter Try.func33, Try.ntmps33
      go_wp2_with (first
        | (go_at_call 38; refine H.mono ?_; clear H; rintro e w' ⟨rfl, rfl⟩)
        | (go_at_call 102; refine (has_gives _ w.heap.size 0 (cutA A c k) (l.length - k) (c - k) n (by omega) (new_cell _ _ _)).mono ?_; rintro e w' ⟨rfl, rfl⟩)
        | (go_at_call 103; refine (take_gives _ w.heap.size 0 (cutA A c k) (l.length - k) (c - k) n (by omega) (by omega) (by omega) (new_cell _ _ _) (new_free _ _ _ _)).mono ?_; rintro e w' ⟨rfl, rfl⟩))
      go_ret3
      exact ⟨by rw [hS.out]; rfl, by first | exact hb0 _ | exact (hb0 _).setCell (p := ⟨w.heap.size, 0, none⟩) (Nat.le_refl _) _⟩
    · have hS := Lib.hid (rdSV_b hr hs)
      have hd : decide (n ≤ l.length - k) = false := by simp; omega
      clear hr hin
      go_enter Try.func33, Try.ntmps33
      go_wp2_with (first
        | (go_at_call 38; refine H.mono ?_; clear H; rintro e w' ⟨rfl, rfl⟩)
        | (go_at_call 102; refine (has_gives _ w.heap.size 0 (cutA A c k) (l.length - k) (c - k) n (by omega) (new_cell _ _ _)).mono ?_; rintro e w' ⟨rfl, rfl⟩))
      go_ret3
      exact ⟨by rw [hS.out]; rfl, hb0 _⟩

set_option maxRecDepth 100000 in
set_option maxHeartbeats 1000000 in
theorem refReadString_gives (w : World) (A : Option Addr) (c : Nat) (l : List UInt8) (h : InB w w.heap.size A c l) :
    Calls Try.prog 34 #[.slice A l.length c] w fun e w' => e = .returned (rdSV l) ∧ w = w' := by
  have hle := h.le
  have hmax := h.max
  have H := refReadNumber_gives w _ A c l h
  rcases hr : rd l with _ | ⟨n, k⟩
  · rw [rdV_none hr] at H
    have hS := Lib.hid (rdSV_a hr)
    clear hr
    go_enter Try.func34, Try.ntmps34
    go_wp2_with (first | (go_at_call 31; refine H.mono ?_; clear H; rintro e w' ⟨rfl, rfl⟩))
    go_ret3
    exact ⟨by rw [hS.out]; rfl, rfl⟩
  · rw [rdV_some hr] at H
    obtain ⟨hn64, hk1, hkl⟩ := rd_bound hr
    have hcut : (if c = k then A else Option.map (fun x => x.add k) A) = cutA A c k := rfl
    have hin : InB w w.heap.size (cutA A c k) (c - k) (l.drop k) := h.drop k hkl
    have hlen : (l.drop k).length = l.length - k := by simp
    have hN := Lib.hid hn64
    clear hn64
    by_cases hs : n ≤ l.length - k
    · have hS := Lib.hid (rdSV_c hr hs)
      have hin2 := hin.take n (c - k) (by omega) (by omega) (by omega)
      have hstr : (convert 30 9 (.slice (cutA A c k) n (c - k))).run Try.prog w = .ok (.string (str ((l.drop k).take n))) w := by
        have := hin2.string
        rwa [List.length_take, hlen, Nat.min_eq_left hs] at this
      clear hr hin hin2
      go_enter Try.func34, Try.ntmps34
      go_wp2_with (first | (go_at_call 31; refine H.mono ?_; clear H; rintro e w' ⟨rfl, rfl⟩))
      go_ret3
      exact ⟨by rw [hS.out]; rfl, rfl⟩
    · have hS := Lib.hid (rdSV_b hr hs)
      clear hr hin
      go_enter Try.func34, Try.ntmps34
      go_wp2_with (first | (go_at_call 31; refine H.mono ?_; clear H; rintro e w' ⟨rfl, rfl⟩))
      go_ret3
      exact ⟨by rw [hS.out]; rfl, rfl⟩
end Go.Proofs.Ytlelckdcmlpmdaa
/- frame: within (slices.ContainsFunc over ints), Check, place, Sectors, FrameAt, PageAt. -/
namespace Go.Proofs.Ytlelckdcmlpmdaa
open Go Go.RowKit Lou

/-- Numbers that lie in a row. -/
structure InN (w : World) (A : Option Addr) (xs : List Int) : Prop where
  lies : 0 < xs.length → ∃ g o, A = some ⟨g, o, none⟩ ∧ ∀ j (h : j < xs.length), w.cell? ⟨g, o + j, none⟩ = some (.int .i64 xs[j])

theorem wrap_i64_fr (n : Int) (h0 : -9223372036854775808 ≤ n) (h1 : n < 9223372036854775808) : IntKind.i64.wrap n = n := by
  simp [IntKind.wrap, IntKind.bits, IntKind.signed]
  split <;> omega

set_option maxRecDepth 100000 in
set_option maxHeartbeats 1000000 in
theorem indexFunc_gives (w : World) (A : Option Addr) (c : Nat) (xs : List Int) (h : InN w A xs) (hmax : xs.length ≤ 9223372036854775807) (p : Int → Bool) (f : FuncId) (lb : Array Value) (ef : ∀ args w, (callFunc f args).run Try.prog w = .ok (.enter f args) w)
    (hf : ∀ x, Calls Try.prog f (#[.int .i64 x] ++ lb) w fun e w' => e = .returned (.bool (p x)) ∧ w = w') :
    Calls Try.prog 201 #[.slice A xs.length c, .func (.func f) #[] lb] w fun e w' => (∃ k : Int, e = .returned (.int .i64 k) ∧ decide (0 ≤ k) = xs.any p) ∧ w = w' := by
  go_enter Try.func201, Try.ntmps201
  go_wp2_with fail
  go_loop [8] (fun i => ∃ k : Nat, k ≤ xs.length ∧ i = .int .i64 k ∧ Hid ((xs.take k).any p = false)) (fun i => xs.length - (intOf i).toNat)
  case atStart => exact ⟨0, Nat.zero_le _, rfl, Lib.hid (by simp)⟩
  case round =>
    obtain ⟨k, hk, rfl, hno⟩ := hrel
    by_cases hlt : k < xs.length
    · obtain ⟨g, o, rfl, hc⟩ := h.lies (by omega)
      have hck := hc k hlt
      have H := hf xs[k]
      clear hc hf
      have hk1 : IntKind.i64.wrap ((k : Int) + 1) = (k : Int) + 1 := wrap_i64_fr _ (by omega) (by omega)
      have hnext : p xs[k] = false → (xs.take (k + 1)).any p = false := by
        intro hp
        rw [List.take_succ_eq_append_getElem hlt, List.any_append, hno.out]
        simp [hp]
      have hyes : p xs[k] = true → xs.any p = true := fun hp => List.any_eq_true.2 ⟨xs[k], List.getElem_mem hlt, hp⟩
      cases hp : p xs[k] with
      | true =>
        have hy := hyes hp
        rw [hp] at H
        go_wp2_with fail
        refine H.mono ?_
        clear H
        rintro e w' ⟨rfl, rfl⟩
        go_wp2
        go_ret
        exact ⟨⟨(k : Int), rfl, by rw [hy]; simp⟩, rfl⟩
      | false =>
        have hn := Lib.hid (hnext hp)
        rw [hp] at H
        clear hnext hyes
        go_wp2_with fail
        refine H.mono ?_
        clear H
        rintro e w' ⟨rfl, rfl⟩
        go_wp2
        refine ⟨⟨k + 1, by omega, by go_num, hn⟩, by simp [intOf]; omega⟩
    · obtain rfl : k = xs.length := by omega
      have hn := hno.out
      rw [List.take_length] at hn
      have hN := Lib.hid hn
      clear hn hno hf
      go_wp2
      go_ret
      exact ⟨⟨-1, rfl, by rw [hN.out]; simp⟩, rfl⟩

set_option maxRecDepth 100000 in
set_option maxHeartbeats 1000000 in
theorem within1_gives (w : World) (a b : Addr) (lo hi x : Int) (ha : w.cell? a = some (.int .i64 lo)) (hb : w.cell? b = some (.int .i64 hi)) :
    Calls Try.prog 174 (#[.int .i64 x] ++ #[.pointer (some a), .pointer (some b)]) w fun e w' => e = .returned (.bool (decide (x < lo) || decide (hi < x))) ∧ w = w' := by
  by_cases h1 : x < lo
  · go_enter Try.func174, Try.ntmps174
    go_wp2
    go_ret
    exact ⟨by simp [h1], rfl⟩
  · go_enter Try.func174, Try.ntmps174
    go_wp2
    go_ret
    have h2 : decide (x < lo) = false := decide_eq_false (by omega)
    exact ⟨by rw [h2, Bool.false_or]; rfl, rfl⟩

def isIn (lo hi : Int) (xs : List Int) : Bool := !xs.any (fun x => decide (x < lo) || decide (hi < x))
theorem isIn_one (lo hi x : Int) : isIn lo hi [x] = decide (lo ≤ x ∧ x ≤ hi) := by
  simp only [isIn, List.any_cons, List.any_nil, Bool.or_false]
  by_cases h1 : x < lo <;> by_cases h2 : hi < x <;> simp [h1, h2] <;> omega
theorem isIn_two (lo hi x y : Int) : isIn lo hi [x, y] = (isIn lo hi [x] && isIn lo hi [y]) := by
  simp [isIn, Bool.not_or]

set_option maxRecDepth 100000 in
set_option maxHeartbeats 1000000 in
theorem within_gives (w : World) (A : Option Addr) (c : Nat) (xs : List Int) (h : InN w A xs) (hA : ∀ g o, A = some ⟨g, o, none⟩ → g < w.heap.size) (hmax : xs.length ≤ 9223372036854775807) (lo hi : Int) :
    Calls Try.prog 126 #[.int .i64 lo, .int .i64 hi, .slice A xs.length c] w fun e w' => e = .returned (.bool (isIn lo hi xs)) ∧ Below w.heap.size w w' := by
  have hb : Below w.heap.size w ((w.alloc (.cells #[.int .i64 lo] 3)).alloc (.cells #[.int .i64 hi] 3)) := ((Below.refl _ _).alloc (Nat.le_refl _) _).alloc (by simp) _
  have b0 := (BlkIs.new w 3 #[.int .i64 lo]).alloc (.cells #[.int .i64 hi] 3)
  have b1 := BlkIs.new (w.alloc (.cells #[.int .i64 lo] 3)) 3 #[.int .i64 hi]
  rw [World.size_alloc] at b1
  have hin : InN ((w.alloc (.cells #[.int .i64 lo] 3)).alloc (.cells #[.int .i64 hi] 3)) A xs := ⟨fun hl => by
    obtain ⟨g, o, e, hc⟩ := h.lies hl
    exact ⟨g, o, e, fun j hj => (hb.cell (p := ⟨g, o + j, none⟩) (hA g o e)).trans (hc j hj)⟩⟩
  have H := indexFunc_gives _ A c xs hin hmax (fun x => decide (x < lo) || decide (hi < x)) 174 #[.pointer (some ⟨w.heap.size, 0, none⟩), .pointer (some ⟨w.heap.size + 1, 0, none⟩)] (enters_of Try.func174 (by kernel_rfl) rfl)
    (fun x => within1_gives _ _ _ lo hi x b0.boxed b1.boxed)
  have H2 : Calls Try.prog 173 #[.slice A xs.length c, .func (.func 174) #[] #[.pointer (some ⟨w.heap.size, 0, none⟩), .pointer (some ⟨w.heap.size + 1, 0, none⟩)]] ((w.alloc (.cells #[.int .i64 lo] 3)).alloc (.cells #[.int .i64 hi] 3))
      fun e w' => e = .returned (.bool (xs.any (fun x => decide (x < lo) || decide (hi < x)))) ∧ ((w.alloc (.cells #[.int .i64 lo] 3)).alloc (.cells #[.int .i64 hi] 3)) = w' := by
    go_enter Try.func173, Try.ntmps173
    go_wp2_with fail
    refine H.mono ?_
    rintro e w' ⟨⟨k, rfl, hk⟩, rfl⟩
    have hK := Lib.hid hk
    clear hk
    go_wp2
    go_ret
    exact ⟨congrArg (fun b => Ending.returned (.bool b)) hK.out, rfl⟩
  clear H
  go_enter Try.func126, Try.ntmps126
  go_wp2_with fail
  refine H2.mono ?_
  rintro e w' ⟨rfl, rfl⟩
  go_wp2
  go_ret
  exact ⟨rfl, hb⟩
end Go.Proofs.Ytlelckdcmlpmdaa
/- slices.Grow, Concat, Repeat, Clone over bytes. -/
namespace Go.Proofs.Ytlelckdcmlpmdaa
open Go Go.RowKit Lou

set_option maxRecDepth 100000 in
set_option maxHeartbeats 1000000 in
theorem grow_gives (n : Nat) (hn : n ≤ 140737488355328) (w : World) : Calls Try.prog 184 #[.slice none 0 0, .int .i64 n] w (GivesB w []) := by
  obtain ⟨i0, hi, hz0, hz1, hz2⟩ := info_parts inf_u8
  have e0 : IntKind.i64.wrap ((n : Int) - 0) = (n : Int) := by rw [wrap_i64_fr _ (by omega) (by omega)]; omega
  have e1 : IntKind.i64.wrap (n : Int) = (n : Int) := wrap_i64_fr _ (by omega) (by omega)
  by_cases h0 : 0 < n
  · have hr := Lib.run_append_nil_zeros (P := Try.prog) w 30 3 30 5 i0 (.int .u8 0) .i64 .i64 Try.underlying30 Try.underlying3 hi hz0 n h0 (by omega) (by omega) (by rw [hz2]; omega)
    have hcap := grownCap_le_maxLen w n 0 5 (by unfold maxLen; omega)
    have hcap' : grownCap w n 0 5 ≤ 9223372036854775807 := by unfold maxLen at hcap; omega
    have hge := grownCap_ge w n 0 5
    go_enter Try.func184, Try.ntmps184
    generalize grownCap w n 0 5 = cap at *
    generalize hcur : Builtin.zeroCells (Value.int .u8 0).cells n ++ Builtin.zeroCells (Value.int .u8 0).cells (cap - n) = cur at *
    go_wp2_with (at_builtin; refine Lib.wpList_append_run _ rfl (.tmp 20) (.tmp 21) _ _ rfl _ _ rfl rfl _ _ hr ?_)
    go_ret
    have hB0 : Below w.heap.size w (w.drew.alloc (.cells cur 5)) := ((Below.refl _ w).drew).alloc (Nat.le_refl _) _
    refine ⟨_, rfl, ⟨by simp, .inr ⟨w.heap.size, cap, cur, rfl, Nat.le_refl _, heap_alloc_new w.drew _, Nat.zero_le _, hcap, ?_, by simp⟩⟩, hB0⟩
    rw [← hcur, Array.size_append, size_zeroCells, size_zeroCells]
    simp [Value.cells]
    omega
  · obtain rfl : n = 0 := by omega
    go_enter Try.func184, Try.ntmps184
    go_wp2
    go_ret
    exact ⟨_, rfl, OwnB.nil _ _, Below.refl _ _⟩

theorem take_flat (ls : List (List UInt8)) (k : Nat) (h : k < ls.length) : (ls.take (k + 1)).flatten = (ls.take k).flatten ++ ls[k] := by
  rw [List.take_succ_eq_append_getElem h, List.flatten_append]
  simp
theorem flat_le (ls : List (List UInt8)) (k : Nat) : (ls.take k).flatten.length ≤ ls.flatten.length := by
  have : ls.flatten = (ls.take k).flatten ++ (ls.drop k).flatten := by rw [← List.flatten_append, List.take_append_drop]
  rw [this, List.length_append]
  omega

set_option maxRecDepth 100000 in
set_option maxHeartbeats 2000000 in
theorem concat_gives (w : World) (A : Option Addr) (c : Nat) (zs : List (Piece w w.heap.size)) (hI : InLL w w.heap.size A c zs) (hmax : (zs.map Piece.l).flatten.length ≤ 1000000000) :
    Calls Try.prog 142 #[.slice A zs.length c] w (GivesB w (zs.map Piece.l).flatten) := by
  have hle := hI.le
  have hmx := hI.max
  have hfl := fun k => flat_le (zs.map Piece.l) k
  have hnx : ∀ k (h : k < zs.length), ((zs.map Piece.l).take (k + 1)).flatten = ((zs.map Piece.l).take k).flatten ++ zs[k].1.2 := fun k h => by
    rw [take_flat _ _ (by simpa using h)]
    simp [Piece.l]
  have hall : ((zs.map Piece.l).take zs.length).flatten = (zs.map Piece.l).flatten := by rw [List.take_of_length_le (by simp)]
  generalize zs.map Piece.l = ls at *
  have HX := Lib.hid hnx
  have HA := Lib.hid hall
  clear hnx hall
  have hs0 : (ls.take 0).flatten = [] := by simp
  go_enter Try.func142, Try.ntmps142
  go_wp2_with fail
  go_loop [3, 11] (fun s i => ∃ k t : Nat, k ≤ zs.length ∧ i = .int .i64 k ∧ s = .int .i64 t ∧ t ≤ 1000000000 ∧ Hid (t = (ls.take k).flatten.length)) (fun _ i => zs.length - (intOf i).toNat)
  case atStart => exact ⟨0, 0, Nat.zero_le _, rfl, rfl, by omega, Lib.hid (by simp)⟩
  case round =>
    obtain ⟨k, t, hk, rfl, rfl, ht, hT⟩ := hrel
    by_cases hlt : k < zs.length
    · obtain ⟨g, o, rfl, hg, hc⟩ := hI.lies (by omega)
      have hck := hc k hlt
      have hval : zs[k].val = .slice zs[k].1.1.1 zs[k].1.2.length zs[k].1.1.2 := rfl
      rw [hval] at hck
      have hnext : t + zs[k].1.2.length = (ls.take (k + 1)).flatten.length := by rw [HX.out k hlt, List.length_append, hT.out]
      have hbd := hfl (k + 1)
      have hN := Lib.hid hnext
      have hbd2 : t + zs[k].1.2.length ≤ 1000000000 := by omega
      have hwr : IntKind.i64.wrap ((t : Int) + (zs[k].1.2.length : Int)) = (t : Int) + (zs[k].1.2.length : Int) := wrap_i64_fr _ (by omega) (by omega)
      clear hc hval hnext hbd hfl
      go_wp2_with fail
      exact ⟨⟨k + 1, t + zs[k].1.2.length, by omega, by simp, by simp, hbd2, hN⟩, by simp [intOf]; omega⟩
    · obtain rfl : k = zs.length := by omega
      go_wp2_with fail
      refine (grow_gives t (by omega) _).mono ?_
      rintro e w1 ⟨v, rfl, hown, hB⟩
      go_wp2_with fail
      go_loopw [6, 27] (fun v i wr => ∃ k : Nat, k ≤ zs.length ∧ i = .int .i64 k ∧ OwnB wr w.heap.size v (ls.take k).flatten ∧ Below w.heap.size w wr) (fun _ i _ => zs.length - (intOf i).toNat)
      case atStart => exact ⟨0, Nat.zero_le _, rfl, by simpa using hown, hB⟩
      case round =>
        obtain ⟨k, hk, rfl, hown, hB⟩ := hrel
        have hBs := hB.size
        by_cases hlt : k < zs.length
        · obtain ⟨g, o, rfl, hg, hc⟩ := hI.lies (by omega)
          have hck := (hB.cell (p := ⟨g, o + k, none⟩) hg).trans (hc k hlt)
          have hval : zs[k].val = .slice zs[k].1.1.1 zs[k].1.2.length zs[k].1.1.2 := rfl
          rw [hval] at hck
          have hz := (zs[k].2.below hB).more hBs
          have hbd := hfl (k + 1)
          rw [HX.out k hlt, List.length_append] at hbd
          clear hc hval hfl
          have t1 : (ls.take k).flatten.length + zs[k].1.2.length ≤ 140737488355328 := by omega
          go_wp2_with (at_builtin; refine wp_appB rfl (.tmp 31) (.tmp 32) rfl w.heap.size u6 (ls.take k).flatten (by rfl) hown wr.heap.size zs[k].1.1.1 zs[k].1.1.2 zs[k].1.2 (by rfl) hz t1 hBs ?_; intro v' w2 hown2 hg2; have hB2 := hown.below hB hg2)
          refine ⟨⟨k + 1, by omega, by simp, by rw [HX.out k hlt]; exact hown2, hB2⟩, by simp [intOf]; omega⟩
        · obtain rfl : k = zs.length := by omega
          go_wp2
          go_ret
          rw [HA.out] at hown
          exact ⟨_, rfl, hown, hB⟩
end Go.Proofs.Ytlelckdcmlpmdaa
/- A region that draws its order, by facts: one predicate a slot, each operation shown once, whatever the order. -/
namespace Go.Proofs.Ytlelckdcmlpmdaa
open Go Go.RowKit

/-- The world has grown: what lay lies as it lay. -/
def Grow (w w' : World) : Prop := Below w.heap.size w w'
theorem Grow.refl (w : World) : Grow w w := Below.refl _ _
theorem Grow.trans {a b c : World} (h : Grow a b) (k : Grow b c) : Grow a c := Below.trans h (Below.mono k h.size)
theorem Grow.drew (w : World) : Grow w w.drew := (Below.refl _ _).drew
theorem Grow.alloc (w : World) (o : Obj) : Grow w (w.alloc o) := (Below.refl _ _).alloc (Nat.le_refl _) o

namespace Reg
variable {P : Program} {ops : Array Oper} {FS : Tmp → Value → World → Prop}

/-- What is known of an operation's slot. -/
def FSd (FS : Tmp → Value → World → Prop) : Option Tmp → Value → World → Prop
  | some d, v, w => FS d v w
  | none, _, _ => True

/-- An operation is in order: from what is known of the slots that it looks at, it comes to what is claimed of its own. -/
def OpOk (P : Program) (ops : Array Oper) (FS : Tmp → Value → World → Prop) (w0 : World) (o : Oper) : Prop :=
  ∀ (a : Act) (w : World) (K : Act → World → Prop) (Q : Exit → Act → World → Prop), Grow w0 w → (∀ t, (o.looksAt ops).contains t = true → FS t (a.eval (.tmp t)) w) →
    (∀ v w', Grow w w' → FSd FS o.dst v w' → K (a.put o.dst v) w') →
    (if Region.wanted o (yielded ops a.tmps) then o.wp P a w K Q ∨ (o.asks P a w ∧ LetsOut Q) else K (a.put o.dst undef) w)

def AllOk (P : Program) (ops : Array Oper) (FS : Tmp → Value → World → Prop) (w0 : World) : List Oper → Prop
  | [] => True
  | o :: r => OpOk P ops FS w0 o ∧ AllOk P ops FS w0 r

theorem AllOk.get {w0 : World} : ∀ {l : List Oper}, AllOk P ops FS w0 l → ∀ o ∈ l, OpOk P ops FS w0 o
  | [], _, o, h => by cases h
  | x :: r, h, o, hm => by
    rcases List.mem_cons.1 hm with rfl | hm
    · exact h.1
    · exact AllOk.get h.2 o hm

/-- Each edge that binds leads back; each slot that an operation looks at and that the region writes is written by an operation that comes ahead by an edge. -/
def covered (ops : Array Oper) : Bool :=
  ops.toList.zipIdx.all fun (o, i) =>
    (o.after.toList.all fun e => !Region.binds .any e || decide (e.on < i)) &&
    (o.looksAt ops).all fun t => ops.toList.zipIdx.all fun (p, j) => p.dst != some t || (o.after.toList.any fun e => Region.binds .any e && e.on == j)

def Known (ops : Array Oper) (listed : Array Bool) (t : Tmp) : Prop := ∀ (j : Nat) (p : Oper), ops[j]? = some p → p.dst = some t → listed.getD j true = true

structure J (ops : Array Oper) (FS : Tmp → Value → World → Prop) (w0 : World) (n : Nat) (d : List Deferred) (listed : Array Bool) (a : Act) (w : World) : Prop where
  size : a.tmps.size = n
  defers : a.defers = d
  grow : Grow w0 w
  facts : ∀ t, Known ops listed t → FS t (a.eval (.tmp t)) w

theorem eval_put_same {a : Act} {d : Tmp} {v : Value} (h : d < a.tmps.size) : (a.put (some d) v).eval (.tmp d) = v := by
  simp [Act.put, Act.eval, h]
theorem eval_put_other {a : Act} {d t : Tmp} {v : Value} (h : t ≠ d) : (a.put (some d) v).eval (.tmp t) = a.eval (.tmp t) := by
  simp [Act.put, Act.eval, Array.getD_eq_getD_getElem?, Array.getElem?_setIfInBounds, Ne.symm h]

theorem ready_mem {i : Nat} {listed : Array Bool} (h : i ∈ Region.ready .any ops listed) : ∃ o, ops[i]? = some o ∧ listed.getD i true = false ∧ ∀ e ∈ o.after.toList, Region.binds .any e = true → listed.getD e.on false = true := by
  unfold Region.ready at h
  simp only [List.mem_filter, List.mem_range, Bool.and_eq_true, Bool.not_eq_true'] at h
  obtain ⟨hi, h1, h2⟩ := h
  cases ho : ops[i]? with
  | none => simp [ho] at h2
  | some o =>
    refine ⟨o, rfl, h1, ?_⟩
    simp only [ho, Option.map_some, Option.getD_some] at h2
    intro e he hb
    rw [Array.all_eq_true_iff_forall_mem] at h2
    have := h2 e (Array.mem_toList_iff.1 he)
    simpa [hb] using this

theorem covered_spec (h : covered ops = true) {i : Nat} {o : Oper} (ho : ops[i]? = some o) :
    (∀ e ∈ o.after.toList, Region.binds .any e = true → e.on < i) ∧
    (∀ t, (o.looksAt ops).contains t = true → ∀ (j : Nat) (p : Oper), ops[j]? = some p → p.dst = some t → ∃ e ∈ o.after.toList, Region.binds .any e = true ∧ e.on = j) := by
  unfold covered at h
  rw [List.all_eq_true] at h
  have hm : (o, i) ∈ ops.toList.zipIdx := by
    rw [List.mem_zipIdx_iff_getElem?]
    simpa using ho
  have := h _ hm
  simp only [Bool.and_eq_true, List.all_eq_true] at this
  obtain ⟨h1, h2⟩ := this
  constructor
  · intro e he hb
    have := h1 e he
    simpa [hb] using this
  · intro t ht j p hp hd
    have hp' : (p, j) ∈ ops.toList.zipIdx := by
      rw [List.mem_zipIdx_iff_getElem?]
      simpa using hp
    have := h2 t (by simpa using ht) _ hp'
    simp only [hd, bne_self_eq_false, Bool.false_or, List.any_eq_true, Bool.and_eq_true, beq_iff_eq] at this
    obtain ⟨e, he, hb, hj⟩ := this
    exact ⟨e, he, hb, hj⟩

/-- The number of operations that are still to come. -/
def left (listed : Array Bool) : Nat := (listed.toList.filter (! ·)).length

theorem region_wpAny (hm : P.follows .mixedOrders = true) (hcov : covered ops = true) {a0 : Act} {w0 : World} {Q : Exit → Act → World → Prop} (n : Nat) (hn : a0.tmps.size = n)
    (hdst : ∀ o ∈ ops.toList, ∀ d, o.dst = some d → d < n) (FS : Tmp → Value → World → Prop)
    (hstab : ∀ t v w w', FS t v w → Grow w w' → FS t v w')
    (hstart : ∀ t, (∀ o ∈ ops.toList, o.dst ≠ some t) → FS t (a0.eval (.tmp t)) w0)
    (hok : AllOk P ops FS w0 ops.toList)
    (hend : ∀ a w, a.tmps.size = n → a.defers = a0.defers → Grow w0 w → (∀ t, FS t (a.eval (.tmp t)) w) → Q .normal a w) :
    wpAny P .any ops Q ops.size (Array.replicate ops.size false) a0 { w0 with drawn := w0.drawn + 1 } := by
  have key : ∀ (fuel : Nat) (listed : Array Bool) (a : Act) (w : World), listed.size = ops.size → left listed ≤ fuel → J ops FS w0 n a0.defers listed a w → wpAny P .any ops Q fuel listed a w := by
    intro fuel
    have hdone : ∀ (listed : Array Bool) (a : Act) (w : World), listed.size = ops.size → J ops FS w0 n a0.defers listed a w → Region.ready .any ops listed = [] → Q .normal a w := by
      intro listed a w hs hJ hr
      have hall : ∀ i, i < ops.size → listed.getD i true = true := by
        intro i
        induction i using Nat.strongRecOn with
        | _ i ih =>
          intro hi
          cases hl : listed.getD i true with
          | true => rfl
          | false =>
            exfalso
            have : i ∈ Region.ready .any ops listed := by
              unfold Region.ready
              simp only [List.mem_filter, List.mem_range, Bool.and_eq_true, Bool.not_eq_true']
              refine ⟨hi, hl, ?_⟩
              have ho : ops[i]? = some ops[i] := Array.getElem?_eq_getElem hi
              simp only [ho, Option.map_some, Option.getD_some]
              rw [Array.all_eq_true_iff_forall_mem]
              intro e he
              have hc := (covered_spec hcov ho).1 e (Array.mem_toList_iff.2 he)
              cases hb : Region.binds .any e with
              | false => simp
              | true =>
                have hlt := hc hb
                have h1 := ih e.on hlt (by omega)
                have h2 : e.on < listed.size := by omega
                simp only [Array.getD, h2, dif_pos] at h1 ⊢
                simpa using h1
            rw [hr] at this
            cases this
      refine hend a w hJ.size hJ.defers hJ.grow (fun t => hJ.facts t ?_)
      intro j p hp _
      exact hall j (Array.getElem?_eq_some_iff.1 hp).1
    induction fuel with
    | zero =>
      intro listed a w hs hf hJ
      have hr : Region.ready .any ops listed = [] := by
        rcases hr : Region.ready .any ops listed with _ | ⟨i, r⟩
        · rfl
        · exfalso
          obtain ⟨o, ho, hl, _⟩ := ready_mem (ops := ops) (listed := listed) (i := i) (by rw [hr]; simp)
          have hi : i < listed.size := by rw [hs]; exact (Array.getElem?_eq_some_iff.1 ho).1
          have hmem : listed[i] ∈ listed.toList.filter (! ·) := by
            rw [List.mem_filter]
            refine ⟨by simp, ?_⟩
            have hl' : listed[i] = false := by simpa [Array.getD, hi] using hl
            simp [hl']
          have : 0 < left listed := List.length_pos_of_mem hmem
          omega
      exact ⟨hr, hdone listed a w hs hJ hr⟩
    | succ fuel ih =>
      intro listed a w hs hf hJ
      refine ⟨hdone listed a w hs hJ, fun i hi => ?_⟩
      obtain ⟨o, ho, hl, hedges⟩ := ready_mem hi
      have hom : o ∈ ops.toList := by
        obtain ⟨h1, h2⟩ := Array.getElem?_eq_some_iff.1 ho
        subst h2
        simp
      have hisz : i < listed.size := by rw [hs]; exact (Array.getElem?_eq_some_iff.1 ho).1
      have hlook : ∀ t, (o.looksAt ops).contains t = true → FS t (a.eval (.tmp t)) w := by
        intro t ht
        refine hJ.facts t ?_
        intro j p hp hd
        obtain ⟨e, he, hb, rfl⟩ := (covered_spec hcov ho).2 t ht j p hp hd
        have := hedges e he hb
        have hlt : e.on < listed.size := by rw [hs]; exact (Array.getElem?_eq_some_iff.1 hp).1
        simp only [Array.getD, hlt, dif_pos] at this ⊢
        exact this
      have hnext : ∀ v w', Grow w w' → FSd FS o.dst v w' → wpAny P .any ops Q fuel (listed.setIfInBounds i true) (a.put o.dst v) w' := by
        intro v w' hg hv
        refine ih _ _ _ (by simpa using hs) ?_ ⟨?_, ?_, hJ.grow.trans hg, ?_⟩
        · have hl' : listed[i] = false := by simpa [Array.getD, hisz] using hl
          have : left (listed.setIfInBounds i true) < left listed := by
            unfold left
            rw [Array.toList_setIfInBounds]
            have e1 : listed.toList = listed.toList.take i ++ false :: listed.toList.drop (i + 1) := by
              have h3 : listed.toList[i]'(by simpa using hisz) = false := by simpa using hl'
              conv => lhs; rw [← List.take_append_drop i listed.toList, List.drop_eq_getElem_cons (by simpa using hisz), h3]
            rw [List.set_eq_take_append_cons_drop, if_pos (by simpa using hisz)]
            conv => rhs; rw [e1]
            simp
          omega
        · cases hd : o.dst with
          | none => simpa [Act.put] using hJ.size
          | some d => simpa [Act.put] using hJ.size
        · cases hd : o.dst with
          | none => simpa [Act.put] using hJ.defers
          | some d => simpa [Act.put] using hJ.defers
        · intro t ht
          by_cases hdt : o.dst = some t
          · rw [hdt] at hv ⊢
            rw [eval_put_same (by rw [hJ.size]; exact hdst o hom t hdt)]
            exact hv
          · have hk : Known ops listed t := by
              intro j p hp hd
              have := ht j p hp hd
              by_cases e : i = j
              · subst e
                rw [ho] at hp
                injection hp with hp
                subst hp
                exact absurd hd hdt
              · simpa [Array.getD_eq_getD_getElem?, Array.getElem?_setIfInBounds, e] using this
            have := hstab t _ w w' (hJ.facts t hk) hg
            cases hd : o.dst with
            | none => simpa [Act.put] using this
            | some d =>
              rw [eval_put_other (by intro e; subst e; exact hdt hd)]
              exact this
      have := AllOk.get hok o hom a w _ Q hJ.grow hlook hnext
      unfold wpOp
      simp only [ho]
      exact this
  refine key ops.size _ a0 _ (by simp) ?_ ⟨hn, rfl, Grow.drew w0, ?_⟩
  · unfold left
    simp
  · intro t ht
    refine hstab t _ w0 _ (hstart t ?_) (Grow.drew w0)
    intro o ho hd
    obtain ⟨i, hi, rfl⟩ := List.getElem_of_mem ho
    have hi' : i < ops.size := by simpa using hi
    have := ht i ops[i] (Array.getElem?_eq_getElem hi') (by simpa using hd)
    simp [Array.getD, hi'] at this

theorem region (hm : P.follows .mixedOrders = true) (hcov : covered ops = true) {id : Nat} {a0 : Act} {w0 : World} {Q : Exit → Act → World → Prop} (n : Nat) (hn : a0.tmps.size = n)
    (hdst : ∀ o ∈ ops.toList, ∀ d, o.dst = some d → d < n) (FS : Tmp → Value → World → Prop)
    (hstab : ∀ t v w w', FS t v w → Grow w w' → FS t v w')
    (hstart : ∀ t, (∀ o ∈ ops.toList, o.dst ≠ some t) → FS t (a0.eval (.tmp t)) w0)
    (hok : AllOk P ops FS w0 ops.toList)
    (hend : ∀ a w, a.tmps.size = n → a.defers = a0.defers → Grow w0 w → (∀ t, FS t (a.eval (.tmp t)) w) → Q .normal a w) :
    (Code.region id ops true).wp P Q a0 w0 :=
  wp_region_any hm (region_wpAny hm hcov n hn hdst FS hstab hstart hok hend)

/-! ### Rules for single operations -/
variable {w0 : World} {o : Oper}

/-- The operation itself, its guard being met. -/
def RunOk (P : Program) (ops : Array Oper) (FS : Tmp → Value → World → Prop) (w0 : World) (o : Oper) : Prop :=
  ∀ (a : Act) (w : World) (K : Act → World → Prop) (Q : Exit → Act → World → Prop), Grow w0 w → (∀ t, (o.looksAt ops).contains t = true → FS t (a.eval (.tmp t)) w) →
    (∀ v w', Grow w w' → FSd FS o.dst v w' → K (a.put o.dst v) w') → o.wp P a w K Q

theorem ok_none (hg : o.guard = none) (h : RunOk P ops FS w0 o) : OpOk P ops FS w0 o := by
  intro a w K Q hG hl hK
  rw [if_pos (by simp [Region.wanted, hg])]
  exact .inl (h a w K Q hG hl hK)
theorem ok_guard (j : Nat) (want : Bool) (d : Tmp) (hg : o.guard = some (j, want)) (hd : (ops[j]?).bind (·.dst) = some d) (hl : (o.looksAt ops).contains d = true) (hF : ∀ v w, FS d v w → v = .bool want)
    (h : RunOk P ops FS w0 o) : OpOk P ops FS w0 o := by
  intro a w K Q hG hlk hK
  have e := hF _ _ (hlk d hl)
  have hw : Region.wanted o (yielded ops a.tmps) = true := by
    have h2 : a.tmps[d]? = some (.bool want) := by
      replace e : a.tmps.getD d undef = .bool want := e
      rw [Array.getD_eq_getD_getElem?] at e
      cases hx : a.tmps[d]? with
      | none => rw [hx] at e; cases e
      | some x => rw [hx] at e; simpa using e
    simp [Region.wanted, hg, yielded, hd, h2]
  rw [if_pos hw]
  exact .inl (h a w K Q hG hlk hK)

/-- An operand's value is known. -/
def Has (ops : Array Oper) (FS : Tmp → Value → World → Prop) (o : Oper) (x : Operand) (v : Value) : Prop :=
  ∀ (a : Act) (w : World), (∀ t, (o.looksAt ops).contains t = true → FS t (a.eval (.tmp t)) w) → a.eval x = v
theorem has_tmp {t : Tmp} {v : Value} (h : (o.looksAt ops).contains t = true) (hF : ∀ u w, FS t u w → u = v) : Has ops FS o (.tmp t) v := fun _ _ hl => hF _ _ (hl t h)
theorem has_const {v : Value} : Has ops FS o (.const v) v := fun _ _ _ => rfl

theorem run_mv (x : Operand) (ho : o.op = .move x ∨ o.op = .assign x) {v : Value} (hx : Has ops FS o x v) (hd : ∀ w, FSd FS o.dst v w) : RunOk P ops FS w0 o := by
  intro a w K Q hG hl hK
  have e := hx a w hl
  unfold Oper.wp execOp
  rcases ho with ho | ho <;> simp only [ho, Sem.run_pure, Oper.upon_value, e] <;> exact hK v w (Grow.refl w) (hd w)
theorem run_mvF (t : Tmp) (ho : o.op = .move (.tmp t) ∨ o.op = .assign (.tmp t)) (hc : (o.looksAt ops).contains t = true) (hd : ∀ v w, FS t v w → FSd FS o.dst v w) : RunOk P ops FS w0 o := by
  intro a w K Q hG hl hK
  unfold Oper.wp execOp
  rcases ho with ho | ho <;> simp only [ho, Sem.run_pure, Oper.upon_value] <;> exact hK _ w (Grow.refl w) (hd _ _ (hl t hc))
theorem run1 (x : Operand) {u r : Value} (hx : Has ops FS o x u) (hrun : ∀ (ρ : Operand → Value) (w : World), ρ x = u → (execOp ρ o).run P w = .ok (.value r) w) (hd : ∀ w, FSd FS o.dst r w) : RunOk P ops FS w0 o := by
  intro a w K Q hG hl hK
  unfold Oper.wp
  rw [hrun a.eval w (hx a w hl)]
  exact hK r w (Grow.refl w) (hd w)
theorem run2 (x y : Operand) {u v r : Value} (hx : Has ops FS o x u) (hy : Has ops FS o y v) (hrun : ∀ (ρ : Operand → Value) (w : World), ρ x = u → ρ y = v → (execOp ρ o).run P w = .ok (.value r) w) (hd : ∀ w, FSd FS o.dst r w) : RunOk P ops FS w0 o := by
  intro a w K Q hG hl hK
  unfold Oper.wp
  rw [hrun a.eval w (hx a w hl) (hy a w hl)]
  exact hK r w (Grow.refl w) (hd w)
theorem run_pick (x y : Operand) (ho : o.op = .pick x y (.const (.bool false))) {r : Value} (hx : Has ops FS o x (.bool true)) (hy : Has ops FS o y r) (hd : ∀ w, FSd FS o.dst r w) : RunOk P ops FS w0 o := by
  refine run2 x y hx hy (fun ρ w h1 h2 => ?_) hd
  simp only [execOp, ho, h1, asBool, Sem.run_bind, Sem.run_pure, Result.andThen_ok, if_true, h2]
/-- A call of a named function whose arguments are known. -/
theorem run_call (f : FuncId) (xs : Array Operand) (ts : Array TypeId) (ho : o.op = .call { callee := .value (.func f), args := xs, argTypes := ts }) (hent : ∀ args w, (callFunc f args).run P w = .ok (.enter f args) w)
    (args : Array Value) (hargs : ∀ (a : Act) (w : World), (∀ t, (o.looksAt ops).contains t = true → FS t (a.eval (.tmp t)) w) → xs.map a.eval = args)
    (hC : ∀ w, Grow w0 w → Calls P f args w fun e w' => ∃ v, e = .returned v ∧ Grow w w' ∧ FSd FS o.dst v w') : RunOk P ops FS w0 o := by
  intro a w K Q hG hl hK
  have e := hargs a w hl
  unfold Oper.wp
  have hr : (execOp a.eval o).run P w = .ok (.enter f args) w := by
    have e' : (Array.map a.eval xs) = args := e
    have ef : a.eval (.func f) = .func (.func f) #[] #[] := rfl
    have h := hent args w
    simp [execOp, ho, resolve, e', ef, Deferred.ofValue, invoke, Result.andThen, h]
  rw [hr, Oper.upon_enter]
  refine (hC w hG).mono ?_
  rintro e w' ⟨v, rfl, hg, hf⟩
  exact hK v w' hg hf

end Reg
end Go.Proofs.Ytlelckdcmlpmdaa
/- Facts on slots, as data; rules for the operations of a law's last region. -/
namespace Go.Proofs.Ytlelckdcmlpmdaa
open Go Go.RowKit Lou

/-- What may be known of a slot: its value; that it reads as bytes; nothing. -/
inductive Fact where
  | val (v : Value)
  | res (l : List UInt8)
  | any
  | pred (p : Value → World → Prop) (h : ∀ v w w', p v w → Grow w w' → p v w')
def Fact.holds : Fact → Value → World → Prop
  | .val x, v, _ => v = x
  | .res l, v, w => ∃ A c, v = .slice A l.length c ∧ InB w w.heap.size A c l
  | .any, _, _ => True
  | .pred p _, v, w => p v w
theorem Fact.stable (f : Fact) {v : Value} {w w' : World} (h : f.holds v w) (hg : Grow w w') : f.holds v w' := by
  cases f with
  | val x => exact h
  | res l =>
    obtain ⟨A, c, e, hin⟩ := h
    exact ⟨A, c, e, (hin.below hg).more hg.size⟩
  | any => trivial
  | pred p hp => exact hp v w w' h hg
def factOf : List (Nat × Fact) → Nat → Fact
  | [], _ => .any
  | (k, f) :: r, t => if k == t then f else factOf r t
/-- The slots' facts out of a list. -/
def FSof (L : List (Nat × Fact)) (t : Tmp) (v : Value) (w : World) : Prop := (factOf L t).holds v w
theorem FSof.stable (L : List (Nat × Fact)) (t : Tmp) (v : Value) (w w' : World) (h : FSof L t v w) (hg : Grow w w') : FSof L t v w' := Fact.stable _ h hg

def written (ops : Array Oper) (t : Nat) : Bool := ops.toList.any fun o => o.dst == some t
def dstsIn (ops : Array Oper) (n : Nat) : Bool := ops.toList.all fun o => match o.dst with | some d => decide (d < n) | none => true

namespace Reg
/-- What holds of the slots that the region doesn't write. -/
def StartOk (a0 : Act) (w0 : World) : List (Nat × Fact) → Prop
  | [] => True
  | (k, f) :: r => f.holds (a0.eval (.tmp k)) w0 ∧ StartOk a0 w0 r

theorem start_fact {a0 : Act} {w0 : World} {ops : Array Oper} : ∀ (V W : List (Nat × Fact)), StartOk a0 w0 V → (W.all fun p => written ops p.1) = true → ∀ t, (∀ o ∈ ops.toList, o.dst ≠ some t) → (factOf (V ++ W) t).holds (a0.eval (.tmp t)) w0
  | [], [], _, _, t, _ => by simp [factOf, Fact.holds]
  | [], (k, f) :: r, hV, hW, t, ht => by
    simp only [List.all_cons, Bool.and_eq_true] at hW
    simp only [List.nil_append, factOf]
    split
    · rename_i e
      obtain rfl : k = t := by simpa using e
      exfalso
      have := hW.1
      simp only [written, List.any_eq_true, beq_iff_eq] at this
      obtain ⟨o, ho, hd⟩ := this
      exact ht o ho hd
    · exact start_fact [] r hV hW.2 t ht
  | (k, f) :: r, W, hV, hW, t, ht => by
    simp only [List.cons_append, factOf]
    split
    · rename_i e
      obtain rfl : k = t := by simpa using e
      exact hV.1
    · exact start_fact r W hV.2 hW t ht

/-- The region, by two lists of facts: of the slots that it finds, of those that it writes. -/
theorem region_facts {P : Program} {ops : Array Oper} (hm : P.follows .mixedOrders = true) (hcov : covered ops = true) {id : Nat} {a0 : Act} {w0 : World} {Q : Exit → Act → World → Prop} (n : Nat) (hn : a0.tmps.size = n)
    (hdst : dstsIn ops n = true) (V W : List (Nat × Fact)) (hV : StartOk a0 w0 V) (hW : (W.all fun p => written ops p.1) = true)
    (hok : AllOk P ops (FSof (V ++ W)) w0 ops.toList)
    (hend : ∀ a w, a.tmps.size = n → a.defers = a0.defers → Grow w0 w → (∀ t, FSof (V ++ W) t (a.eval (.tmp t)) w) → Q .normal a w) :
    (Code.region id ops true).wp P Q a0 w0 := by
  refine region hm hcov n hn ?_ (FSof (V ++ W)) (FSof.stable _) (start_fact V W hV hW) hok hend
  intro o ho d hd
  unfold dstsIn at hdst
  rw [List.all_eq_true] at hdst
  have := hdst o ho
  simpa [hd] using this

theorem allOk_cons {P : Program} {ops : Array Oper} {FS : Tmp → Value → World → Prop} {w0 : World} {o : Oper} {r : List Oper} (h : OpOk P ops FS w0 o) (k : AllOk P ops FS w0 r) : AllOk P ops FS w0 (o :: r) := ⟨h, k⟩
theorem allOk_nil {P : Program} {ops : Array Oper} {FS : Tmp → Value → World → Prop} {w0 : World} : AllOk P ops FS w0 [] := trivial

section rules
variable {ops : Array Oper} {FS : Tmp → Value → World → Prop} {w0 : World} {o : Oper}

theorem rule_conv (t : Tmp) (l : List UInt8) (ho : o.op = .convert 30 9 (.tmp t)) (hc : (o.looksAt ops).contains t = true) (hF : ∀ v w, FS t v w → (Fact.res l).holds v w) (hd : ∀ w, FSd FS o.dst (.string (str l)) w) : RunOk Try.prog ops FS w0 o := by
  intro a w K Q hG hl hK
  obtain ⟨A, c, e, hin⟩ := hF _ _ (hl t hc)
  have hs := hin.string
  unfold Oper.wp
  have hr : (execOp a.eval o).run Try.prog w = .ok (.value (.string (str l))) w := by
    simp [execOp, ho, e, hs, Result.andThen]
  rw [hr]
  exact hK _ w (Grow.refl w) (hd w)
theorem rule_convI (x : Operand) (S D : TypeId) {u r : Value} (ho : o.op = .convert S D x) (hx : Has ops FS o x u) (hrun : ∀ w, (convert S D u).run Try.prog w = .ok r w) (hd : ∀ w, FSd FS o.dst r w) : RunOk Try.prog ops FS w0 o :=
  run1 x hx (fun ρ w h => by simp [execOp, ho, h, hrun, Result.andThen]) hd
theorem rule_convS (x : Operand) (S D : TypeId) {u r : Value} (ho : o.op = .convert S D x) (hx : Has ops FS o x u) (hrun : ∀ w, Grow w0 w → (convert S D u).run Try.prog w = .ok r w) (hd : ∀ w, FSd FS o.dst r w) : RunOk Try.prog ops FS w0 o := by
  intro a w K Q hG hl hK
  have e := hx a w hl
  unfold Oper.wp
  have hr : (execOp a.eval o).run Try.prog w = .ok (.value r) w := by simp [execOp, ho, e, hrun w hG, Result.andThen]
  rw [hr]
  exact hK r w (Grow.refl w) (hd w)
theorem conv_45_41 (r : Nat) (h : r < 4294967296) (w : World) : (convert 45 41 (.int .u32 r)).run Try.prog w = .ok (.int .u64 r) w := by
  have e : IntKind.u64.wrap (r : Int) = r := by
    show (r : Int) % 18446744073709551616 = r
    omega
  have k : Try.prog.intKind 41 = .u64 := by kernel_rfl
  have h := run_convert_int (P := Try.prog) (w := w) 45 41 .u32 r (by kernel_rfl) (by kernel_rfl)
  rw [k, e] at h
  exact h
theorem conv_41_45 (n : Nat) (w : World) : (convert 41 45 (.int .u64 n)).run Try.prog w = .ok (.int .u32 ((n % 4294967296 : Nat) : Int)) w := by
  have e : IntKind.u32.wrap (n : Int) = ((n % 4294967296 : Nat) : Int) := by
    show (n : Int) % 4294967296 = _
    omega
  have k : Try.prog.intKind 45 = .u32 := by kernel_rfl
  have h := run_convert_int (P := Try.prog) (w := w) 41 45 .u64 n (by kernel_rfl) (by kernel_rfl)
  rw [k, e] at h
  exact h
theorem rule_eqi (x y : Operand) (T T' : TypeId) (k : IntKind) (m : Int) (ho : o.op = .binOp .eql T x y T') (hT : Try.prog.underlying T = some (.int k)) (hx : Has ops FS o x (.int k m)) (hy : Has ops FS o y (.int k m)) (hd : ∀ w, FSd FS o.dst (.bool true) w) : RunOk Try.prog ops FS w0 o :=
  run2 x y hx hy (fun ρ w h1 h2 => by simp [execOp, ho, h1, h2, go_sem]) hd
theorem rule_eqs (x y : Operand) (T T' : TypeId) (s : ByteArray) (ho : o.op = .binOp .eql T x y T') (hT : Try.prog.underlying T = some .string) (hx : Has ops FS o x (.string s)) (hy : Has ops FS o y (.string s)) (hd : ∀ w, FSd FS o.dst (.bool true) w) : RunOk Try.prog ops FS w0 o :=
  run2 x y hx hy (fun ρ w h1 h2 => by simp [execOp, ho, h1, h2, go_sem]) hd
theorem rule_len (t : Tmp) (A : Option Addr) (n c : Nat) (T : TypeId) (hT : Try.prog.underlying T = some (.slice (Try.prog.elem T))) (ho : o.op = .call { callee := .builtin .len, args := #[.tmp t], argTypes := #[T] }) (hx : Has ops FS o (.tmp t) (.slice A n c)) (hd : ∀ w, FSd FS o.dst (.int .i64 (n : Int)) w) : RunOk Try.prog ops FS w0 o :=
  run1 (.tmp t) hx (fun ρ w h => by simp [execOp, ho, h, go_sem, resolve, invoke, run_len_slice _ _ _ _ _ _ hT]) hd
theorem args1 {x : Operand} {u : Value} (h : Has ops FS o x u) : ∀ (a : Act) (w : World), (∀ t, (o.looksAt ops).contains t = true → FS t (a.eval (.tmp t)) w) → Array.map a.eval #[x] = #[u] := fun a w hl => by simp [h a w hl]
theorem args2 {x y : Operand} {u v : Value} (h : Has ops FS o x u) (k : Has ops FS o y v) : ∀ (a : Act) (w : World), (∀ t, (o.looksAt ops).contains t = true → FS t (a.eval (.tmp t)) w) → Array.map a.eval #[x, y] = #[u, v] := fun a w hl => by simp [h a w hl, k a w hl]
theorem args3 {x y z : Operand} {u v r : Value} (h : Has ops FS o x u) (k : Has ops FS o y v) (m : Has ops FS o z r) : ∀ (a : Act) (w : World), (∀ t, (o.looksAt ops).contains t = true → FS t (a.eval (.tmp t)) w) → Array.map a.eval #[x, y, z] = #[u, v, r] := fun a w hl => by simp [h a w hl, k a w hl, m a w hl]
theorem args4 {x y z q : Operand} {u v r s : Value} (h : Has ops FS o x u) (k : Has ops FS o y v) (m : Has ops FS o z r) (j : Has ops FS o q s) : ∀ (a : Act) (w : World), (∀ t, (o.looksAt ops).contains t = true → FS t (a.eval (.tmp t)) w) → Array.map a.eval #[x, y, z, q] = #[u, v, r, s] := fun a w hl => by simp [h a w hl, k a w hl, m a w hl, j a w hl]
end rules

theorem results1 {fn : Func} {P : Program} {a : Act} {w : World} {v : Value} (t : Tmp) (h : fn.results = #[.tmp t]) (hv : a.eval (.tmp t) = v) : (results fn a.tmps).run P w = .ok v w := by
  have e : a.tmps.getD t undef = v := hv
  unfold results
  simp only [h]
  simp [← e, Array.getD_eq_getD_getElem?]
/-- The end of a function of one result, without deferred calls. -/
theorem ends1 {fn : Func} {P : Program} {a : Act} {w : World} {R : Ending → World → Prop} (t : Tmp) (v : Value) (h : fn.results = #[.tmp t]) (hv : a.eval (.tmp t) = v) (hd : a.defers = []) (hR : R (.returned v) w) : Code.wp P Code.ret (bodyPost P fn R) a w :=
  wp_ret (bodyPost_ret_by (results1 t h hv) hd hR)
theorem gives_same {P : Program} {w : World} {f : FuncId} {args : Array Value} {v : Value} (h : Calls P f args w fun e w' => e = .returned v ∧ w = w') : Calls P f args w fun e w' => ∃ u, e = .returned u ∧ Grow w w' ∧ u = v :=
  h.mono (by rintro e w' ⟨rfl, rfl⟩; exact ⟨_, rfl, Grow.refl _, rfl⟩)
theorem gives_grow {P : Program} {w : World} {f : FuncId} {args : Array Value} {v : Value} (h : Calls P f args w fun e w' => e = .returned v ∧ Below w.heap.size w w') : Calls P f args w fun e w' => ∃ u, e = .returned u ∧ Grow w w' ∧ u = v :=
  h.mono (by rintro e w' ⟨rfl, hB⟩; exact ⟨_, rfl, hB, rfl⟩)
theorem gives_res {w : World} {f : FuncId} {args : Array Value} {l : List UInt8} (h : Calls Try.prog f args w (GivesB w l)) : Calls Try.prog f args w fun e w' => ∃ v, e = .returned v ∧ Grow w w' ∧ (Fact.res l).holds v w' :=
  h.mono fun e w' ⟨v, he, hown, hB⟩ => ⟨v, he, hB, hown.inB⟩

/-! ### The same rules over lists of facts: what is looked up is left to the kernel -/
def FD (L : List (Nat × Fact)) : Option Tmp → Fact
  | some d => factOf L d
  | none => .any
theorem fsd {L : List (Nat × Fact)} {d : Option Tmp} {f : Fact} {v : Value} {w : World} (h : FD L d = f) (hv : f.holds v w) : FSd (FSof L) d v w := by
  cases d with
  | none => trivial
  | some d => subst h; exact hv
section lists
variable {L : List (Nat × Fact)} {ops : Array Oper} {w0 : World} {o : Oper} {P : Program}
theorem hs (t : Tmp) (v : Value) (hc : (o.looksAt ops).contains t = true) (hF : factOf L t = .val v) : Has ops (FSof L) o (.tmp t) v :=
  has_tmp hc fun u w h => by
    have h' : (factOf L t).holds u w := h
    rw [hF] at h'
    exact h'
theorem hc (v : Value) : Has ops (FSof L) o (.const v) v := has_const
theorem okg (j : Nat) (want : Bool) (d : Tmp) (hg : o.guard = some (j, want)) (hd : (ops[j]?).bind (·.dst) = some d) (hl : (o.looksAt ops).contains d = true) (hF : factOf L d = .val (.bool want))
    (h : RunOk P ops (FSof L) w0 o) : OpOk P ops (FSof L) w0 o :=
  ok_guard j want d hg hd hl (fun v w h => by
    have h' : (factOf L d).holds v w := h
    rw [hF] at h'
    exact h') h
theorem l_mv (x : Operand) (v : Value) (ho : o.op = .move x ∨ o.op = .assign x) (hx : Has ops (FSof L) o x v) (hd : FD L o.dst = .val v) : RunOk P ops (FSof L) w0 o :=
  run_mv x ho hx fun _ => fsd hd rfl
theorem l_mvF (t : Tmp) (f : Fact) (ho : o.op = .move (.tmp t) ∨ o.op = .assign (.tmp t)) (hc : (o.looksAt ops).contains t = true) (hF : factOf L t = f) (hd : FD L o.dst = f) : RunOk P ops (FSof L) w0 o :=
  run_mvF t ho hc fun v w h => fsd hd (by
    have h' : (factOf L t).holds v w := h
    rw [hF] at h'
    exact h')
theorem l_pick (x y : Operand) (r : Value) (ho : o.op = .pick x y (.const (.bool false))) (hx : Has ops (FSof L) o x (.bool true)) (hy : Has ops (FSof L) o y r) (hd : FD L o.dst = .val r) : RunOk P ops (FSof L) w0 o :=
  run_pick x y ho hx hy fun _ => fsd hd rfl
/-- Any operation of one operand whose run is known. -/
theorem l_run1 (x : Operand) (u r : Value) (hx : Has ops (FSof L) o x u) (hrun : ∀ (ρ : Operand → Value) (w : World), ρ x = u → (execOp ρ o).run P w = .ok (.value r) w) (hd : FD L o.dst = .val r) : RunOk P ops (FSof L) w0 o :=
  run1 x hx hrun fun _ => fsd hd rfl
theorem l_conv (t : Tmp) (l : List UInt8) (ho : o.op = .convert 30 9 (.tmp t)) (hc : (o.looksAt ops).contains t = true) (hF : factOf L t = .res l) (hd : FD L o.dst = .val (.string (str l))) : RunOk Try.prog ops (FSof L) w0 o :=
  rule_conv t l ho hc (fun v w h => by
    have h' : (factOf L t).holds v w := h
    rw [hF] at h'
    exact h') fun _ => fsd hd rfl
theorem l_convS (x : Operand) (S D : TypeId) (u r : Value) (ho : o.op = .convert S D x) (hx : Has ops (FSof L) o x u) (hrun : ∀ w, Grow w0 w → (convert S D u).run Try.prog w = .ok r w) (hd : FD L o.dst = .val r) : RunOk Try.prog ops (FSof L) w0 o :=
  rule_convS x S D ho hx hrun fun _ => fsd hd rfl
theorem l_eqi (x y : Operand) (T T' : TypeId) (k : IntKind) (m : Int) (ho : o.op = .binOp .eql T x y T') (hT : Try.prog.underlying T = some (.int k)) (hx : Has ops (FSof L) o x (.int k m)) (hy : Has ops (FSof L) o y (.int k m)) (hd : FD L o.dst = .val (.bool true)) : RunOk Try.prog ops (FSof L) w0 o :=
  rule_eqi x y T T' k m ho hT hx hy fun _ => fsd hd rfl
theorem l_eqs (x y : Operand) (T T' : TypeId) (s : ByteArray) (ho : o.op = .binOp .eql T x y T') (hT : Try.prog.underlying T = some .string) (hx : Has ops (FSof L) o x (.string s)) (hy : Has ops (FSof L) o y (.string s)) (hd : FD L o.dst = .val (.bool true)) : RunOk Try.prog ops (FSof L) w0 o :=
  rule_eqs x y T T' s ho hT hx hy fun _ => fsd hd rfl
theorem l_eqb (x y : Operand) (T T' : TypeId) (b : Bool) (ho : o.op = .binOp .eql T x y T') (hT : Try.prog.underlying T = some .bool) (hx : Has ops (FSof L) o x (.bool b)) (hy : Has ops (FSof L) o y (.bool b)) (hd : FD L o.dst = .val (.bool true)) : RunOk Try.prog ops (FSof L) w0 o :=
  run2 x y hx hy (fun ρ w h1 h2 => by simp [execOp, ho, h1, h2, go_sem, run_eql_bool _ _ _ _ hT, Result.andThen]) fun _ => fsd hd rfl
theorem l_len (t : Tmp) (A : Option Addr) (n c : Nat) (T : TypeId) (hT : Try.prog.underlying T = some (.slice (Try.prog.elem T))) (ho : o.op = .call { callee := .builtin .len, args := #[.tmp t], argTypes := #[T] }) (hx : Has ops (FSof L) o (.tmp t) (.slice A n c)) (hd : FD L o.dst = .val (.int .i64 (n : Int))) : RunOk Try.prog ops (FSof L) w0 o :=
  rule_len t A n c T hT ho hx fun _ => fsd hd rfl
/-- The length of what reads as bytes. -/
theorem l_lenR (t : Tmp) (l : List UInt8) (T : TypeId) (hT : Try.prog.underlying T = some (.slice (Try.prog.elem T))) (ho : o.op = .call { callee := .builtin .len, args := #[.tmp t], argTypes := #[T] }) (hc : (o.looksAt ops).contains t = true) (hF : factOf L t = .res l) (hd : FD L o.dst = .val (.int .i64 (l.length : Int))) : RunOk Try.prog ops (FSof L) w0 o := by
  intro a w K Q hG hl hK
  have h' : (factOf L t).holds (a.eval (.tmp t)) w := hl t hc
  rw [hF] at h'
  obtain ⟨A, c, e, hin⟩ := h'
  unfold Oper.wp
  have hr : (execOp a.eval o).run Try.prog w = .ok (.value (.int .i64 (l.length : Int))) w := by
    have key : ∀ ρ : Operand → Value, ρ (.tmp t) = .slice A l.length c → (execOp ρ o).run Try.prog w = .ok (.value (.int .i64 (l.length : Int))) w :=
      fun ρ h => by simp [execOp, ho, h, go_sem, resolve, invoke, run_len_slice _ _ _ _ _ _ hT]
    exact key _ e
  rw [hr]
  exact hK _ w (Grow.refl w) (fsd hd rfl)
theorem l_call (f : FuncId) (xs : Array Operand) (ts : Array TypeId) (ho : o.op = .call { callee := .value (.func f), args := xs, argTypes := ts }) (hent : ∀ args w, (callFunc f args).run P w = .ok (.enter f args) w)
    (args : Array Value) (g : Fact) (hargs : ∀ (a : Act) (w : World), (∀ t, (o.looksAt ops).contains t = true → FSof L t (a.eval (.tmp t)) w) → xs.map a.eval = args)
    (hC : ∀ w, Grow w0 w → Calls P f args w fun e w' => ∃ v, e = .returned v ∧ Grow w w' ∧ g.holds v w') (hd : FD L o.dst = g) : RunOk P ops (FSof L) w0 o :=
  run_call f xs ts ho hent args hargs fun w hG => (hC w hG).mono fun _ _ ⟨v, e, hg, hh⟩ => ⟨v, e, hg, fsd hd hh⟩
/-- A call one of whose arguments (the first) reads as bytes. -/
theorem l_callR (f : FuncId) (t : Tmp) (l : List UInt8) (ts : Array TypeId) (ho : o.op = .call { callee := .value (.func f), args := #[.tmp t], argTypes := ts }) (hent : ∀ args w, (callFunc f args).run P w = .ok (.enter f args) w)
    (g : Fact) (hc : (o.looksAt ops).contains t = true) (hF : factOf L t = .res l)
    (hC : ∀ w A c, Grow w0 w → InB w w.heap.size A c l → Calls P f #[.slice A l.length c] w fun e w' => ∃ v, e = .returned v ∧ Grow w w' ∧ g.holds v w') (hd : FD L o.dst = g) : RunOk P ops (FSof L) w0 o := by
  intro a w K Q hG hl hK
  have h' : (factOf L t).holds (a.eval (.tmp t)) w := hl t hc
  rw [hF] at h'
  obtain ⟨A, c, e, hin⟩ := h'
  unfold Oper.wp
  have hr : (execOp a.eval o).run P w = .ok (.enter f #[.slice A l.length c]) w := by
    have ef : a.eval (.func f) = .func (.func f) #[] #[] := rfl
    have h := hent #[.slice A l.length c] w
    simp [execOp, ho, resolve, e, ef, Deferred.ofValue, invoke, Result.andThen, h]
  rw [hr, Oper.upon_enter]
  refine (hC w A c hG hin).mono ?_
  rintro e w' ⟨v, rfl, hg, hf⟩
  exact hK v w' hg (fsd hd hf)
/-- A call one of whose arguments (the only one) is known by a predicate. -/
theorem l_callP (f : FuncId) (t : Tmp) (p : Value → World → Prop) (hp : ∀ v w w', p v w → Grow w w' → p v w') (ts : Array TypeId) (ho : o.op = .call { callee := .value (.func f), args := #[.tmp t], argTypes := ts }) (hent : ∀ args w, (callFunc f args).run P w = .ok (.enter f args) w)
    (g : Fact) (hc : (o.looksAt ops).contains t = true) (hF : factOf L t = .pred p hp)
    (hC : ∀ w u, Grow w0 w → p u w → Calls P f #[u] w fun e w' => ∃ v, e = .returned v ∧ Grow w w' ∧ g.holds v w') (hd : FD L o.dst = g) : RunOk P ops (FSof L) w0 o := by
  intro a w K Q hG hl hK
  have h' : (factOf L t).holds (a.eval (.tmp t)) w := hl t hc
  rw [hF] at h'
  have e : a.eval (.tmp t) = a.eval (.tmp t) := rfl
  revert h' e
  generalize hu : a.eval (.tmp t) = u
  intro h' _
  unfold Oper.wp
  have hr : (execOp a.eval o).run P w = .ok (.enter f #[u]) w := by
    have ef : a.eval (.func f) = .func (.func f) #[] #[] := rfl
    have h := hent #[u] w
    simp [execOp, ho, resolve, hu, ef, Deferred.ofValue, invoke, Result.andThen, h]
  rw [hr, Oper.upon_enter]
  refine (hC w u hG h').mono ?_
  rintro e w' ⟨v, rfl, hg, hf⟩
  exact hK v w' hg (fsd hd hf)
/-- Any operation of two operands whose run is known; the world may grow. -/
theorem l_run2W (x y : Operand) (g : Fact) (u v : Value) (hx : Has ops (FSof L) o x u) (hy : Has ops (FSof L) o y v)
    (hrun : ∀ (ρ : Operand → Value) (w : World), Grow w0 w → ρ x = u → ρ y = v → ∃ r w', (execOp ρ o).run P w = .ok (.value r) w' ∧ Grow w w' ∧ g.holds r w') (hd : FD L o.dst = g) : RunOk P ops (FSof L) w0 o := by
  intro a w K Q hG hl hK
  obtain ⟨r, w', h1, h2, h3⟩ := hrun a.eval w hG (hx a w hl) (hy a w hl)
  unfold Oper.wp
  rw [h1]
  exact hK r w' h2 (fsd hd h3)
theorem l_run1W (x : Operand) (g : Fact) (u : Value) (hx : Has ops (FSof L) o x u)
    (hrun : ∀ (ρ : Operand → Value) (w : World), Grow w0 w → ρ x = u → ∃ r w', (execOp ρ o).run P w = .ok (.value r) w' ∧ Grow w w' ∧ g.holds r w') (hd : FD L o.dst = g) : RunOk P ops (FSof L) w0 o := by
  intro a w K Q hG hl hK
  obtain ⟨r, w', h1, h2, h3⟩ := hrun a.eval w hG (hx a w hl)
  unfold Oper.wp
  rw [h1]
  exact hK r w' h2 (fsd hd h3)
end lists
end Reg
end Go.Proofs.Ytlelckdcmlpmdaa
