/- octet.ReadNumber: it reads the number with whose bytes these begin. -/
import Derived.Test.YtlelckdcmlpmdaaKit
import Derived.ScopeJumps
namespace Go.Proofs.Ytlelckdcmlpmdaa
open Go Go.RowKit Lou

/-- What a number's reading answers. -/
def rdV (l : List UInt8) : Value :=
  match rd l with
  | some (n, k) => .tuple #[.int .u64 (n : Int), .int .i64 (k : Int), .int .i64 0]
  | none => .tuple #[.int .u64 0, .int .i64 0, .int .i64 130]
theorem rdV_some {l : List UInt8} {n k : Nat} (h : rd l = some (n, k)) : rdV l = .tuple #[.int .u64 (n : Int), .int .i64 (k : Int), .int .i64 0] := by unfold rdV; rw [h]
theorem rdV_none {l : List UInt8} (h : rd l = none) : rdV l = .tuple #[.int .u64 0, .int .i64 0, .int .i64 130] := by unfold rdV; rw [h]

/-- k bytes are read. -/
def RdAt (l : List UInt8) (acc k : Nat) : Prop := rdF (10 - k) k acc (l.drop k) = rd l ∧ acc < 128 ^ k ∧ k ≤ 10
theorem RdAt.start (l : List UInt8) : RdAt l 0 0 := ⟨rfl, by simp, by omega⟩
theorem RdAt.unfold {l : List UInt8} {acc k : Nat} (h : RdAt l acc k) (hk : k < l.length) (h10 : k < 10) :
    rd l = if k = 9 ∧ 1 < l[k].toNat then none else if 128 ≤ l[k].toNat then rdF (10 - (k + 1)) (k + 1) (acc + l[k].toNat % 128 * 128 ^ k) (l.drop (k + 1))
      else if l[k].toNat = 0 ∧ 0 < k then none else some (acc + l[k].toNat % 128 * 128 ^ k, k + 1) := by
  rw [← h.1, List.drop_eq_getElem_cons hk, show 10 - k = (10 - (k + 1)) + 1 from by omega]
  rfl
theorem RdAt.out {l : List UInt8} {acc k : Nat} (h : RdAt l acc k) (hk : l.length ≤ k ∨ 10 ≤ k) : rd l = none := by
  rw [← h.1]
  rcases hk with hk | hk
  · rw [List.drop_eq_nil_of_le hk]
    cases 10 - k <;> rfl
  · rw [show 10 - k = 0 from by omega]
    rfl
theorem RdAt.next {l : List UInt8} {acc k : Nat} (h : RdAt l acc k) (hk : k < l.length) (h9 : k < 9) (hc : 128 ≤ l[k].toNat) : RdAt l (acc + l[k].toNat % 128 * 128 ^ k) (k + 1) := by
  refine ⟨?_, ?_, by omega⟩
  · rw [h.unfold hk (by omega), if_neg (by omega), if_pos hc]
  · have h1 : l[k].toNat % 128 ≤ 127 := by omega
    have h2 : l[k].toNat % 128 * 128 ^ k ≤ 127 * 128 ^ k := Nat.mul_le_mul_right _ h1
    have h3 : 128 ^ (k + 1) = 128 ^ k * 128 := Nat.pow_succ ..
    have := h.2.1
    omega

/-- One byte laid on: what the program's or makes. -/
theorem rd_or {acc c k : Nat} (hc : c < 256) (hk : k < 10) (h9 : k = 9 → c ≤ 1) (ha : acc < 128 ^ k) :
    bits .or .u64 (acc : Int) (IntKind.u64.wrap (IntKind.u64.wrap (bits .andNot .u8 (c : Int) 128) * 2 ^ (7 * k))) = ((acc + c % 128 * 128 ^ k : Nat) : Int) := by
  have e1 : bits .andNot .u8 (c : Int) 128 = ((c % 128 : Nat) : Int) := by
    have := u8_andNot_nat c 128 hc (by omega)
    have h2 : (((128 : Nat)) : Int) = 128 := rfl
    rw [h2] at this
    rw [this, show 255 - 128 = 2 ^ 7 - 1 from rfl, Nat.and_two_pow_sub_one_eq_mod]
  have h128 : (128 : Nat) ^ k = 2 ^ (7 * k) := by rw [Nat.pow_mul]
  have hp : 128 ^ k ≤ 128 ^ 9 := Nat.pow_le_pow_right (by omega) (by omega)
  have hb : c % 128 * 128 ^ k < 18446744073709551616 := by
    by_cases e9 : k = 9
    · have : c % 128 * 128 ^ k ≤ 1 * 128 ^ 9 := by subst e9; exact Nat.mul_le_mul_right _ (by have := h9 rfl; omega)
      simp at this
      omega
    · have h8 : 128 ^ k ≤ 128 ^ 8 := Nat.pow_le_pow_right (by omega) (by omega)
      have : c % 128 * 128 ^ k ≤ 127 * 128 ^ 8 := Nat.mul_le_mul (by omega) h8
      simp at this
      omega
  have e2 : IntKind.u64.wrap ((c % 128 : Nat) : Int) = ((c % 128 : Nat) : Int) := by
    rw [IntKind.wrap_u64]; omega
  have e3 : (((c % 128 : Nat) : Int)) * 2 ^ (7 * k) = ((c % 128 * 128 ^ k : Nat) : Int) := by
    rw [h128]; push_cast; rfl
  have e4 : IntKind.u64.wrap ((c % 128 * 128 ^ k : Nat) : Int) = ((c % 128 * 128 ^ k : Nat) : Int) := by
    rw [IntKind.wrap_u64]; omega
  rw [e1, e2, e3, e4, u64_or_nat _ _ (by simp at hp; omega) hb]
  congr 1
  rw [Nat.or_comm, nat_join (7 * k) _ _ (by rw [h128]; exact Nat.mul_mod_left _ _) (by rw [← h128]; exact ha)]
  omega

/-- Behind a jump to the label: the frame is whatever it is. -/
def RdNone (l : List UInt8) (a : Act) : Prop := rd l = none ∧ ∃ u0 u1 u2 u3 u4 u5 u6 u7 u8 u9 u10 u11 u12 u13 u14 u15 u16 u17 u18 u19 u20 u21 u22 u23 u24 u25 u26 u27 u28 u29 u30 u31 u32 u33 u34 u35 u36 u37 u38 u39 u40 u41 u42 u43 : Value, a = { tmps := #[u0, u1, u2, u3, u4, u5, u6, u7, u8, u9, u10, u11, u12, u13, u14, u15, u16, u17, u18, u19, u20, u21, u22, u23, u24, u25, u26, u27, u28, u29, u30, u31, u32, u33, u34, u35, u36, u37, u38, u39, u40, u41, u42, u43], defers := [] }

set_option maxRecDepth 100000 in
set_option maxHeartbeats 4000000 in
theorem readNumber_some (w : World) (g o c : Nat) (l : List UInt8) (hl : 0 < l.length) (hc : l.length ≤ c) (hm : c ≤ 9223372036854775807) (hcell : ∀ j (h : j < l.length), w.cell? ⟨g, o + j, none⟩ = some (.int .u8 (l[j].toNat : Int))) :
    Calls Try.prog 38 #[.slice (some ⟨g, o, none⟩) l.length c] w fun e w' => e = .returned (rdV l) ∧ w = w' := by
  go_enter Try.func38, Try.ntmps38
  go_wp2_with fail
  refine wp_scope_jumps (rest := ?rest) 0 (fun a w' => RdNone l a ∧ w = w') (fun _ _ => 0) ?hf ?first ?pass
  case hf => exact rfl
  case pass =>
    rintro a w' ⟨⟨hn, u0, u1, u2, u3, u4, u5, u6, u7, u8, u9, u10, u11, u12, u13, u14, u15, u16, u17, u18, u19, u20, u21, u22, u23, u24, u25, u26, u27, u28, u29, u30, u31, u32, u33, u34, u35, u36, u37, u38, u39, u40, u41, u42, u43, rfl⟩, rfl⟩
    have hN := Lib.hid (rdV_none hn)
    clear hn
    go_wp2
    simp only [Exit.jump]
    go_wp2
    go_ret3
    exact ⟨by rw [hN.out]; rfl, rfl⟩
  case first =>
    go_wp2_with fail
    all_goals
      go_loop [2, 13] (fun a i => ∃ (acc k : Nat), i = .int .i64 k ∧ k ≤ l.length ∧ k ≤ 10 ∧ a = .int .u64 acc ∧ Hid (RdAt l acc k)) (fun _ i => l.length - (intOf i).toNat)
      case atStart => exact ⟨0, 0, rfl, by omega, by omega, rfl, Lib.hid (RdAt.start l)⟩
      case round =>
        obtain ⟨acc, k, rfl, hk, hk10, rfl, hR⟩ := hrel
        by_cases hlt : k < l.length ∧ k < 10
        · obtain ⟨h1, h2⟩ := hlt
          have hck := hcell k h1
          clear hcell
          have hbd := (l[k]).toNat_lt
          have hu := Lib.hid (hR.out.unfold h1 h2)
          by_cases hA : k = 9 ∧ 1 < l[k].toNat
          · have hn : Hid (rd l = none) := by have := hu.out; rw [if_pos hA] at this; exact Lib.hid this
            clear hu hR
            obtain ⟨h9, hA⟩ := hA
            subst h9
            go_wp2_with fail
            go_step3
            exact ⟨rfl, ⟨hn.out, by repeat (first | exact rfl | apply Exists.intro)⟩, rfl⟩
          · by_cases hB : 128 ≤ l[k].toNat
            · have hnext := Lib.hid (hR.out.next h1 (by omega) hB)
              have hor := rd_or hbd h2 (by omega) hR.out.2.1
              clear hu hR
              have h9 : ¬ (k : Int) = 9 := by omega
              clear hA
              go_wp2_with fail
              refine ⟨⟨_, k + 1, by go_num, by omega, by omega, rfl, hnext⟩, by simp [intOf]; omega⟩
            · by_cases hC : l[k].toNat = 0 ∧ 0 < k
              · have hn : Hid (rd l = none) := by have := hu.out; rw [if_neg hA, if_neg hB, if_pos hC] at this; exact Lib.hid this
                clear hu hR
                obtain ⟨h0, hk0⟩ := hC
                have h9 : (k : Int) < 9 ∨ (k : Int) = 9 := by omega
                clear hA
                rcases h9 with h9 | h9
                · go_wp2_with fail
                  go_step3
                  exact ⟨rfl, ⟨hn.out, by repeat (first | exact rfl | apply Exists.intro)⟩, rfl⟩
                · obtain rfl : k = 9 := by omega
                  go_wp2_with fail
                  go_step3
                  exact ⟨rfl, ⟨hn.out, by repeat (first | exact rfl | apply Exists.intro)⟩, rfl⟩
              · have hn : Hid (rd l = some (acc + l[k].toNat % 128 * 128 ^ k, k + 1)) := by have := hu.out; rw [if_neg hA, if_neg hB, if_neg hC] at this; exact Lib.hid this
                have hor := rd_or hbd h2 (by omega) hR.out.2.1
                have hA9 : k = 9 → l[k].toNat ≤ 1 := by omega
                clear hu hR
                have hv := Lib.hid (rdV_some hn.out)
                clear hn
                have hE : ∀ x : Value, x = rdV l → Ending.returned x = Ending.returned (rdV l) := fun x hx => by rw [hx]
                have hE2 := Lib.hid hE
                have hC' : l[k].toNat < 1 → k ≤ 0 := by omega
                clear hE hA hC
                by_cases h9 : k < 9
                · clear hA9
                  by_cases h0 : l[k].toNat < 1
                  · have hk0 : k ≤ 0 := hC' h0
                    have hb0 : ((l[k].toNat : Int) == 0) = true := by rw [beq_iff_eq]; omega
                    clear hC' h0
                    go_wp2_with fail
                    all_goals
                      simp only [Exit.jump]
                      go_wp2
                      go_ret3
                      exact ⟨hE2.out _ (by rw [hv.out]; rfl), rfl⟩
                  · clear hC'
                    go_wp2_with fail
                    all_goals
                      simp only [Exit.jump]
                      go_wp2
                      go_ret3
                      exact ⟨hE2.out _ (by rw [hv.out]; rfl), rfl⟩
                · have hc1 : l[k].toNat ≤ 1 := hA9 (by omega)
                  have hc2 : 1 ≤ l[k].toNat := by
                    rcases Nat.lt_or_ge l[k].toNat 1 with h | h
                    · have := hC' h; omega
                    · exact h
                  have hb9 : ((k : Int) == 9) = true := by rw [beq_iff_eq]; omega
                  clear hC' hA9
                  go_wp2_with fail
                  all_goals
                    simp only [Exit.jump]
                    go_wp2
                    go_ret3
                    exact ⟨hE2.out _ (by rw [hv.out]; rfl), rfl⟩
        · have hn := Lib.hid (rdV_none (hR.out.out (by omega)))
          clear hcell hR
          go_wp2_with fail
          go_step3
          go_wp2_with fail
          simp only [Exit.jump]
          go_wp2
          go_ret3
          exact ⟨by rw [hn.out]; rfl, rfl⟩

set_option maxRecDepth 100000 in
set_option maxHeartbeats 1000000 in
theorem readNumber_empty (w : World) (A : Option Addr) (c : Nat) :
    Calls Try.prog 38 #[.slice A 0 c] w fun e w' => e = .returned (rdV []) ∧ w = w' := by
  go_enter Try.func38, Try.ntmps38
  go_wp2_with fail
  refine wp_scope_straight ?_
  go_wp2_with fail
  refine wp_loop_rounds 1 ?_
  rw [rounds_succ]
  go_wp2_with fail
  go_step3
  go_wp2_with fail
  rw [Exit.noGoto_ret]
  go_wp2
  go_ret3
  exact ⟨rfl, rfl⟩

/-- octet.ReadNumber, whatever bytes. -/
theorem readNumber_gives (w : World) (B : Nat) (A : Option Addr) (c : Nat) (l : List UInt8) (h : InB w B A c l) :
    Calls Try.prog 38 #[.slice A l.length c] w fun e w' => e = .returned (rdV l) ∧ w = w' := by
  rcases Nat.eq_zero_or_pos l.length with h0 | h0
  · obtain rfl := List.eq_nil_of_length_eq_zero h0
    exact readNumber_empty w A c
  · obtain ⟨g, o, rfl, _, hc⟩ := h.lies h0
    exact readNumber_some w g o c l h0 h.le h.max hc

end Go.Proofs.Ytlelckdcmlpmdaa
