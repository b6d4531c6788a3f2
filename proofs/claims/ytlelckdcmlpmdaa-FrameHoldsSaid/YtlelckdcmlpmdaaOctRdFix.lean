/- octet.ReadFour, ReadEight and what they call; louperef03.ReadFixed. -/
import Derived.Test.YtlelckdcmlpmdaaKit
namespace Go.Proofs.Ytlelckdcmlpmdaa
open Go Go.RowKit Lou

/-- A reader: its one field, in a block of the call's own. -/
theorem has_gives (w : World) (g o : Nat) (A : Option Addr) (len c n : Nat) (hlen : len ≤ 9223372036854775807) (hc : w.cell? ⟨g, o, none⟩ = some (.slice A len c)) :
    Calls Try.prog 102 #[.pointer (some ⟨g, o, none⟩), .int .u64 n] w fun e w' => e = .returned (.bool (decide (n ≤ len))) ∧ w = w' := by
  go_enter Try.func102, Try.ntmps102
  go_wp2
  go_ret
  exact ⟨rfl, rfl⟩

theorem take_gives (w : World) (g o : Nat) (A : Option Addr) (len c n : Nat) (hlen : len ≤ c) (hcc : c ≤ 9223372036854775807) (hn : n ≤ len) (hc : w.cell? ⟨g, o, none⟩ = some (.slice A len c)) (hf : w.frozen? ⟨g, o, none⟩ = false) :
    Calls Try.prog 103 #[.pointer (some ⟨g, o, none⟩), .int .i64 n] w fun e w' => e = .returned (.slice A n n) ∧ w.setCell ⟨g, o, none⟩ (.slice (cutA A c n) (len - n) (c - n)) = w' := by
  by_cases hcn : c = n
  · obtain rfl : len = c := by omega
    subst hcn
    go_enter Try.func103, Try.ntmps103
    go_wp2
    go_ret
    refine ⟨rfl, ?_⟩
    simp [cutA]
  · go_enter Try.func103, Try.ntmps103
    go_wp2
    go_ret
    refine ⟨rfl, ?_⟩
    simp [cutA, hcn]

theorem rfix_snoc (l : List UInt8) (c : UInt8) : rfix (l ++ [c]) = 256 * rfix l + c.toNat := by simp [rfix]
theorem rfix_take_succ {l : List UInt8} {k : Nat} (hk : k < l.length) : rfix (l.take (k + 1)) = 256 * rfix (l.take k) + l[k].toNat := by
  rw [List.take_succ_eq_append_getElem hk, rfix_snoc]
theorem rfix_take_lt {l : List UInt8} {k m : Nat} (hk : k ≤ m) (hm : m ≤ 8) : rfix (l.take k) < 18446744073709551616 := by
  have h1 := rfix_lt (l.take k)
  have h2 : 256 ^ (l.take k).length ≤ 256 ^ 8 := Nat.pow_le_pow_right (by omega) (by simp; omega)
  have h3 : (256 : Nat) ^ 8 = 18446744073709551616 := by decide
  omega
theorem rfix_mul {l : List UInt8} {k m : Nat} (hk : k < m) (hm : m ≤ 8) : IntKind.u64.wrap (256 * (rfix (l.take k) : Int)) = 256 * (rfix (l.take k) : Int) := by
  have h1 := rfix_lt (l.take k)
  have h2 : 256 ^ (l.take k).length ≤ 256 ^ 7 := Nat.pow_le_pow_right (by omega) (by simp; omega)
  have h3 : (256 : Nat) ^ 7 = 72057594037927936 := by decide
  rw [IntKind.wrap_u64]
  omega
theorem rfix_add {l : List UInt8} {k m : Nat} (hl : k < l.length) (hk : k < m) (hm : m ≤ 8) : IntKind.u64.wrap (256 * (rfix (l.take k) : Int) + (l[k].toNat : Int)) = (rfix (l.take (k + 1)) : Int) := by
  rw [rfix_take_succ hl, IntKind.wrap_u64]
  have h1 := rfix_take_lt (l := l) (show k + 1 ≤ m from hk) hm
  rw [rfix_take_succ hl] at h1
  omega
theorem rfix_or {l : List UInt8} {k m : Nat} (hl : k < l.length) (hk : k < m) (hm : m ≤ 8) : bits .or .u64 (IntKind.u64.wrap ((rfix (l.take k) : Int) * 256)) (l[k].toNat : Int) = (rfix (l.take (k + 1)) : Int) := by
  have h0 := rfix_mul (l := l) hk hm
  rw [Int.mul_comm, h0]
  have hc := l[k].toNat_lt
  have h1 := rfix_take_lt (l := l) (show k + 1 ≤ m from hk) hm
  rw [rfix_take_succ hl] at h1
  have h2 := u64_or_nat (256 * rfix (l.take k)) l[k].toNat (by omega) (by omega)
  rw [show 256 * (rfix (l.take k) : Int) = ((256 * rfix (l.take k) : Nat) : Int) from by omega, h2, rfix_take_succ hl]
  congr 1
  exact nat_join 8 _ _ (by omega) (by omega)

def fixV (m : Nat) (l : List UInt8) : Value := if l.length < m then .tuple #[.int .u64 0, .int .i64 130] else .tuple #[.int .u64 (rfix (l.take m) : Int), .int .i64 0]

set_option maxRecDepth 100000 in
set_option maxHeartbeats 1000000 in
theorem refReadFixed_gives (w : World) (B : Nat) (A : Option Addr) (c : Nat) (l : List UInt8) (m : Nat) (hm : m ≤ 8) (h : InB w B A c l) :
    Calls Try.prog 41 #[.slice A l.length c, .int .i64 m] w fun e w' => e = .returned (fixV m l) ∧ w = w' := by
  have hle := h.le
  have hmax := h.max
  unfold fixV
  by_cases hs : l.length < m
  · rw [if_pos hs]
    go_enter Try.func41, Try.ntmps41
    go_wp2_with fail
    go_ret2
    exact ⟨rfl, rfl⟩
  · rw [if_neg hs]
    go_enter Try.func41, Try.ntmps41
    go_wp2_with fail
    go_loop [6, 7] (fun s i => ∃ k : Nat, k ≤ m ∧ i = .int .i64 k ∧ s = .int .u64 (rfix (l.take k) : Int)) (fun _ i => m - (intOf i).toNat)
    case atStart => exact ⟨0, by omega, rfl, rfl⟩
    case round =>
      obtain ⟨k, hk, rfl, rfl⟩ := hrel
      by_cases hlt : k < m
      · have hkl : k < l.length := by omega
        obtain ⟨g, o, rfl, _, hc⟩ := h.lies (by omega)
        have hck := hc k hkl
        clear hc
        have hbd := (l[k]).toNat_lt
        have h1 := rfix_mul (l := l) hlt hm
        have h2 := rfix_add hkl hlt hm
        go_wp2_with fail
        refine ⟨⟨k + 1, by omega, by go_num, rfl⟩, by simp [intOf]; omega⟩
      · obtain rfl : k = m := by omega
        go_wp2_with fail
        go_ret2
        exact ⟨rfl, rfl⟩

set_option maxRecDepth 100000 in
set_option maxHeartbeats 1000000 in
theorem rnumber_gives (w : World) (g B : Nat) (A : Option Addr) (c : Nat) (l : List UInt8) (m : Nat) (hm : m ≤ 8) (hB : B ≤ g) (h : InB w B A c l) (hc : w.cell? ⟨g, 0, none⟩ = some (.slice A l.length c)) (hf : w.frozen? ⟨g, 0, none⟩ = false) :
    Calls Try.prog 104 #[.pointer (some ⟨g, 0, none⟩), .int .i64 m] w fun e w' => e = .returned (fixV m l) ∧ Below g w w' := by
  have hle := h.le
  have hmax := h.max
  unfold fixV
  by_cases hs : l.length < m
  · rw [if_pos hs]
    have hd : decide (m ≤ l.length) = false := by simp; omega
    go_enter Try.func104, Try.ntmps104
    go_wp2_with (first | (go_at_call 102; refine (has_gives _ g 0 A l.length c m (by omega) hc).mono ?_; rintro e w' ⟨rfl, rfl⟩))
    go_ret2
    exact ⟨rfl, Below.refl _ _⟩
  · rw [if_neg hs]
    have hd : decide (m ≤ l.length) = true := by simp; omega
    have hin : InB (w.setCell ⟨g, 0, none⟩ (.slice (cutA A c m) (l.length - m) (c - m))) B A c l := h.keep fun p hp => World.cell?_setCell_other w _ p _ (fun e => by subst e; simp at hp; omega)
    go_enter Try.func104, Try.ntmps104
    go_wp2_with (first | (go_at_call 102; refine (has_gives _ g 0 A l.length c m (by omega) hc).mono ?_; rintro e w' ⟨rfl, rfl⟩) | (go_at_call 103; refine (take_gives _ g 0 A l.length c m (by omega) (by omega) (by omega) hc hf).mono ?_; rintro e w' ⟨rfl, rfl⟩))
    clear hc
    have hb : Below g w (w.setCell ⟨g, 0, none⟩ (.slice (cutA A c m) (l.length - m) (c - m))) := (Below.refl g w).setCell (p := ⟨g, 0, none⟩) (Nat.le_refl g) _
    generalize w.setCell ⟨g, 0, none⟩ (.slice (cutA A c m) (l.length - m) (c - m)) = W at *
    go_loop [4, 21] (fun s i => ∃ k : Nat, k ≤ m ∧ i = .int .i64 k ∧ s = .int .u64 (rfix (l.take k) : Int)) (fun _ i => m - (intOf i).toNat)
    case atStart => exact ⟨0, by omega, rfl, rfl⟩
    case round =>
      obtain ⟨k, hk, rfl, rfl⟩ := hrel
      by_cases hlt : k < m
      · have hkl : k < l.length := by omega
        obtain ⟨g', o, rfl, _, hc⟩ := hin.lies (by omega)
        have hck := hc k hkl
        clear hc
        have hbd := (l[k]).toNat_lt
        have h1 := rfix_or hkl hlt hm
        go_wp2_with fail
        refine ⟨⟨k + 1, by omega, by go_num, rfl⟩, by simp [intOf]; omega⟩
      · obtain rfl : k = m := by omega
        go_wp2_with fail
        go_ret2
        exact ⟨rfl, hb⟩

def fixV32 (l : List UInt8) : Value := if l.length < 4 then .tuple #[.int .u32 0, .int .i64 130] else .tuple #[.int .u32 (rfix (l.take 4) : Int), .int .i64 0]

theorem fixV_lt {m : Nat} {l : List UInt8} (h : l.length < m) : fixV m l = .tuple #[.int .u64 0, .int .i64 130] := by unfold fixV; rw [if_pos h]
theorem fixV_ge {m : Nat} {l : List UInt8} (h : ¬ l.length < m) : fixV m l = .tuple #[.int .u64 (rfix (l.take m) : Int), .int .i64 0] := by unfold fixV; rw [if_neg h]
theorem fixV32_lt {l : List UInt8} (h : l.length < 4) : fixV32 l = .tuple #[.int .u32 0, .int .i64 130] := by unfold fixV32; rw [if_pos h]
theorem fixV32_ge {l : List UInt8} (h : ¬ l.length < 4) : fixV32 l = .tuple #[.int .u32 (rfix (l.take 4) : Int), .int .i64 0] := by unfold fixV32; rw [if_neg h]

set_option maxRecDepth 100000 in
theorem readEight_gives (w : World) (A : Option Addr) (c : Nat) (l : List UInt8) (h : InB w w.heap.size A c l) :
    Calls Try.prog 40 #[.slice A l.length c] w fun e w' => e = .returned (fixV 8 l) ∧ Below w.heap.size w w' := by
  have hb : Below w.heap.size w (w.alloc (Obj.cells #[Value.slice A l.length c] 196)) := (Below.refl _ _).alloc (Nat.le_refl _) _
  have H := rnumber_gives (w.alloc (Obj.cells #[Value.slice A l.length c] 196)) w.heap.size w.heap.size A c l 8 (by omega) (Nat.le_refl _) (h.below hb) (new_cell _ _ _) (new_free _ _ _ _)
  by_cases hs : l.length < 8
  · rw [fixV_lt hs] at H ⊢
    go_enter Try.func40, Try.ntmps40
    go_wp2_with (go_at_call 104; refine H.mono ?_; rintro e w' ⟨rfl, hb2⟩)
    go_ret2
    exact ⟨rfl, hb.trans hb2⟩
  · rw [fixV_ge hs] at H ⊢
    go_enter Try.func40, Try.ntmps40
    go_wp2_with (go_at_call 104; refine H.mono ?_; rintro e w' ⟨rfl, hb2⟩)
    go_ret2
    exact ⟨rfl, hb.trans hb2⟩

set_option maxRecDepth 100000 in
theorem readFour_gives (w : World) (A : Option Addr) (c : Nat) (l : List UInt8) (h : InB w w.heap.size A c l) :
    Calls Try.prog 39 #[.slice A l.length c] w fun e w' => e = .returned (fixV32 l) ∧ Below w.heap.size w w' := by
  have hb : Below w.heap.size w (w.alloc (Obj.cells #[Value.slice A l.length c] 196)) := (Below.refl _ _).alloc (Nat.le_refl _) _
  have H := rnumber_gives (w.alloc (Obj.cells #[Value.slice A l.length c] 196)) w.heap.size w.heap.size A c l 4 (by omega) (Nat.le_refl _) (h.below hb) (new_cell _ _ _) (new_free _ _ _ _)
  by_cases hs : l.length < 4
  · rw [fixV_lt hs] at H
    rw [fixV32_lt hs]
    go_enter Try.func39, Try.ntmps39
    go_wp2_with (go_at_call 104; refine H.mono ?_; rintro e w' ⟨rfl, hb2⟩)
    go_ret2
    exact ⟨rfl, hb.trans hb2⟩
  · rw [fixV_ge hs] at H
    rw [fixV32_ge hs]
    have h4 : rfix (l.take 4) < 4294967296 := by
      have h1 := rfix_lt (l.take 4)
      have h2 : 256 ^ (l.take 4).length ≤ 256 ^ 4 := Nat.pow_le_pow_right (by omega) (by simp; omega)
      have h3 : (256 : Nat) ^ 4 = 4294967296 := by decide
      omega
    go_enter Try.func39, Try.ntmps39
    go_wp2_with (go_at_call 104; refine H.mono ?_; rintro e w' ⟨rfl, hb2⟩)
    go_ret2
    exact ⟨rfl, hb.trans hb2⟩
end Go.Proofs.Ytlelckdcmlpmdaa
