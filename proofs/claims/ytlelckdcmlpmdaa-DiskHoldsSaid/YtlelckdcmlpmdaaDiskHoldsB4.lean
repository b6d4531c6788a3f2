/- Texts that the proof of DiskHolds leans on, part 4. -/
import Derived.Lib.SlBytesConst
import Derived.LoopN
import Derived.Test.YtlelckdcmlpmdaaDiskHoldsB3
/- octet.Four, Eight and what they call; louperef03.Fixed: fixed bytes. -/
namespace Go.Proofs.Ytlelckdcmlpmdaa
open Go Go.RowKit Lou

set_option maxRecDepth 100000 in
theorem four1_gives (n b : Nat) (hb : b ≤ 31) (w : World) : Calls Try.prog 106 #[.int .u32 n, .int .i64 b] w fun e w' => e = .returned (.int .u8 ((n / 2 ^ b % 256 : Nat) : Int)) ∧ w = w' := by
  go_enter Try.func106, Try.ntmps106
  go_wp2
  go_ret
  exact ⟨by simp, rfl⟩

set_option maxRecDepth 100000 in
theorem eight1_gives (n b : Nat) (hb : b ≤ 63) (w : World) : Calls Try.prog 108 #[.int .u64 n, .int .i64 b] w fun e w' => e = .returned (.int .u8 ((n / 2 ^ b % 256 : Nat) : Int)) ∧ w = w' := by
  go_enter Try.func108, Try.ntmps108
  go_wp2
  go_ret
  exact ⟨by simp, rfl⟩

/-- What fixed has told when k bytes are still to come. -/
def FixAt (m n k : Nat) (pre : List UInt8) : Prop := pre ++ fixL k n = fixL m n ∧ pre.length + k = m
theorem FixAt.start (m n : Nat) : FixAt m n m [] := ⟨rfl, by simp⟩
theorem FixAt.next {m n k : Nat} {pre : List UInt8} (h : FixAt m n (k + 1) pre) : FixAt m n k (pre ++ [UInt8.ofNat (n / 2 ^ (8 * k) % 256)]) := by
  refine ⟨?_, by have := h.2; simp; omega⟩
  rw [← h.1, fixL_succ, List.append_assoc, List.singleton_append]
  congr 2
  apply UInt8.toNat_inj.1
  rw [show (256 : Nat) ^ k = 2 ^ (8 * k) from by rw [Nat.pow_mul]]
  simp [UInt8.toNat_ofNat']
theorem FixAt.last {m n : Nat} {pre : List UInt8} (h : FixAt m n 0 pre) : pre = fixL m n := by
  have := h.1
  simpa [fixL] using this

set_option maxRecDepth 100000 in
set_option maxHeartbeats 1000000 in
theorem fixed32_gives (m n : Nat) (hm : m ≤ 4) (w : World) : Calls Try.prog 105 #[.int .u32 n, .int .i64 m, .func (.func 106) #[] #[]] w (GivesB w (fixL m n)) := by
  obtain ⟨i0, hi, hz0, hz1, hz2⟩ := info_parts inf_u8
  go_enter Try.func105, Try.ntmps105
  go_wp2_with fail
  go_loopw [6, 7] (fun v i wr => ∃ (k : Nat) (pre : List UInt8), Hid (FixAt m n k pre) ∧ pre.length ≤ m ∧ k ≤ m ∧ i = .int .i64 ((k : Int) - 1) ∧ OwnB wr w.heap.size v pre ∧ Below w.heap.size w wr)
    (fun _ i _ => (intOf i + 1).toNat)
  case atStart => exact ⟨m, [], Lib.hid (FixAt.start m n), by simp, by omega, rfl, OwnB.nil _ _, Below.refl _ _⟩
  case round =>
    obtain ⟨k, pre, hF, hl, hk, rfl, hown, hB⟩ := hrel
    have hBs := hB.size
    rcases k with _ | k
    · have hi0 : ((0 : Nat) : Int) - 1 < 0 := by omega
      go_wp2_with fail
      go_ret
      have e := hF.out.last
      subst e
      exact ⟨_, rfl, hown, hB⟩
    · have e1 : (((k + 1 : Nat) : Int) - 1) = (k : Int) := by omega
      rw [e1]
      clear e1
      go_wp2_with fail
      rw [show (8 * (k : Int)) = ((8 * k : Nat) : Int) from by omega]
      refine (four1_gives n (8 * k) (by omega) _).mono ?_
      rintro e w' ⟨rfl, rfl⟩
      have hb8 : n / 2 ^ (8 * k) % 256 < 256 := by omega
      generalize hx : n / 2 ^ (8 * k) % 256 = x at *
      have hX := Lib.hid hx
      clear hx
      go_wp2_with (at_builtin; refine wpList_append_own _ rfl _ _ 30 rfl w.heap.size 5 i0 (.int .u8 0) 1 1 Try.underlying30 hi hz0 hz1 hz2 rfl (by decide) _ _ _ rfl (World.ownsRow.alloc hown _) ⟨wr.heap.size, 0, none⟩ 1 1 _ rfl rfl (cell_one_new _ _ _) (by simp [Value.oneCell']) (by unfold maxLen; omega) (by omega) (by simp; omega) ?_; intro v' w1 hown' hgrow _)
      have hNx := hF.out.next
      rw [hX.out] at hNx
      rw [map_snoc_b8 pre x hb8] at hown'
      refine ⟨⟨k, pre ++ [UInt8.ofNat x], Lib.hid hNx, ?_, by omega, rfl, ?_, (hB.alloc hBs _).grown hgrow (by simp; omega) (fun k hk => (World.ownsRow.lt hown k hk).1)⟩, by simp [intOf]⟩
      · have := hNx.2; omega
      · unfold OwnB
        simpa using hown'

set_option maxRecDepth 100000 in
set_option maxHeartbeats 1000000 in
theorem fixed64_gives (m n : Nat) (hm : m ≤ 8) (w : World) : Calls Try.prog 107 #[.int .u64 n, .int .i64 m, .func (.func 108) #[] #[]] w (GivesB w (fixL m n)) := by
  obtain ⟨i0, hi, hz0, hz1, hz2⟩ := info_parts inf_u8
  go_enter Try.func107, Try.ntmps107
  go_wp2_with fail
  go_loopw [6, 7] (fun v i wr => ∃ (k : Nat) (pre : List UInt8), Hid (FixAt m n k pre) ∧ pre.length ≤ m ∧ k ≤ m ∧ i = .int .i64 ((k : Int) - 1) ∧ OwnB wr w.heap.size v pre ∧ Below w.heap.size w wr)
    (fun _ i _ => (intOf i + 1).toNat)
  case atStart => exact ⟨m, [], Lib.hid (FixAt.start m n), by simp, by omega, rfl, OwnB.nil _ _, Below.refl _ _⟩
  case round =>
    obtain ⟨k, pre, hF, hl, hk, rfl, hown, hB⟩ := hrel
    have hBs := hB.size
    rcases k with _ | k
    · have hi0 : ((0 : Nat) : Int) - 1 < 0 := by omega
      go_wp2_with fail
      go_ret
      have e := hF.out.last
      subst e
      exact ⟨_, rfl, hown, hB⟩
    · have e1 : (((k + 1 : Nat) : Int) - 1) = (k : Int) := by omega
      rw [e1]
      clear e1
      go_wp2_with fail
      rw [show (8 * (k : Int)) = ((8 * k : Nat) : Int) from by omega]
      refine (eight1_gives n (8 * k) (by omega) _).mono ?_
      rintro e w' ⟨rfl, rfl⟩
      have hb8 : n / 2 ^ (8 * k) % 256 < 256 := by omega
      generalize hx : n / 2 ^ (8 * k) % 256 = x at *
      have hX := Lib.hid hx
      clear hx
      go_wp2_with (at_builtin; refine wpList_append_own _ rfl _ _ 30 rfl w.heap.size 5 i0 (.int .u8 0) 1 1 Try.underlying30 hi hz0 hz1 hz2 rfl (by decide) _ _ _ rfl (World.ownsRow.alloc hown _) ⟨wr.heap.size, 0, none⟩ 1 1 _ rfl rfl (cell_one_new _ _ _) (by simp [Value.oneCell']) (by unfold maxLen; omega) (by omega) (by simp; omega) ?_; intro v' w1 hown' hgrow _)
      have hNx := hF.out.next
      rw [hX.out] at hNx
      rw [map_snoc_b8 pre x hb8] at hown'
      refine ⟨⟨k, pre ++ [UInt8.ofNat x], Lib.hid hNx, ?_, by omega, rfl, ?_, (hB.alloc hBs _).grown hgrow (by simp; omega) (fun k hk => (World.ownsRow.lt hown k hk).1)⟩, by simp [intOf]⟩
      · have := hNx.2; omega
      · unfold OwnB
        simpa using hown'

/-- octet.Four -/
theorem four_gives (n : Nat) (w : World) : Calls Try.prog 43 #[.int .u32 n] w (GivesB w (fixL 4 n)) := by
  go_enter Try.func43, Try.ntmps43
  go_wp2_with fail
  refine (fixed32_gives 4 n (by omega) _).mono ?_
  rintro e w' ⟨v, rfl, h1, h2⟩
  go_wp2
  go_ret
  exact ⟨v, rfl, h1, h2⟩

/-- octet.Eight -/
theorem eight_gives (n : Nat) (w : World) : Calls Try.prog 45 #[.int .u64 n] w (GivesB w (fixL 8 n)) := by
  go_enter Try.func45, Try.ntmps45
  go_wp2_with fail
  refine (fixed64_gives 8 n (by omega) _).mono ?_
  rintro e w' ⟨v, rfl, h1, h2⟩
  go_wp2
  go_ret
  exact ⟨v, rfl, h1, h2⟩
end Go.Proofs.Ytlelckdcmlpmdaa
/- loupelaw03.works: the chapter's rows. -/
namespace Go.Proofs.Ytlelckdcmlpmdaa
open Go Go.RowKit Lou

theorem num3_gives (e : Int) (w : World) : Calls Try.prog 36 #[.int .i64 e] w fun x w' => x = .returned (.int .i64 e) ∧ w = w' := by
  go_enter Try.func36, Try.ntmps36
  go_wp2
  go_ret
  exact ⟨rfl, rfl⟩

theorem num300 : num 300 = [172, 2] := by decide +kernel
theorem rd_a : rd [128, 0] = none := by decide +kernel
theorem rd_b : rd [172, 2, 7] = some (300, 2) := by decide +kernel
theorem rdV_b : rdV [172, 2, 7] = .tuple #[.int .u64 300, .int .i64 2, .int .i64 0] := rdV_some rd_b
theorem fix258 : fixL 4 258 = [0, 0, 1, 2] := by decide +kernel
theorem strab : strL [97, 98] = [2, 97, 98] := by decide +kernel
theorem sum19 : sumL [49, 50, 51, 52, 53, 54, 55, 56, 57] = 3421780262 := by decide +kernel
theorem sum0 : sumL [] = 0 := by decide +kernel

theorem OwnB.toStr {w : World} {base : Nat} {v : Value} {l : List UInt8} (h : OwnB w base v l) : (convert 30 9 v).run Try.prog w = .ok (.string (str l)) w := by
  obtain ⟨A, c, rfl, hin⟩ := h.inB
  exact hin.string

set_option maxRecDepth 100000 in
set_option maxHeartbeats 4000000 in
theorem works3_gives (w : World) : Calls Try.prog 27 #[] w fun e w' => e = .returned (.bool true) ∧ Below w.heap.size w w' := by
  have hb0 : Below w.heap.size w w := Below.refl _ _
  go_enter Try.func27, Try.ntmps27
  go_wp2_with fail
  have hb1 : Below w.heap.size w (w.alloc (.cells #[.int .u8 128, .int .u8 0] 5)) := (Below.refl _ _).alloc (Nat.le_refl _) _
  have i1 : InB (w.alloc (.cells #[.int .u8 128, .int .u8 0] 5)) (w.heap.size + 1) (some ⟨w.heap.size, 0, none⟩) 2 [128, 0] := BlkIs.inB (l := [128, 0]) (BlkIs.new w 5 #[.int .u8 128, .int .u8 0]) _ (by omega) (by simp)
  have H1 := readNumber_gives _ _ _ _ _ i1
  rw [rdV_none rd_a] at H1
  refine H1.mono ?_
  clear H1 i1
  rintro e w' ⟨rfl, rfl⟩
  generalize w.alloc (.cells #[.int .u8 128, .int .u8 0] 5) = w1 at *
  go_wp2_with fail
  have hb2 : Below w.heap.size w (w1.alloc (.cells #[.int .u8 172, .int .u8 2, .int .u8 7] 5)) := hb1.alloc hb1.size _
  have i1 : InB (w1.alloc (.cells #[.int .u8 172, .int .u8 2, .int .u8 7] 5)) (w1.heap.size + 1) (some ⟨w1.heap.size, 0, none⟩) 3 [172, 2, 7] := BlkIs.inB (l := [172, 2, 7]) (BlkIs.new w1 5 #[.int .u8 172, .int .u8 2, .int .u8 7]) _ (by omega) (by simp)
  have H1 := readNumber_gives _ _ _ _ _ i1
  rw [rdV_b] at H1
  refine H1.mono ?_
  clear H1 i1 hb1
  rintro e w' ⟨rfl, rfl⟩
  generalize w1.alloc (.cells #[.int .u8 172, .int .u8 2, .int .u8 7] 5) = w2 at *
  go_wp2_with fail
  refine (number_gives 300 (by omega) _).mono ?_
  rintro e w3 ⟨v, rfl, hown, hB⟩
  have hb3 := hb2.trans (hB.mono hb2.size)
  have hst := hown.toStr
  rw [num300] at hst
  clear hown hB hb2
  have hs1 : str [172, 2] = ⟨#[172, 2]⟩ := rfl
  go_wp2_with (go_at_call 36; refine (num3_gives _ _).mono ?_; rintro e w' ⟨rfl, rfl⟩)
  clear hst hs1
  refine (four_gives 258 _).mono ?_
  rintro e w4 ⟨v4, rfl, hown, hB⟩
  have hb4 := hb3.trans (hB.mono hb3.size)
  have hst := hown.toStr
  rw [fix258] at hst
  clear hown hB hb3
  have hs1 : str [0, 0, 1, 2] = ⟨#[0, 0, 1, 2]⟩ := rfl
  go_wp2_with fail
  clear hst hs1
  refine (string_gives [97, 98] (by simp) _).mono ?_
  rintro e w5 ⟨v5, rfl, hown, hB⟩
  have hb5 := hb4.trans (hB.mono hb4.size)
  have hst := hown.toStr
  rw [strab] at hst
  clear hown hB hb4
  have hs1 : str [2, 97, 98] = ⟨#[2, 97, 98]⟩ := rfl
  have kc := fun (w : World) (C : Array Value) (n c : Nat) => Lib.run_convert_bytes_const (P := Try.prog) w 30 5 C n c Try.underlying30 Try.underlying5
  go_wp2_with fail
  clear hst hs1 kc
  have hb6 : Below w.heap.size w (w5.alloc (.cells #[.int .u8 49, .int .u8 50, .int .u8 51, .int .u8 52, .int .u8 53, .int .u8 54, .int .u8 55, .int .u8 56, .int .u8 57] 5 (9, 10))) := hb5.alloc hb5.size _
  have i1 : InB (w5.alloc (.cells #[.int .u8 49, .int .u8 50, .int .u8 51, .int .u8 52, .int .u8 53, .int .u8 54, .int .u8 55, .int .u8 56, .int .u8 57] 5 (9, 10))) (w5.alloc (.cells #[.int .u8 49, .int .u8 50, .int .u8 51, .int .u8 52, .int .u8 53, .int .u8 54, .int .u8 55, .int .u8 56, .int .u8 57] 5 (9, 10))).heap.size (some ⟨w5.heap.size, 0, none⟩) 9 [49, 50, 51, 52, 53, 54, 55, 56, 57] :=
    inB_row (l := [49, 50, 51, 52, 53, 54, 55, 56, 57]) (heap_alloc_new w5 _) _ (by simp) (by simp)
  have H1 := sum1_gives _ _ _ _ i1
  rw [sum19, World.size_alloc] at H1
  refine H1.mono ?_
  clear H1 i1 hb5
  rintro e w7 ⟨rfl, hB⟩
  have hb7 := hb6.trans (hB.mono (by have := hb6.size; simpa using this))
  clear hb6 hB
  go_wp2_with fail
  have H1 := sum0_gives w7
  rw [sum0] at H1
  refine H1.mono ?_
  clear H1
  rintro e w8 ⟨rfl, hB⟩
  have hb8 := hb7.trans (hB.mono hb7.size)
  go_wp2_with fail
  go_ret
  exact ⟨rfl, hb8⟩
end Go.Proofs.Ytlelckdcmlpmdaa
/- louperef03.Fixed: fixed bytes. -/
namespace Go.Proofs.Ytlelckdcmlpmdaa
open Go Go.RowKit Lou

/-- The last bytes are told; k are still noughts. -/
def FxAt (m n0 n k : Nat) (l : List UInt8) : Prop := n = n0 / 256 ^ (m - k) ∧ l = List.replicate k 0 ++ (fixL m n0).drop k
theorem FxAt.start (m n : Nat) : FxAt m n n m (List.replicate m 0) := by
  refine ⟨by simp, ?_⟩
  rw [List.drop_eq_nil_of_le (by rw [fixL_length]; exact Nat.le_refl _), List.append_nil]
theorem FxAt.length {m n0 n k : Nat} {l : List UInt8} (h : FxAt m n0 n k l) (hk : k ≤ m) : l.length = m := by
  rw [h.2]; simp [fixL_length]; omega
theorem FxAt.next {m n0 n k : Nat} {l : List UInt8} (h : FxAt m n0 n (k + 1) l) (hk : k + 1 ≤ m) : FxAt m n0 (n / 256) k (l.set k (UInt8.ofNat (n % 256))) := by
  obtain ⟨h1, h2⟩ := h
  constructor
  · rw [h1, Nat.div_div_eq_div_mul, ← Nat.pow_succ, show m - k = (m - (k + 1)) + 1 from by omega]
  · rw [h2, List.replicate_succ', List.append_assoc, List.set_append_right _ _ (by simp)]
    simp only [List.length_replicate, Nat.sub_self]
    have hl : k < (fixL m n0).length := by rw [fixL_length]; omega
    rw [List.drop_eq_getElem_cons hl]
    congr 1
    show UInt8.ofNat (n % 256) :: _ = _
    congr 1
    have : (fixL m n0)[k] = UInt8.ofNat (n0 / 256 ^ (m - 1 - k)) := by simp [fixL]
    rw [this, h1, show m - (k + 1) = m - 1 - k from by omega]
    apply UInt8.toNat_inj.1
    simp [UInt8.toNat_ofNat']
theorem FxAt.last {m n0 n : Nat} {l : List UInt8} (h : FxAt m n0 n 0 l) : l = fixL m n0 := by simpa using h.2

set_option maxRecDepth 100000 in
set_option maxHeartbeats 1000000 in
theorem refFixed_gives (m n0 : Nat) (hm : m ≤ 8) (h64 : n0 < 2 ^ 64) (w : World) : Calls Try.prog 44 #[.int .u64 n0, .int .i64 m] w (GivesB w (fixL m n0)) := by
  have hN := Lib.hid h64
  clear h64
  go_enter Try.func44, Try.ntmps44
  go_wp2_with (at_make; refine wp_makeB rfl _ _ rfl w.heap.size _ _ m rfl rfl (by omega) (Nat.le_refl _) ?_; intro w1 hown1 hgrow1)
  have hB1 : Below w.heap.size w w1 := (Below.refl _ _).grown hgrow1 (Nat.le_refl _) (fun k hk => by cases hk)
  clear hgrow1
  go_loopw [0, 6] (fun x i wr => ∃ (k n : Nat) (l : List UInt8), k ≤ m ∧ i = .int .i64 ((k : Int) - 1) ∧ x = .int .u64 n ∧ Hid (FxAt m n0 n k l) ∧ OwnB wr w.heap.size (.slice (some ⟨w.heap.size, 0, none⟩) m m) l ∧ Below w.heap.size w wr)
    (fun _ i _ => (intOf i + 1).toNat)
  case atStart => exact ⟨m, n0, _, Nat.le_refl _, rfl, rfl, Lib.hid (FxAt.start m n0), hown1, hB1⟩
  case round =>
    obtain ⟨k, n, l, hk, rfl, rfl, hF, hown, hB⟩ := hrel
    clear hown1 hB1
    rcases k with _ | k
    · have hi0 : ((0 : Nat) : Int) - 1 < 0 := by omega
      go_wp2_with fail
      go_ret
      have e := hF.out.last
      subst e
      exact ⟨_, rfl, hown, hB⟩
    · have e1 : (((k + 1 : Nat) : Int) - 1) = (k : Int) := by omega
      rw [e1]
      clear e1
      have hll : k < l.length := by have := hF.out.length hk; omega
      have hc := hown.cell k hll
      have hf := hown.free k
      have hq : IntKind.u64.wrap ((n : Int) / 256) = (n : Int) / 256 := by
        have h64 := hN.out
        have hn : n ≤ n0 := by rw [hF.out.1]; exact Nat.div_le_self _ _
        rw [IntKind.wrap_u64]
        omega
      have hset := hown.set k (n % 256) (by omega)
      have hNx := Lib.hid (hF.out.next hk)
      have hgw : w.heap.size ≤ w.heap.size := Nat.le_refl _
      rw [show ((n % 256 : Nat) : Int) = (n : Int) % 256 from by omega] at hset
      have hSet := Lib.hid hset
      clear hset
      go_wp2_with fail
      refine ⟨⟨k, n / 256, _, by omega, rfl, by go_num, hNx, hSet.out, hB.setCell (p := ⟨w.heap.size, k, none⟩) hgw _⟩, by simp [intOf]⟩
end Go.Proofs.Ytlelckdcmlpmdaa
/- loupelaw03.OctetNumbers: the walk. -/
namespace Go.Proofs.Ytlelckdcmlpmdaa
open Go Go.RowKit Lou

theorem rdV_form (l : List UInt8) : ∃ x y e : Int, rdV l = .tuple #[.int .u64 x, .int .i64 y, .int .i64 e] := by
  unfold rdV
  cases rd l with
  | none => exact ⟨_, _, _, rfl⟩
  | some p => exact ⟨_, _, _, rfl⟩
theorem fix4_form (l : List UInt8) : ∃ (r : Nat) (e : Int), r < 4294967296 ∧ fixV32 l = .tuple #[.int .u32 r, .int .i64 e] ∧ fixV 4 l = .tuple #[.int .u64 r, .int .i64 e] := by
  by_cases h : l.length < 4
  · exact ⟨0, 130, by omega, fixV32_lt h, fixV_lt h⟩
  · refine ⟨rfix (l.take 4), 0, ?_, fixV32_ge h, fixV_ge h⟩
    have h1 := rfix_lt (l.take 4)
    have h2 : 256 ^ (l.take 4).length ≤ 256 ^ 4 := Nat.pow_le_pow_right (by omega) (by simp; omega)
    have h3 : (256 : Nat) ^ 4 = 4294967296 := by decide
    omega
theorem fix8_form (l : List UInt8) : ∃ (r : Int) (e : Int), fixV 8 l = .tuple #[.int .u64 r, .int .i64 e] := by
  by_cases h : l.length < 8
  · exact ⟨0, 130, fixV_lt h⟩
  · exact ⟨_, 0, fixV_ge h⟩

/-- Bytes of the call's own as a string, in whatever later world. -/
theorem OwnB.toStrs {w : World} {base : Nat} {v : Value} {l : List UInt8} (h : OwnB w base v l) : ∀ W, Below w.heap.size w W → (convert 30 9 v).run Try.prog W = .ok (.string (str l)) W := by
  intro W hW
  obtain ⟨A, c, rfl, hin⟩ := h.inB
  exact (hin.below hW).string

theorem Reg.gives_num (m : Int) (w : World) : Calls Try.prog 36 #[.int .i64 m] w fun e w' => ∃ v, e = .returned v ∧ Grow w w' ∧ v = .int .i64 m :=
  (num3_gives m w).mono (by rintro e w' ⟨rfl, rfl⟩; exact ⟨_, rfl, Grow.refl _, rfl⟩)
theorem Reg.gives_works (w : World) : Calls Try.prog 27 #[] w fun e w' => ∃ v, e = .returned v ∧ Grow w w' ∧ v = .bool true :=
  (works3_gives w).mono (by rintro e w' ⟨rfl, hB⟩; exact ⟨_, rfl, hB, rfl⟩)
set_option maxRecDepth 100000 in
set_option maxHeartbeats 4000000 in
theorem lawNumbers_long (n : Nat) (w : World) (A : Option Addr) (c : Nat) (l : List UInt8) (h : InB w w.heap.size A c l) (hl : 200 < l.length) :
    Calls Try.prog 7 #[.int .u64 n, .slice A l.length c] w fun e w' => e = .returned (.bool true) ∧ Below w.heap.size w w' := by
  have hle := h.le
  have hmax := h.max
  go_enter Try.func7, Try.ntmps7
  go_wp2_with (go_at_call 27; refine (works3_gives _).mono ?_; rintro e w' ⟨rfl, hB⟩)
  go_ret
  exact ⟨rfl, hB⟩

set_option maxRecDepth 100000 in
set_option maxHeartbeats 4000000 in
theorem lawNumbers_walk (n : Nat) (hn : n < 2 ^ 64) (w : World) (A : Option Addr) (c : Nat) (l : List UInt8) (h : InB w w.heap.size A c l) (hl : l.length ≤ 200) :
    Calls Try.prog 7 #[.int .u64 n, .slice A l.length c] w fun e w' => e = .returned (.bool true) ∧ Below w.heap.size w w' := by
  have hle := h.le
  have hmax := h.max
  obtain ⟨x, y, ex, hrd⟩ := rdV_form l
  obtain ⟨r4, e4, hr4, hf32, hf4⟩ := fix4_form l
  obtain ⟨r8, e8, hf8⟩ := fix8_form l
  have hN := Lib.hid hn
  clear hn
  go_enter Try.func7, Try.ntmps7
  go_wp2_with fail
  refine (number_gives n hN.out _).mono ?_
  rintro e w1 ⟨v, rfl, hown, hB⟩
  obtain ⟨A1, c1, rfl, hin1⟩ := hown.inB
  have hst1 := hown.toStrs
  have hin0 := h.below hB
  have e0 : OwnB (w1.alloc (.cells #[] 5)) w1.heap.size (.slice (some ⟨w1.heap.size, 0, none⟩) 0 0) [] := World.ownsRow_lit w1 #[] 0 (Nat.le_refl _) (by unfold maxLen; omega) rfl
  have hnl := num_length n
  have hb1 : Below w1.heap.size w1 (w1.alloc (.cells #[] 5)) := (Below.refl _ _).alloc (Nat.le_refl _) _
  go_wp2_with (first
    | (at_builtin; refine wp_appB rfl (.tmp 30) (.tmp 31) rfl w1.heap.size _ [] rfl e0 _ A1 c1 (num n) rfl (hin1.below hb1) (by simp; omega) (by simp) ?_; intro v2 w2 hown2 hg2; have hb2 := e0.below hb1 hg2)
    | (at_builtin; refine wp_appB rfl (.tmp 32) (.tmp 33) rfl w1.heap.size _ ([] ++ num n) rfl hown2 _ A c l rfl ((hin0.more hB.size).below hb2) (by simp; omega) hb2.size ?_; intro v3 w3 hown3 hg3; have hb3 := hown2.below hb2 hg3; obtain ⟨A3, c3, rfl, hin3⟩ := hown3.inB))
  have H := readNumber_gives w3 _ A3 c3 _ hin3
  rw [List.nil_append, List.length_append, rdV_some (rd_num n hN.out l)] at H
  have hB3 : Below w.heap.size w w3 := hB.trans (hb3.mono hB.size)
  have hlv := h.below hB3
  have H2 := readNumber_gives w3 _ A c l hlv
  rw [hrd] at H2
  have H3 := refReadNumber_gives w3 _ A c l hlv
  rw [hrd] at H3
  have hst3 : ∀ W, Below w3.heap.size w3 W → (convert 30 9 (.slice A1 (num n).length c1)).run Try.prog W = .ok (.string (str (num n))) W := fun W hW => hst1 W (hb3.trans (hW.mono hb3.size))
  have hB3s := hB3.size
  clear hin0 hb1 e0 hb2 hown2 hg2 hown3 hg3 hb3 hin3 hst1 hin1 hown hB h
  refine H.mono ?_
  clear H
  rintro e w' ⟨rfl, rfl⟩
  go_wp2_with fail
  refine H2.mono ?_
  clear H2
  rintro e w' ⟨rfl, rfl⟩
  go_wp2_with fail
  refine H3.mono ?_
  clear H3
  rintro e w' ⟨rfl, rfl⟩
  go_wp2_with fail
  have H := readFour_gives w3 A c l (hlv.more hB3s)
  rw [hf32] at H
  refine H.mono ?_
  clear H hf32
  rintro e w4 ⟨rfl, hB4⟩
  go_wp2_with fail
  have H := readEight_gives w4 A c l ((hlv.more hB3s).below hB4 |>.more hB4.size)
  rw [hf8] at H
  refine H.mono ?_
  clear H
  rintro e w5 ⟨rfl, hB5⟩
  have hB35 : Below w3.heap.size w3 w5 := hB4.trans (hB5.mono hB4.size)
  clear hB4 hB5
  have hlv5 := hlv.below (hB35.mono hB3s)
  have H1 := refReadFixed_gives w5 _ A c l 4 (by omega) hlv5
  rw [hf4] at H1
  have H2 := refReadFixed_gives w5 _ A c l 8 (by omega) hlv5
  rw [hf8] at H2
  clear hf4 hf8 hlv hlv5
  go_wp2_with fail
  refine H1.mono ?_
  clear H1
  rintro e w' ⟨rfl, rfl⟩
  go_wp2_with fail
  refine H2.mono ?_
  clear H2
  rintro e w' ⟨rfl, rfl⟩
  go_wp2_with fail
  have hB5 : Below w.heap.size w w5 := hB3.trans (hB35.mono hB3s)
  open Reg in
  refine region_facts (by kernel_rfl) (by kernel_rfl) 156 rfl (by kernel_rfl)
    [(5, .val (.slice A1 (num n).length c1)), (0, .val (.int .u64 (n : Int))), (6, .val (.int .u64 (n : Int))), (7, .val (.int .i64 ((num n).length : Int))), (8, .val (.int .i64 0)), (9, .val (.int .u64 x)), (12, .val (.int .u64 x)), (10, .val (.int .i64 y)), (13, .val (.int .i64 y)), (11, .val (.int .i64 ex)), (14, .val (.int .i64 ex)), (15, .val (.int .u32 (r4 : Int))), (19, .val (.int .u64 (r4 : Int))), (16, .val (.int .i64 e4)), (20, .val (.int .i64 e4)), (17, .val (.int .u64 r8)), (21, .val (.int .u64 r8)), (18, .val (.int .i64 e8)), (22, .val (.int .i64 e8))]
    [(71, .val (.slice A1 (num n).length c1)), (72, .val (.string (str (num n)))), (73, .val (.int .u64 (n : Int))), (74, .res (num n)), (75, .val (.string (str (num n)))), (76, .val (.bool true)), (77, .val (.bool true)), (78, .val (.int .u64 (n : Int))), (79, .val (.int .u64 (n : Int))), (80, .val (.bool true)), (81, .val (.bool true)), (82, .val (.bool true)), (83, .val (.int .i64 ((num n).length : Int))), (84, .val (.slice A1 (num n).length c1)), (85, .val (.int .i64 ((num n).length : Int))), (86, .val (.bool true)), (87, .val (.bool true)), (88, .val (.bool true)), (89, .val (.int .i64 0)), (90, .val (.int .i64 0)), (91, .val (.bool true)), (92, .val (.bool true)), (93, .val (.bool true)), (94, .val (.int .u64 x)), (95, .val (.int .u64 x)), (96, .val (.bool true)), (97, .val (.bool true)), (98, .val (.bool true)), (99, .val (.int .i64 y)), (100, .val (.int .i64 y)), (101, .val (.bool true)), (102, .val (.bool true)), (103, .val (.bool true)), (104, .val (.int .i64 ex)), (105, .val (.int .i64 ex)), (106, .val (.int .i64 ex)), (107, .val (.bool true)), (108, .val (.bool true)), (109, .val (.bool true)), (110, .val (.int .u32 (r4 : Int))), (111, .val (.int .u64 (r4 : Int))), (112, .val (.int .u64 (r4 : Int))), (113, .val (.bool true)), (114, .val (.bool true)), (115, .val (.bool true)), (116, .val (.int .i64 e4)), (117, .val (.int .i64 e4)), (118, .val (.int .i64 e4)), (119, .val (.bool true)), (120, .val (.bool true)), (121, .val (.bool true)), (122, .val (.int .u64 r8)), (123, .val (.int .u64 r8)), (124, .val (.bool true)), (125, .val (.bool true)), (126, .val (.bool true)), (127, .val (.int .i64 e8)), (128, .val (.int .i64 e8)), (129, .val (.int .i64 e8)), (130, .val (.bool true)), (131, .val (.bool true)), (132, .val (.bool true)), (133, .val (.int .u64 (n : Int))), (134, .val (.int .u32 ((n % 4294967296 : Nat) : Int))), (135, .res (fixL 4 (n % 4294967296))), (136, .val (.string (str (fixL 4 (n % 4294967296))))), (137, .val (.int .u64 (n : Int))), (138, .val (.int .u32 ((n % 4294967296 : Nat) : Int))), (139, .val (.int .u64 ((n % 4294967296 : Nat) : Int))), (140, .res (fixL 4 (n % 4294967296))), (141, .val (.string (str (fixL 4 (n % 4294967296))))), (142, .val (.bool true)), (143, .val (.bool true)), (144, .val (.bool true)), (145, .val (.int .u64 (n : Int))), (146, .res (fixL 8 n)), (147, .val (.string (str (fixL 8 n)))), (148, .val (.int .u64 (n : Int))), (149, .res (fixL 8 n)), (150, .val (.string (str (fixL 8 n)))), (151, .val (.bool true)), (152, .val (.bool true)), (153, .val (.bool true)), (154, .val (.bool true)), (155, .val (.bool true)), (4, .val (.bool true))]
    ⟨rfl, rfl, rfl, rfl, rfl, rfl, rfl, rfl, rfl, rfl, rfl, rfl, rfl, rfl, rfl, rfl, rfl, rfl, rfl, trivial⟩ (by kernel_rfl)
    (allOk_cons (ok_none rfl (l_mvF 5 (.val (.slice A1 (num n).length c1)) (.inl rfl) (by kernel_rfl) (by kernel_rfl) (by kernel_rfl)))
    <| allOk_cons (ok_none rfl (l_convS (.tmp 71) _ _ (.slice A1 (num n).length c1) (.string (str (num n))) rfl (hs 71 (.slice A1 (num n).length c1) (by kernel_rfl) (by kernel_rfl)) (fun w hg => hst3 w (hB35.trans (hg.mono hB35.size))) (by kernel_rfl)))
    <| allOk_cons (ok_none rfl (l_mvF 0 (.val (.int .u64 (n : Int))) (.inl rfl) (by kernel_rfl) (by kernel_rfl) (by kernel_rfl)))
    <| allOk_cons (ok_none rfl (l_call 42 _ _ rfl (enters_of Try.func42 (by kernel_rfl) rfl) #[.int .u64 (n : Int)] (.res (num n)) (args1 (hs 73 (.int .u64 (n : Int)) (by kernel_rfl) (by kernel_rfl))) (fun w hg => Reg.gives_res (refNumber_gives n hN.out w)) (by kernel_rfl)))
    <| allOk_cons (ok_none rfl (l_conv 74 (num n) rfl (by kernel_rfl) (by kernel_rfl) (by kernel_rfl)))
    <| allOk_cons (ok_none rfl (l_eqs (.tmp 72) (.tmp 75) _ _ ((str (num n))) rfl Try.underlying9 (hs 72 (.string (str (num n))) (by kernel_rfl) (by kernel_rfl)) (hs 75 (.string (str (num n))) (by kernel_rfl) (by kernel_rfl)) (by kernel_rfl)))
    <| allOk_cons (ok_none rfl (l_mvF 76 (.val (.bool true)) (.inl rfl) (by kernel_rfl) (by kernel_rfl) (by kernel_rfl)))
    <| allOk_cons (okg 6 true 77 rfl (by kernel_rfl) (by kernel_rfl) (by kernel_rfl) (l_mvF 6 (.val (.int .u64 (n : Int))) (.inl rfl) (by kernel_rfl) (by kernel_rfl) (by kernel_rfl)))
    <| allOk_cons (okg 6 true 77 rfl (by kernel_rfl) (by kernel_rfl) (by kernel_rfl) (l_mvF 0 (.val (.int .u64 (n : Int))) (.inl rfl) (by kernel_rfl) (by kernel_rfl) (by kernel_rfl)))
    <| allOk_cons (okg 6 true 77 rfl (by kernel_rfl) (by kernel_rfl) (by kernel_rfl) (l_eqi (.tmp 78) (.tmp 79) _ _ .u64 ((n : Int)) rfl Try.underlying41 (hs 78 (.int .u64 (n : Int)) (by kernel_rfl) (by kernel_rfl)) (hs 79 (.int .u64 (n : Int)) (by kernel_rfl) (by kernel_rfl)) (by kernel_rfl)))
    <| allOk_cons (ok_none rfl (l_pick (.tmp 77) (.tmp 80) (.bool true) rfl (hs 77 (.bool true) (by kernel_rfl) (by kernel_rfl)) (hs 80 (.bool true) (by kernel_rfl) (by kernel_rfl)) (by kernel_rfl)))
    <| allOk_cons (ok_none rfl (l_mvF 81 (.val (.bool true)) (.inl rfl) (by kernel_rfl) (by kernel_rfl) (by kernel_rfl)))
    <| allOk_cons (okg 11 true 82 rfl (by kernel_rfl) (by kernel_rfl) (by kernel_rfl) (l_mvF 7 (.val (.int .i64 ((num n).length : Int))) (.inl rfl) (by kernel_rfl) (by kernel_rfl) (by kernel_rfl)))
    <| allOk_cons (okg 11 true 82 rfl (by kernel_rfl) (by kernel_rfl) (by kernel_rfl) (l_mvF 5 (.val (.slice A1 (num n).length c1)) (.inl rfl) (by kernel_rfl) (by kernel_rfl) (by kernel_rfl)))
    <| allOk_cons (okg 11 true 82 rfl (by kernel_rfl) (by kernel_rfl) (by kernel_rfl) (l_len 84 _ _ _ _ (by kernel_rfl) rfl ((hs 84 (.slice A1 (num n).length c1) (by kernel_rfl) (by kernel_rfl))) (by kernel_rfl)))
    <| allOk_cons (okg 11 true 82 rfl (by kernel_rfl) (by kernel_rfl) (by kernel_rfl) (l_eqi (.tmp 83) (.tmp 85) _ _ .i64 (((num n).length : Int)) rfl Try.underlying3 (hs 83 (.int .i64 ((num n).length : Int)) (by kernel_rfl) (by kernel_rfl)) (hs 85 (.int .i64 ((num n).length : Int)) (by kernel_rfl) (by kernel_rfl)) (by kernel_rfl)))
    <| allOk_cons (ok_none rfl (l_pick (.tmp 82) (.tmp 86) (.bool true) rfl (hs 82 (.bool true) (by kernel_rfl) (by kernel_rfl)) (hs 86 (.bool true) (by kernel_rfl) (by kernel_rfl)) (by kernel_rfl)))
    <| allOk_cons (ok_none rfl (l_mvF 87 (.val (.bool true)) (.inl rfl) (by kernel_rfl) (by kernel_rfl) (by kernel_rfl)))
    <| allOk_cons (okg 17 true 88 rfl (by kernel_rfl) (by kernel_rfl) (by kernel_rfl) (l_mvF 8 (.val (.int .i64 0)) (.inl rfl) (by kernel_rfl) (by kernel_rfl) (by kernel_rfl)))
    <| allOk_cons (okg 17 true 88 rfl (by kernel_rfl) (by kernel_rfl) (by kernel_rfl) (l_call 36 _ _ rfl (enters_of Try.func36 (by kernel_rfl) rfl) #[.int .i64 0] (.val (.int .i64 0)) (args1 (hs 89 (.int .i64 0) (by kernel_rfl) (by kernel_rfl))) (fun w hg => Reg.gives_num _ w) (by kernel_rfl)))
    <| allOk_cons (okg 17 true 88 rfl (by kernel_rfl) (by kernel_rfl) (by kernel_rfl) (l_eqi (.tmp 90) (.const (Go.Value.int Go.IntKind.i64 0)) _ _ .i64 (0) rfl Try.underlying3 (hs 90 (.int .i64 0) (by kernel_rfl) (by kernel_rfl)) (hc _) (by kernel_rfl)))
    <| allOk_cons (ok_none rfl (l_pick (.tmp 88) (.tmp 91) (.bool true) rfl (hs 88 (.bool true) (by kernel_rfl) (by kernel_rfl)) (hs 91 (.bool true) (by kernel_rfl) (by kernel_rfl)) (by kernel_rfl)))
    <| allOk_cons (ok_none rfl (l_mvF 92 (.val (.bool true)) (.inl rfl) (by kernel_rfl) (by kernel_rfl) (by kernel_rfl)))
    <| allOk_cons (okg 22 true 93 rfl (by kernel_rfl) (by kernel_rfl) (by kernel_rfl) (l_mvF 9 (.val (.int .u64 x)) (.inl rfl) (by kernel_rfl) (by kernel_rfl) (by kernel_rfl)))
    <| allOk_cons (okg 22 true 93 rfl (by kernel_rfl) (by kernel_rfl) (by kernel_rfl) (l_mvF 12 (.val (.int .u64 x)) (.inl rfl) (by kernel_rfl) (by kernel_rfl) (by kernel_rfl)))
    <| allOk_cons (okg 22 true 93 rfl (by kernel_rfl) (by kernel_rfl) (by kernel_rfl) (l_eqi (.tmp 94) (.tmp 95) _ _ .u64 (x) rfl Try.underlying41 (hs 94 (.int .u64 x) (by kernel_rfl) (by kernel_rfl)) (hs 95 (.int .u64 x) (by kernel_rfl) (by kernel_rfl)) (by kernel_rfl)))
    <| allOk_cons (ok_none rfl (l_pick (.tmp 93) (.tmp 96) (.bool true) rfl (hs 93 (.bool true) (by kernel_rfl) (by kernel_rfl)) (hs 96 (.bool true) (by kernel_rfl) (by kernel_rfl)) (by kernel_rfl)))
    <| allOk_cons (ok_none rfl (l_mvF 97 (.val (.bool true)) (.inl rfl) (by kernel_rfl) (by kernel_rfl) (by kernel_rfl)))
    <| allOk_cons (okg 27 true 98 rfl (by kernel_rfl) (by kernel_rfl) (by kernel_rfl) (l_mvF 10 (.val (.int .i64 y)) (.inl rfl) (by kernel_rfl) (by kernel_rfl) (by kernel_rfl)))
    <| allOk_cons (okg 27 true 98 rfl (by kernel_rfl) (by kernel_rfl) (by kernel_rfl) (l_mvF 13 (.val (.int .i64 y)) (.inl rfl) (by kernel_rfl) (by kernel_rfl) (by kernel_rfl)))
    <| allOk_cons (okg 27 true 98 rfl (by kernel_rfl) (by kernel_rfl) (by kernel_rfl) (l_eqi (.tmp 99) (.tmp 100) _ _ .i64 (y) rfl Try.underlying3 (hs 99 (.int .i64 y) (by kernel_rfl) (by kernel_rfl)) (hs 100 (.int .i64 y) (by kernel_rfl) (by kernel_rfl)) (by kernel_rfl)))
    <| allOk_cons (ok_none rfl (l_pick (.tmp 98) (.tmp 101) (.bool true) rfl (hs 98 (.bool true) (by kernel_rfl) (by kernel_rfl)) (hs 101 (.bool true) (by kernel_rfl) (by kernel_rfl)) (by kernel_rfl)))
    <| allOk_cons (ok_none rfl (l_mvF 102 (.val (.bool true)) (.inl rfl) (by kernel_rfl) (by kernel_rfl) (by kernel_rfl)))
    <| allOk_cons (okg 32 true 103 rfl (by kernel_rfl) (by kernel_rfl) (by kernel_rfl) (l_mvF 11 (.val (.int .i64 ex)) (.inl rfl) (by kernel_rfl) (by kernel_rfl) (by kernel_rfl)))
    <| allOk_cons (okg 32 true 103 rfl (by kernel_rfl) (by kernel_rfl) (by kernel_rfl) (l_call 36 _ _ rfl (enters_of Try.func36 (by kernel_rfl) rfl) #[.int .i64 ex] (.val (.int .i64 ex)) (args1 (hs 104 (.int .i64 ex) (by kernel_rfl) (by kernel_rfl))) (fun w hg => Reg.gives_num _ w) (by kernel_rfl)))
    <| allOk_cons (okg 32 true 103 rfl (by kernel_rfl) (by kernel_rfl) (by kernel_rfl) (l_mvF 14 (.val (.int .i64 ex)) (.inl rfl) (by kernel_rfl) (by kernel_rfl) (by kernel_rfl)))
    <| allOk_cons (okg 32 true 103 rfl (by kernel_rfl) (by kernel_rfl) (by kernel_rfl) (l_eqi (.tmp 105) (.tmp 106) _ _ .i64 (ex) rfl Try.underlying3 (hs 105 (.int .i64 ex) (by kernel_rfl) (by kernel_rfl)) (hs 106 (.int .i64 ex) (by kernel_rfl) (by kernel_rfl)) (by kernel_rfl)))
    <| allOk_cons (ok_none rfl (l_pick (.tmp 103) (.tmp 107) (.bool true) rfl (hs 103 (.bool true) (by kernel_rfl) (by kernel_rfl)) (hs 107 (.bool true) (by kernel_rfl) (by kernel_rfl)) (by kernel_rfl)))
    <| allOk_cons (ok_none rfl (l_mvF 108 (.val (.bool true)) (.inl rfl) (by kernel_rfl) (by kernel_rfl) (by kernel_rfl)))
    <| allOk_cons (okg 38 true 109 rfl (by kernel_rfl) (by kernel_rfl) (by kernel_rfl) (l_mvF 15 (.val (.int .u32 (r4 : Int))) (.inl rfl) (by kernel_rfl) (by kernel_rfl) (by kernel_rfl)))
    <| allOk_cons (okg 38 true 109 rfl (by kernel_rfl) (by kernel_rfl) (by kernel_rfl) (l_convS (.tmp 110) _ _ (.int .u32 (r4 : Int)) (.int .u64 (r4 : Int)) rfl (hs 110 (.int .u32 (r4 : Int)) (by kernel_rfl) (by kernel_rfl)) (fun w hg => Reg.conv_45_41 r4 hr4 w) (by kernel_rfl)))
    <| allOk_cons (okg 38 true 109 rfl (by kernel_rfl) (by kernel_rfl) (by kernel_rfl) (l_mvF 19 (.val (.int .u64 (r4 : Int))) (.inl rfl) (by kernel_rfl) (by kernel_rfl) (by kernel_rfl)))
    <| allOk_cons (okg 38 true 109 rfl (by kernel_rfl) (by kernel_rfl) (by kernel_rfl) (l_eqi (.tmp 111) (.tmp 112) _ _ .u64 ((r4 : Int)) rfl Try.underlying41 (hs 111 (.int .u64 (r4 : Int)) (by kernel_rfl) (by kernel_rfl)) (hs 112 (.int .u64 (r4 : Int)) (by kernel_rfl) (by kernel_rfl)) (by kernel_rfl)))
    <| allOk_cons (ok_none rfl (l_pick (.tmp 109) (.tmp 113) (.bool true) rfl (hs 109 (.bool true) (by kernel_rfl) (by kernel_rfl)) (hs 113 (.bool true) (by kernel_rfl) (by kernel_rfl)) (by kernel_rfl)))
    <| allOk_cons (ok_none rfl (l_mvF 114 (.val (.bool true)) (.inl rfl) (by kernel_rfl) (by kernel_rfl) (by kernel_rfl)))
    <| allOk_cons (okg 44 true 115 rfl (by kernel_rfl) (by kernel_rfl) (by kernel_rfl) (l_mvF 16 (.val (.int .i64 e4)) (.inl rfl) (by kernel_rfl) (by kernel_rfl) (by kernel_rfl)))
    <| allOk_cons (okg 44 true 115 rfl (by kernel_rfl) (by kernel_rfl) (by kernel_rfl) (l_call 36 _ _ rfl (enters_of Try.func36 (by kernel_rfl) rfl) #[.int .i64 e4] (.val (.int .i64 e4)) (args1 (hs 116 (.int .i64 e4) (by kernel_rfl) (by kernel_rfl))) (fun w hg => Reg.gives_num _ w) (by kernel_rfl)))
    <| allOk_cons (okg 44 true 115 rfl (by kernel_rfl) (by kernel_rfl) (by kernel_rfl) (l_mvF 20 (.val (.int .i64 e4)) (.inl rfl) (by kernel_rfl) (by kernel_rfl) (by kernel_rfl)))
    <| allOk_cons (okg 44 true 115 rfl (by kernel_rfl) (by kernel_rfl) (by kernel_rfl) (l_eqi (.tmp 117) (.tmp 118) _ _ .i64 (e4) rfl Try.underlying3 (hs 117 (.int .i64 e4) (by kernel_rfl) (by kernel_rfl)) (hs 118 (.int .i64 e4) (by kernel_rfl) (by kernel_rfl)) (by kernel_rfl)))
    <| allOk_cons (ok_none rfl (l_pick (.tmp 115) (.tmp 119) (.bool true) rfl (hs 115 (.bool true) (by kernel_rfl) (by kernel_rfl)) (hs 119 (.bool true) (by kernel_rfl) (by kernel_rfl)) (by kernel_rfl)))
    <| allOk_cons (ok_none rfl (l_mvF 120 (.val (.bool true)) (.inl rfl) (by kernel_rfl) (by kernel_rfl) (by kernel_rfl)))
    <| allOk_cons (okg 50 true 121 rfl (by kernel_rfl) (by kernel_rfl) (by kernel_rfl) (l_mvF 17 (.val (.int .u64 r8)) (.inl rfl) (by kernel_rfl) (by kernel_rfl) (by kernel_rfl)))
    <| allOk_cons (okg 50 true 121 rfl (by kernel_rfl) (by kernel_rfl) (by kernel_rfl) (l_mvF 21 (.val (.int .u64 r8)) (.inl rfl) (by kernel_rfl) (by kernel_rfl) (by kernel_rfl)))
    <| allOk_cons (okg 50 true 121 rfl (by kernel_rfl) (by kernel_rfl) (by kernel_rfl) (l_eqi (.tmp 122) (.tmp 123) _ _ .u64 (r8) rfl Try.underlying41 (hs 122 (.int .u64 r8) (by kernel_rfl) (by kernel_rfl)) (hs 123 (.int .u64 r8) (by kernel_rfl) (by kernel_rfl)) (by kernel_rfl)))
    <| allOk_cons (ok_none rfl (l_pick (.tmp 121) (.tmp 124) (.bool true) rfl (hs 121 (.bool true) (by kernel_rfl) (by kernel_rfl)) (hs 124 (.bool true) (by kernel_rfl) (by kernel_rfl)) (by kernel_rfl)))
    <| allOk_cons (ok_none rfl (l_mvF 125 (.val (.bool true)) (.inl rfl) (by kernel_rfl) (by kernel_rfl) (by kernel_rfl)))
    <| allOk_cons (okg 55 true 126 rfl (by kernel_rfl) (by kernel_rfl) (by kernel_rfl) (l_mvF 18 (.val (.int .i64 e8)) (.inl rfl) (by kernel_rfl) (by kernel_rfl) (by kernel_rfl)))
    <| allOk_cons (okg 55 true 126 rfl (by kernel_rfl) (by kernel_rfl) (by kernel_rfl) (l_call 36 _ _ rfl (enters_of Try.func36 (by kernel_rfl) rfl) #[.int .i64 e8] (.val (.int .i64 e8)) (args1 (hs 127 (.int .i64 e8) (by kernel_rfl) (by kernel_rfl))) (fun w hg => Reg.gives_num _ w) (by kernel_rfl)))
    <| allOk_cons (okg 55 true 126 rfl (by kernel_rfl) (by kernel_rfl) (by kernel_rfl) (l_mvF 22 (.val (.int .i64 e8)) (.inl rfl) (by kernel_rfl) (by kernel_rfl) (by kernel_rfl)))
    <| allOk_cons (okg 55 true 126 rfl (by kernel_rfl) (by kernel_rfl) (by kernel_rfl) (l_eqi (.tmp 128) (.tmp 129) _ _ .i64 (e8) rfl Try.underlying3 (hs 128 (.int .i64 e8) (by kernel_rfl) (by kernel_rfl)) (hs 129 (.int .i64 e8) (by kernel_rfl) (by kernel_rfl)) (by kernel_rfl)))
    <| allOk_cons (ok_none rfl (l_pick (.tmp 126) (.tmp 130) (.bool true) rfl (hs 126 (.bool true) (by kernel_rfl) (by kernel_rfl)) (hs 130 (.bool true) (by kernel_rfl) (by kernel_rfl)) (by kernel_rfl)))
    <| allOk_cons (ok_none rfl (l_mvF 131 (.val (.bool true)) (.inl rfl) (by kernel_rfl) (by kernel_rfl) (by kernel_rfl)))
    <| allOk_cons (okg 61 true 132 rfl (by kernel_rfl) (by kernel_rfl) (by kernel_rfl) (l_mvF 0 (.val (.int .u64 (n : Int))) (.inl rfl) (by kernel_rfl) (by kernel_rfl) (by kernel_rfl)))
    <| allOk_cons (okg 61 true 132 rfl (by kernel_rfl) (by kernel_rfl) (by kernel_rfl) (l_convS (.tmp 133) _ _ (.int .u64 (n : Int)) (.int .u32 ((n % 4294967296 : Nat) : Int)) rfl (hs 133 (.int .u64 (n : Int)) (by kernel_rfl) (by kernel_rfl)) (fun w hg => Reg.conv_41_45 n w) (by kernel_rfl)))
    <| allOk_cons (okg 61 true 132 rfl (by kernel_rfl) (by kernel_rfl) (by kernel_rfl) (l_call 43 _ _ rfl (enters_of Try.func43 (by kernel_rfl) rfl) #[.int .u32 ((n % 4294967296 : Nat) : Int)] (.res (fixL 4 (n % 4294967296))) (args1 (hs 134 (.int .u32 ((n % 4294967296 : Nat) : Int)) (by kernel_rfl) (by kernel_rfl))) (fun w hg => Reg.gives_res (four_gives (n % 4294967296) w)) (by kernel_rfl)))
    <| allOk_cons (okg 61 true 132 rfl (by kernel_rfl) (by kernel_rfl) (by kernel_rfl) (l_conv 135 (fixL 4 (n % 4294967296)) rfl (by kernel_rfl) (by kernel_rfl) (by kernel_rfl)))
    <| allOk_cons (okg 61 true 132 rfl (by kernel_rfl) (by kernel_rfl) (by kernel_rfl) (l_mvF 0 (.val (.int .u64 (n : Int))) (.inl rfl) (by kernel_rfl) (by kernel_rfl) (by kernel_rfl)))
    <| allOk_cons (okg 61 true 132 rfl (by kernel_rfl) (by kernel_rfl) (by kernel_rfl) (l_convS (.tmp 137) _ _ (.int .u64 (n : Int)) (.int .u32 ((n % 4294967296 : Nat) : Int)) rfl (hs 137 (.int .u64 (n : Int)) (by kernel_rfl) (by kernel_rfl)) (fun w hg => Reg.conv_41_45 n w) (by kernel_rfl)))
    <| allOk_cons (okg 61 true 132 rfl (by kernel_rfl) (by kernel_rfl) (by kernel_rfl) (l_convS (.tmp 138) _ _ (.int .u32 ((n % 4294967296 : Nat) : Int)) (.int .u64 ((n % 4294967296 : Nat) : Int)) rfl (hs 138 (.int .u32 ((n % 4294967296 : Nat) : Int)) (by kernel_rfl) (by kernel_rfl)) (fun w hg => Reg.conv_45_41 _ (Nat.mod_lt _ (by decide)) w) (by kernel_rfl)))
    <| allOk_cons (okg 61 true 132 rfl (by kernel_rfl) (by kernel_rfl) (by kernel_rfl) (l_call 44 _ _ rfl (enters_of Try.func44 (by kernel_rfl) rfl) #[.int .u64 ((n % 4294967296 : Nat) : Int), (Go.Value.int Go.IntKind.i64 4)] (.res (fixL 4 (n % 4294967296))) (args2 (hs 139 (.int .u64 ((n % 4294967296 : Nat) : Int)) (by kernel_rfl) (by kernel_rfl)) (hc _)) (fun w hg => Reg.gives_res (refFixed_gives 4 (n % 4294967296) (by omega) (Nat.lt_of_le_of_lt (Nat.mod_le _ _) hN.out) w)) (by kernel_rfl)))
    <| allOk_cons (okg 61 true 132 rfl (by kernel_rfl) (by kernel_rfl) (by kernel_rfl) (l_conv 140 (fixL 4 (n % 4294967296)) rfl (by kernel_rfl) (by kernel_rfl) (by kernel_rfl)))
    <| allOk_cons (okg 61 true 132 rfl (by kernel_rfl) (by kernel_rfl) (by kernel_rfl) (l_eqs (.tmp 136) (.tmp 141) _ _ ((str (fixL 4 (n % 4294967296)))) rfl Try.underlying9 (hs 136 (.string (str (fixL 4 (n % 4294967296)))) (by kernel_rfl) (by kernel_rfl)) (hs 141 (.string (str (fixL 4 (n % 4294967296)))) (by kernel_rfl) (by kernel_rfl)) (by kernel_rfl)))
    <| allOk_cons (ok_none rfl (l_pick (.tmp 132) (.tmp 142) (.bool true) rfl (hs 132 (.bool true) (by kernel_rfl) (by kernel_rfl)) (hs 142 (.bool true) (by kernel_rfl) (by kernel_rfl)) (by kernel_rfl)))
    <| allOk_cons (ok_none rfl (l_mvF 143 (.val (.bool true)) (.inl rfl) (by kernel_rfl) (by kernel_rfl) (by kernel_rfl)))
    <| allOk_cons (okg 73 true 144 rfl (by kernel_rfl) (by kernel_rfl) (by kernel_rfl) (l_mvF 0 (.val (.int .u64 (n : Int))) (.inl rfl) (by kernel_rfl) (by kernel_rfl) (by kernel_rfl)))
    <| allOk_cons (okg 73 true 144 rfl (by kernel_rfl) (by kernel_rfl) (by kernel_rfl) (l_call 45 _ _ rfl (enters_of Try.func45 (by kernel_rfl) rfl) #[.int .u64 (n : Int)] (.res (fixL 8 n)) (args1 (hs 145 (.int .u64 (n : Int)) (by kernel_rfl) (by kernel_rfl))) (fun w hg => Reg.gives_res (eight_gives n w)) (by kernel_rfl)))
    <| allOk_cons (okg 73 true 144 rfl (by kernel_rfl) (by kernel_rfl) (by kernel_rfl) (l_conv 146 (fixL 8 n) rfl (by kernel_rfl) (by kernel_rfl) (by kernel_rfl)))
    <| allOk_cons (okg 73 true 144 rfl (by kernel_rfl) (by kernel_rfl) (by kernel_rfl) (l_mvF 0 (.val (.int .u64 (n : Int))) (.inl rfl) (by kernel_rfl) (by kernel_rfl) (by kernel_rfl)))
    <| allOk_cons (okg 73 true 144 rfl (by kernel_rfl) (by kernel_rfl) (by kernel_rfl) (l_call 44 _ _ rfl (enters_of Try.func44 (by kernel_rfl) rfl) #[.int .u64 (n : Int), (Go.Value.int Go.IntKind.i64 8)] (.res (fixL 8 n)) (args2 (hs 148 (.int .u64 (n : Int)) (by kernel_rfl) (by kernel_rfl)) (hc _)) (fun w hg => Reg.gives_res (refFixed_gives 8 n (by omega) hN.out w)) (by kernel_rfl)))
    <| allOk_cons (okg 73 true 144 rfl (by kernel_rfl) (by kernel_rfl) (by kernel_rfl) (l_conv 149 (fixL 8 n) rfl (by kernel_rfl) (by kernel_rfl) (by kernel_rfl)))
    <| allOk_cons (okg 73 true 144 rfl (by kernel_rfl) (by kernel_rfl) (by kernel_rfl) (l_eqs (.tmp 147) (.tmp 150) _ _ ((str (fixL 8 n))) rfl Try.underlying9 (hs 147 (.string (str (fixL 8 n))) (by kernel_rfl) (by kernel_rfl)) (hs 150 (.string (str (fixL 8 n))) (by kernel_rfl) (by kernel_rfl)) (by kernel_rfl)))
    <| allOk_cons (ok_none rfl (l_pick (.tmp 144) (.tmp 151) (.bool true) rfl (hs 144 (.bool true) (by kernel_rfl) (by kernel_rfl)) (hs 151 (.bool true) (by kernel_rfl) (by kernel_rfl)) (by kernel_rfl)))
    <| allOk_cons (ok_none rfl (l_mvF 152 (.val (.bool true)) (.inl rfl) (by kernel_rfl) (by kernel_rfl) (by kernel_rfl)))
    <| allOk_cons (okg 82 true 153 rfl (by kernel_rfl) (by kernel_rfl) (by kernel_rfl) (l_call 27 _ _ rfl (enters_of Try.func27 (by kernel_rfl) rfl) #[] (.val (.bool true)) (fun _ _ _ => by simp) (fun w hg => Reg.gives_works w) (by kernel_rfl)))
    <| allOk_cons (ok_none rfl (l_pick (.tmp 153) (.tmp 154) (.bool true) rfl (hs 153 (.bool true) (by kernel_rfl) (by kernel_rfl)) (hs 154 (.bool true) (by kernel_rfl) (by kernel_rfl)) (by kernel_rfl)))
    <| allOk_cons (ok_none rfl (l_mvF 155 (.val (.bool true)) (.inr rfl) (by kernel_rfl) (by kernel_rfl) (by kernel_rfl)))
    <| allOk_nil) ?_
  intro a w6 _ hdef hG hF
  have hr : a.eval (.tmp 4) = .bool true := hF 4
  have hB6 : Below w.heap.size w w6 := hB5.trans (hG.mono hB5.size)
  clear hF
  simp only [Exit.then]
  refine ‹∀ (a : Act) (w : World), Code.wp Try.prog Code.ret _ a w → _› a w6 ?_
  refine Reg.ends1 4 (.bool true) rfl hr hdef ?_
  exact ⟨rfl, hB6⟩
end Go.Proofs.Ytlelckdcmlpmdaa
/- loupelaw03.OctetStrings: the walk. -/
namespace Go.Proofs.Ytlelckdcmlpmdaa
open Go Go.RowKit Lou

theorem rdSV_form (l : List UInt8) : ∃ (s : ByteArray) (y e : Int), rdSV l = .tuple #[.string s, .int .i64 y, .int .i64 e] := by
  unfold rdSV
  cases rdS l with
  | none => exact ⟨_, _, _, rfl⟩
  | some p => exact ⟨_, _, _, rfl⟩
theorem rdSV_strL (ls l : List UInt8) (h : ls.length < 2 ^ 64) : rdSV (strL ls ++ l) = .tuple #[.string (str ls), .int .i64 ((strL ls).length : Int), .int .i64 0] := by
  have hr : rd (strL ls ++ l) = some (ls.length, (num ls.length).length) := by
    unfold strL
    rw [List.append_assoc]
    exact rd_num _ h _
  rw [rdSV_c hr (by simp [strL])]
  simp [strL]

/-- octet.Sum of two parts that lie in a block of two. -/
theorem sum_two (w : World) (b : Nat) (A A2 : Option Addr) (c c2 : Nat) (l l2 : List UInt8) (hin : InB w w.heap.size A c l) (hin2 : InB w w.heap.size A2 c2 l2) (hb : b < w.heap.size)
    (h0 : w.cell? ⟨b, 0, none⟩ = some (.slice A l.length c)) (h1 : w.cell? ⟨b, 1, none⟩ = some (.slice A2 l2.length c2)) :
    Calls Try.prog 29 #[.slice (some ⟨b, 0, none⟩) 2 2] w fun e W' => e = .returned (.int .u32 (sumL (l ++ l2) : Int)) ∧ Below w.heap.size w W' := by
  have H := sum_gives w (some ⟨b, 0, none⟩) 2 [⟨((A, c), l), hin⟩, ⟨((A2, c2), l2), hin2⟩] ⟨by simp, by omega, fun _ => ⟨b, 0, rfl, hb, fun j hj => by
    rcases (show j = 0 ∨ j = 1 from by simp at hj; omega) with rfl | rfl
    · exact h0
    · exact h1⟩⟩
  refine H.mono ?_
  rintro e W' ⟨rfl, hB⟩
  exact ⟨by simp [Piece.l], hB⟩

/-- A block of two slices of bytes. -/
def Two (x y : Value) (v : Value) (w : World) : Prop := ∃ b, v = .slice (some ⟨b, 0, none⟩) 2 2 ∧ b < w.heap.size ∧ w.cell? ⟨b, 0, none⟩ = some x ∧ w.cell? ⟨b, 1, none⟩ = some y
theorem two_stable (x y : Value) : ∀ v w w', Two x y v w → Grow w w' → Two x y v w' := by
  rintro v w w' ⟨b, hv, hb, h0, h1⟩ hg
  exact ⟨b, hv, Nat.lt_of_lt_of_le hb hg.size, (hg.cell (p := ⟨b, 0, none⟩) hb).trans h0, (hg.cell (p := ⟨b, 1, none⟩) hb).trans h1⟩

theorem cut_take {ρ : Operand → Value} {w : World} {o : Oper} {x y : Operand} {A : Option Addr} {c m : Nat} {l : List UInt8} (ho : o.op = .slice 30 x none (some y) none) (h1 : ρ x = .slice A l.length c) (h2 : ρ y = .int .i64 (m : Int)) (hm : m ≤ l.length) (hle : l.length ≤ c) :
    (execOp ρ o).run Try.prog w = .ok (.value (.slice A (l.take m).length c)) w := by
  have ht : Try.prog.underlying 30 = some (.slice (Try.prog.elem 30)) := by kernel_rfl
  have e1 : (l.take m).length = m := by simp; omega
  rw [e1]
  have hmc : m ≤ c := by omega
  simp [execOp, ho, h1, h2, go_sem, run_sliceAt_slice _ _ _ _ _ _ ht, Result.andThen, hmc]
theorem cut_drop {ρ : Operand → Value} {w : World} {o : Oper} {x y : Operand} {A : Option Addr} {c m : Nat} {l : List UInt8} (ho : o.op = .slice 30 x (some y) none none) (h1 : ρ x = .slice A l.length c) (h2 : ρ y = .int .i64 (m : Int)) (hm : m ≤ l.length) (hle : l.length ≤ c) :
    (execOp ρ o).run Try.prog w = .ok (.value (.slice (cutA A c m) (l.drop m).length (c - m))) w := by
  have ht : Try.prog.underlying 30 = some (.slice (Try.prog.elem 30)) := by kernel_rfl
  simp [execOp, ho, h1, h2, go_sem, run_sliceAt_slice _ _ _ _ _ _ ht, Result.andThen, hm, cutA]
theorem build_two {ρ : Operand → Value} {w : World} {o : Oper} {x y : Operand} {A A2 : Option Addr} {n n2 c c2 : Nat} (ho : o.op = .buildSlice 168 2 #[(0, x), (1, y)]) (h1 : ρ x = .slice A n c) (h2 : ρ y = .slice A2 n2 c2) :
    ∃ r w', (execOp ρ o).run Try.prog w = .ok (.value r) w' ∧ Grow w w' ∧ Two (.slice A n c) (.slice A2 n2 c2) r w' := by
  refine ⟨.slice (some ⟨w.heap.size, 0, none⟩) 2 2, w.alloc (.cells #[.slice A n c, .slice A2 n2 c2] 30), ?_, Grow.alloc _ _, w.heap.size, rfl, by simp, ?_, ?_⟩
  · simp [execOp, ho, h1, h2, go_sem, Result.andThen]
  · rw [(BlkIs.new w 30 #[.slice A n c, .slice A2 n2 c2]).cell]; rfl
  · rw [(BlkIs.new w 30 #[.slice A n c, .slice A2 n2 c2]).cell]; rfl
set_option maxRecDepth 100000 in
set_option maxHeartbeats 4000000 in
theorem lawStrings_out (ls : List UInt8) (w : World) (A : Option Addr) (c : Nat) (l : List UInt8) (k : Int) (h : InB w w.heap.size A c l) (hs : ls.length ≤ 9223372036854775807)
    (hl : 300 < ls.length ∨ (ls.length ≤ 300 ∧ 300 < l.length) ∨ (ls.length ≤ 300 ∧ l.length ≤ 300 ∧ k < 0) ∨ (ls.length ≤ 300 ∧ l.length ≤ 300 ∧ 0 ≤ k ∧ (l.length : Int) < k)) :
    Calls Try.prog 6 #[.string (str ls), .slice A l.length c, .int .i64 k] w fun e w' => e = .returned (.bool true) ∧ Below w.heap.size w w' := by
  have hle := h.le
  have hmax := h.max
  have hsz := str_size ls
  rcases hl with hl | ⟨hl, hl2⟩ | ⟨hl, hl2, hl3⟩ | ⟨hl, hl2, hl3, hl4⟩ <;>
  · go_enter Try.func6, Try.ntmps6
    go_wp2_with (go_at_call 27; refine (works3_gives _).mono ?_; rintro e w' ⟨rfl, hB⟩)
    go_ret
    exact ⟨rfl, hB⟩

set_option maxRecDepth 100000 in
set_option maxHeartbeats 4000000 in
theorem lawStrings_walk (ls : List UInt8) (w : World) (A : Option Addr) (c : Nat) (l : List UInt8) (m : Nat) (h : InB w w.heap.size A c l) (hls : ls.length ≤ 300) (hl : l.length ≤ 300) (hm : m ≤ l.length) :
    Calls Try.prog 6 #[.string (str ls), .slice A l.length c, .int .i64 m] w fun e w' => e = .returned (.bool true) ∧ Below w.heap.size w w' := by
  have hle := h.le
  have hmax := h.max
  have hsz := str_size ls
  obtain ⟨s1, y, ex, hrd⟩ := rdSV_form l
  go_enter Try.func6, Try.ntmps6
  go_wp2_with fail
  refine (string_gives ls (by omega) _).mono ?_
  rintro e w1 ⟨v, rfl, hown, hB⟩
  obtain ⟨A1, c1, rfl, hin1⟩ := hown.inB
  have hst1 := hown.toStrs
  have hin0 := h.below hB
  have e0 : OwnB (w1.alloc (.cells #[] 5)) w1.heap.size (.slice (some ⟨w1.heap.size, 0, none⟩) 0 0) [] := World.ownsRow_lit w1 #[] 0 (Nat.le_refl _) (by unfold maxLen; omega) rfl
  have hnl := num_length ls.length
  have hsl : (strL ls).length ≤ 310 := by simp [strL]; omega
  clear hnl
  have hb1 : Below w1.heap.size w1 (w1.alloc (.cells #[] 5)) := (Below.refl _ _).alloc (Nat.le_refl _) _
  go_wp2_with (first
    | (at_builtin; refine wp_appB rfl (.tmp 39) (.tmp 40) rfl w1.heap.size _ [] rfl e0 _ A1 c1 (strL ls) rfl (hin1.below hb1) (by simp; omega) (by simp) ?_; intro v2 w2 hown2 hg2; have hb2 := e0.below hb1 hg2)
    | (at_builtin; refine wp_appB rfl (.tmp 41) (.tmp 42) rfl w1.heap.size _ ([] ++ strL ls) rfl hown2 _ A c l rfl ((hin0.more hB.size).below hb2) (by simp; omega) hb2.size ?_; intro v3 w3 hown3 hg3; have hb3 := hown2.below hb2 hg3; obtain ⟨A3, c3, rfl, hin3⟩ := hown3.inB))
  have H := readString_gives w3 A3 c3 _ hin3
  rw [List.nil_append, List.length_append, rdSV_strL ls l (by omega)] at H
  have hB3 : Below w.heap.size w w3 := hB.trans (hb3.mono hB.size)
  have hst3 : ∀ W, Below w3.heap.size w3 W → (convert 30 9 (.slice A1 (strL ls).length c1)).run Try.prog W = .ok (.string (str (strL ls))) W := fun W hW => hst1 W (hb3.trans (hW.mono hb3.size))
  clear hin0 hb1 e0 hb2 hown2 hg2 hown3 hg3 hb3 hin3 hst1 hin1 hown hB
  refine H.mono ?_
  clear H
  rintro e w4 ⟨rfl, hB4⟩
  have hB4w : Below w.heap.size w w4 := hB3.trans (hB4.mono hB3.size)
  have hlv4 := (h.below hB4w).more hB4w.size
  have H2 := readString_gives w4 A c l hlv4
  rw [hrd] at H2
  go_wp2_with fail
  refine H2.mono ?_
  clear H2
  rintro e w5 ⟨rfl, hB5⟩
  have hB5w : Below w.heap.size w w5 := hB4w.trans (hB5.mono hB4w.size)
  have hlv5 := (h.below hB5w).more hB5w.size
  have H3 := refReadString_gives w5 A c l hlv5
  rw [hrd] at H3
  have hB35 : Below w3.heap.size w3 w5 := hB4.trans (hB5.mono hB4.size)
  clear hB4 hB5 hB4w hlv4
  go_wp2_with fail
  refine H3.mono ?_
  clear H3
  rintro e w' ⟨rfl, rfl⟩
  go_wp2_with fail
  have hsum : ∀ w u, Grow w5 w → Two (.slice A (l.take m).length c) (.slice (cutA A c m) (l.drop m).length (c - m)) u w → Calls Try.prog 29 #[u] w fun e w' => ∃ v, e = .returned v ∧ Grow w w' ∧ v = .int .u32 (sumL l : Int) := by
    rintro w u hg ⟨b, rfl, hb, h0, h1⟩
    have hin := (hlv5.below hg).more hg.size
    have H := sum_two w b _ _ _ _ _ _ (hin.take m c hm (by omega) (Nat.le_refl _)) (hin.drop m hm) hb h0 h1
    rw [List.take_append_drop] at H
    exact Reg.gives_grow H
  open Reg in
  refine region_facts (by kernel_rfl) (by kernel_rfl) 114 rfl (by kernel_rfl)
    [(7, .val (.slice A1 (strL ls).length c1)), (0, .val (.string (str ls))), (8, .val (.string (str ls))), (9, .val (.int .i64 ((strL ls).length : Int))), (10, .val (.int .i64 0)), (11, .val (.string s1)), (14, .val (.string s1)), (12, .val (.int .i64 y)), (15, .val (.int .i64 y)), (13, .val (.int .i64 ex)), (16, .val (.int .i64 ex)), (1, .val (.slice A l.length c)), (2, .val (.int .i64 (m : Int)))]
    [(60, .val (.slice A1 (strL ls).length c1)), (61, .val (.string (str (strL ls)))), (62, .val (.string (str ls))), (63, .res (strL ls)), (64, .val (.string (str (strL ls)))), (65, .val (.bool true)), (66, .val (.bool true)), (67, .val (.string (str ls))), (68, .val (.string (str ls))), (69, .val (.bool true)), (70, .val (.bool true)), (71, .val (.bool true)), (72, .val (.int .i64 ((strL ls).length : Int))), (73, .val (.slice A1 (strL ls).length c1)), (74, .val (.int .i64 ((strL ls).length : Int))), (75, .val (.bool true)), (76, .val (.bool true)), (77, .val (.bool true)), (78, .val (.int .i64 0)), (79, .val (.int .i64 0)), (80, .val (.bool true)), (81, .val (.bool true)), (82, .val (.bool true)), (83, .val (.string s1)), (84, .val (.string s1)), (85, .val (.bool true)), (86, .val (.bool true)), (87, .val (.bool true)), (88, .val (.int .i64 y)), (89, .val (.int .i64 y)), (90, .val (.bool true)), (91, .val (.bool true)), (92, .val (.bool true)), (93, .val (.int .i64 ex)), (94, .val (.int .i64 ex)), (95, .val (.int .i64 ex)), (96, .val (.bool true)), (97, .val (.bool true)), (98, .val (.bool true)), (99, .val (.slice A l.length c)), (100, .val (.int .i64 (m : Int))), (101, .val (.slice A (l.take m).length c)), (102, .val (.slice A l.length c)), (103, .val (.int .i64 (m : Int))), (104, .val (.slice (cutA A c m) (l.drop m).length (c - m))), (105, .pred (Two (.slice A (l.take m).length c) (.slice (cutA A c m) (l.drop m).length (c - m))) (two_stable _ _)), (106, .val (.int .u32 (sumL l : Int))), (107, .val (.slice A l.length c)), (108, .val (.int .u32 (sumL l : Int))), (109, .val (.bool true)), (110, .val (.bool true)), (111, .val (.bool true)), (112, .val (.bool true)), (113, .val (.bool true)), (6, .val (.bool true))]
    ⟨rfl, rfl, rfl, rfl, rfl, rfl, rfl, rfl, rfl, rfl, rfl, rfl, rfl, trivial⟩ (by kernel_rfl)
    (allOk_cons (ok_none rfl (l_mvF 7 (.val (.slice A1 (strL ls).length c1)) (.inl rfl) (by kernel_rfl) (by kernel_rfl) (by kernel_rfl)))
    <| allOk_cons (ok_none rfl (l_convS (.tmp 60) _ _ (.slice A1 (strL ls).length c1) (.string (str (strL ls))) rfl (hs 60 (.slice A1 (strL ls).length c1) (by kernel_rfl) (by kernel_rfl)) (fun w hg => hst3 w (hB35.trans (hg.mono hB35.size))) (by kernel_rfl)))
    <| allOk_cons (ok_none rfl (l_mvF 0 (.val (.string (str ls))) (.inl rfl) (by kernel_rfl) (by kernel_rfl) (by kernel_rfl)))
    <| allOk_cons (ok_none rfl (l_call 35 _ _ rfl (enters_of Try.func35 (by kernel_rfl) rfl) #[.string (str ls)] (.res (strL ls)) (args1 (hs 62 (.string (str ls)) (by kernel_rfl) (by kernel_rfl))) (fun w hg => Reg.gives_res (refString_gives ls (by omega) w)) (by kernel_rfl)))
    <| allOk_cons (ok_none rfl (l_conv 63 (strL ls) rfl (by kernel_rfl) (by kernel_rfl) (by kernel_rfl)))
    <| allOk_cons (ok_none rfl (l_eqs (.tmp 61) (.tmp 64) _ _ ((str (strL ls))) rfl Try.underlying9 (hs 61 (.string (str (strL ls))) (by kernel_rfl) (by kernel_rfl)) (hs 64 (.string (str (strL ls))) (by kernel_rfl) (by kernel_rfl)) (by kernel_rfl)))
    <| allOk_cons (ok_none rfl (l_mvF 65 (.val (.bool true)) (.inl rfl) (by kernel_rfl) (by kernel_rfl) (by kernel_rfl)))
    <| allOk_cons (okg 6 true 66 rfl (by kernel_rfl) (by kernel_rfl) (by kernel_rfl) (l_mvF 8 (.val (.string (str ls))) (.inl rfl) (by kernel_rfl) (by kernel_rfl) (by kernel_rfl)))
    <| allOk_cons (okg 6 true 66 rfl (by kernel_rfl) (by kernel_rfl) (by kernel_rfl) (l_mvF 0 (.val (.string (str ls))) (.inl rfl) (by kernel_rfl) (by kernel_rfl) (by kernel_rfl)))
    <| allOk_cons (okg 6 true 66 rfl (by kernel_rfl) (by kernel_rfl) (by kernel_rfl) (l_eqs (.tmp 67) (.tmp 68) _ _ ((str ls)) rfl Try.underlying9 (hs 67 (.string (str ls)) (by kernel_rfl) (by kernel_rfl)) (hs 68 (.string (str ls)) (by kernel_rfl) (by kernel_rfl)) (by kernel_rfl)))
    <| allOk_cons (ok_none rfl (l_pick (.tmp 66) (.tmp 69) (.bool true) rfl (hs 66 (.bool true) (by kernel_rfl) (by kernel_rfl)) (hs 69 (.bool true) (by kernel_rfl) (by kernel_rfl)) (by kernel_rfl)))
    <| allOk_cons (ok_none rfl (l_mvF 70 (.val (.bool true)) (.inl rfl) (by kernel_rfl) (by kernel_rfl) (by kernel_rfl)))
    <| allOk_cons (okg 11 true 71 rfl (by kernel_rfl) (by kernel_rfl) (by kernel_rfl) (l_mvF 9 (.val (.int .i64 ((strL ls).length : Int))) (.inl rfl) (by kernel_rfl) (by kernel_rfl) (by kernel_rfl)))
    <| allOk_cons (okg 11 true 71 rfl (by kernel_rfl) (by kernel_rfl) (by kernel_rfl) (l_mvF 7 (.val (.slice A1 (strL ls).length c1)) (.inl rfl) (by kernel_rfl) (by kernel_rfl) (by kernel_rfl)))
    <| allOk_cons (okg 11 true 71 rfl (by kernel_rfl) (by kernel_rfl) (by kernel_rfl) (l_len 73 _ _ _ _ (by kernel_rfl) rfl ((hs 73 (.slice A1 (strL ls).length c1) (by kernel_rfl) (by kernel_rfl))) (by kernel_rfl)))
    <| allOk_cons (okg 11 true 71 rfl (by kernel_rfl) (by kernel_rfl) (by kernel_rfl) (l_eqi (.tmp 72) (.tmp 74) _ _ .i64 (((strL ls).length : Int)) rfl Try.underlying3 (hs 72 (.int .i64 ((strL ls).length : Int)) (by kernel_rfl) (by kernel_rfl)) (hs 74 (.int .i64 ((strL ls).length : Int)) (by kernel_rfl) (by kernel_rfl)) (by kernel_rfl)))
    <| allOk_cons (ok_none rfl (l_pick (.tmp 71) (.tmp 75) (.bool true) rfl (hs 71 (.bool true) (by kernel_rfl) (by kernel_rfl)) (hs 75 (.bool true) (by kernel_rfl) (by kernel_rfl)) (by kernel_rfl)))
    <| allOk_cons (ok_none rfl (l_mvF 76 (.val (.bool true)) (.inl rfl) (by kernel_rfl) (by kernel_rfl) (by kernel_rfl)))
    <| allOk_cons (okg 17 true 77 rfl (by kernel_rfl) (by kernel_rfl) (by kernel_rfl) (l_mvF 10 (.val (.int .i64 0)) (.inl rfl) (by kernel_rfl) (by kernel_rfl) (by kernel_rfl)))
    <| allOk_cons (okg 17 true 77 rfl (by kernel_rfl) (by kernel_rfl) (by kernel_rfl) (l_call 36 _ _ rfl (enters_of Try.func36 (by kernel_rfl) rfl) #[.int .i64 0] (.val (.int .i64 0)) (args1 (hs 78 (.int .i64 0) (by kernel_rfl) (by kernel_rfl))) (fun w hg => Reg.gives_num _ w) (by kernel_rfl)))
    <| allOk_cons (okg 17 true 77 rfl (by kernel_rfl) (by kernel_rfl) (by kernel_rfl) (l_eqi (.tmp 79) (.const (Go.Value.int Go.IntKind.i64 0)) _ _ .i64 (0) rfl Try.underlying3 (hs 79 (.int .i64 0) (by kernel_rfl) (by kernel_rfl)) (hc _) (by kernel_rfl)))
    <| allOk_cons (ok_none rfl (l_pick (.tmp 77) (.tmp 80) (.bool true) rfl (hs 77 (.bool true) (by kernel_rfl) (by kernel_rfl)) (hs 80 (.bool true) (by kernel_rfl) (by kernel_rfl)) (by kernel_rfl)))
    <| allOk_cons (ok_none rfl (l_mvF 81 (.val (.bool true)) (.inl rfl) (by kernel_rfl) (by kernel_rfl) (by kernel_rfl)))
    <| allOk_cons (okg 22 true 82 rfl (by kernel_rfl) (by kernel_rfl) (by kernel_rfl) (l_mvF 11 (.val (.string s1)) (.inl rfl) (by kernel_rfl) (by kernel_rfl) (by kernel_rfl)))
    <| allOk_cons (okg 22 true 82 rfl (by kernel_rfl) (by kernel_rfl) (by kernel_rfl) (l_mvF 14 (.val (.string s1)) (.inl rfl) (by kernel_rfl) (by kernel_rfl) (by kernel_rfl)))
    <| allOk_cons (okg 22 true 82 rfl (by kernel_rfl) (by kernel_rfl) (by kernel_rfl) (l_eqs (.tmp 83) (.tmp 84) _ _ (s1) rfl Try.underlying9 (hs 83 (.string s1) (by kernel_rfl) (by kernel_rfl)) (hs 84 (.string s1) (by kernel_rfl) (by kernel_rfl)) (by kernel_rfl)))
    <| allOk_cons (ok_none rfl (l_pick (.tmp 82) (.tmp 85) (.bool true) rfl (hs 82 (.bool true) (by kernel_rfl) (by kernel_rfl)) (hs 85 (.bool true) (by kernel_rfl) (by kernel_rfl)) (by kernel_rfl)))
    <| allOk_cons (ok_none rfl (l_mvF 86 (.val (.bool true)) (.inl rfl) (by kernel_rfl) (by kernel_rfl) (by kernel_rfl)))
    <| allOk_cons (okg 27 true 87 rfl (by kernel_rfl) (by kernel_rfl) (by kernel_rfl) (l_mvF 12 (.val (.int .i64 y)) (.inl rfl) (by kernel_rfl) (by kernel_rfl) (by kernel_rfl)))
    <| allOk_cons (okg 27 true 87 rfl (by kernel_rfl) (by kernel_rfl) (by kernel_rfl) (l_mvF 15 (.val (.int .i64 y)) (.inl rfl) (by kernel_rfl) (by kernel_rfl) (by kernel_rfl)))
    <| allOk_cons (okg 27 true 87 rfl (by kernel_rfl) (by kernel_rfl) (by kernel_rfl) (l_eqi (.tmp 88) (.tmp 89) _ _ .i64 (y) rfl Try.underlying3 (hs 88 (.int .i64 y) (by kernel_rfl) (by kernel_rfl)) (hs 89 (.int .i64 y) (by kernel_rfl) (by kernel_rfl)) (by kernel_rfl)))
    <| allOk_cons (ok_none rfl (l_pick (.tmp 87) (.tmp 90) (.bool true) rfl (hs 87 (.bool true) (by kernel_rfl) (by kernel_rfl)) (hs 90 (.bool true) (by kernel_rfl) (by kernel_rfl)) (by kernel_rfl)))
    <| allOk_cons (ok_none rfl (l_mvF 91 (.val (.bool true)) (.inl rfl) (by kernel_rfl) (by kernel_rfl) (by kernel_rfl)))
    <| allOk_cons (okg 32 true 92 rfl (by kernel_rfl) (by kernel_rfl) (by kernel_rfl) (l_mvF 13 (.val (.int .i64 ex)) (.inl rfl) (by kernel_rfl) (by kernel_rfl) (by kernel_rfl)))
    <| allOk_cons (okg 32 true 92 rfl (by kernel_rfl) (by kernel_rfl) (by kernel_rfl) (l_call 36 _ _ rfl (enters_of Try.func36 (by kernel_rfl) rfl) #[.int .i64 ex] (.val (.int .i64 ex)) (args1 (hs 93 (.int .i64 ex) (by kernel_rfl) (by kernel_rfl))) (fun w hg => Reg.gives_num _ w) (by kernel_rfl)))
    <| allOk_cons (okg 32 true 92 rfl (by kernel_rfl) (by kernel_rfl) (by kernel_rfl) (l_mvF 16 (.val (.int .i64 ex)) (.inl rfl) (by kernel_rfl) (by kernel_rfl) (by kernel_rfl)))
    <| allOk_cons (okg 32 true 92 rfl (by kernel_rfl) (by kernel_rfl) (by kernel_rfl) (l_eqi (.tmp 94) (.tmp 95) _ _ .i64 (ex) rfl Try.underlying3 (hs 94 (.int .i64 ex) (by kernel_rfl) (by kernel_rfl)) (hs 95 (.int .i64 ex) (by kernel_rfl) (by kernel_rfl)) (by kernel_rfl)))
    <| allOk_cons (ok_none rfl (l_pick (.tmp 92) (.tmp 96) (.bool true) rfl (hs 92 (.bool true) (by kernel_rfl) (by kernel_rfl)) (hs 96 (.bool true) (by kernel_rfl) (by kernel_rfl)) (by kernel_rfl)))
    <| allOk_cons (ok_none rfl (l_mvF 97 (.val (.bool true)) (.inl rfl) (by kernel_rfl) (by kernel_rfl) (by kernel_rfl)))
    <| allOk_cons (okg 38 true 98 rfl (by kernel_rfl) (by kernel_rfl) (by kernel_rfl) (l_mvF 1 (.val (.slice A l.length c)) (.inl rfl) (by kernel_rfl) (by kernel_rfl) (by kernel_rfl)))
    <| allOk_cons (okg 38 true 98 rfl (by kernel_rfl) (by kernel_rfl) (by kernel_rfl) (l_mvF 2 (.val (.int .i64 (m : Int))) (.inl rfl) (by kernel_rfl) (by kernel_rfl) (by kernel_rfl)))
    <| allOk_cons (okg 38 true 98 rfl (by kernel_rfl) (by kernel_rfl) (by kernel_rfl) (l_run2W (.tmp 99) (.tmp 100) (.val (.slice A (l.take m).length c)) (.slice A l.length c) (.int .i64 (m : Int)) (hs 99 _ (by kernel_rfl) (by kernel_rfl)) (hs 100 _ (by kernel_rfl) (by kernel_rfl)) (fun ρ w hg h1 h2 => ⟨_, w, cut_take rfl h1 h2 hm hle, Grow.refl _, rfl⟩) (by kernel_rfl)))
    <| allOk_cons (okg 38 true 98 rfl (by kernel_rfl) (by kernel_rfl) (by kernel_rfl) (l_mvF 1 (.val (.slice A l.length c)) (.inl rfl) (by kernel_rfl) (by kernel_rfl) (by kernel_rfl)))
    <| allOk_cons (okg 38 true 98 rfl (by kernel_rfl) (by kernel_rfl) (by kernel_rfl) (l_mvF 2 (.val (.int .i64 (m : Int))) (.inl rfl) (by kernel_rfl) (by kernel_rfl) (by kernel_rfl)))
    <| allOk_cons (okg 38 true 98 rfl (by kernel_rfl) (by kernel_rfl) (by kernel_rfl) (l_run2W (.tmp 102) (.tmp 103) (.val (.slice (cutA A c m) (l.drop m).length (c - m))) (.slice A l.length c) (.int .i64 (m : Int)) (hs 102 _ (by kernel_rfl) (by kernel_rfl)) (hs 103 _ (by kernel_rfl) (by kernel_rfl)) (fun ρ w hg h1 h2 => ⟨_, w, cut_drop rfl h1 h2 hm hle, Grow.refl _, rfl⟩) (by kernel_rfl)))
    <| allOk_cons (okg 38 true 98 rfl (by kernel_rfl) (by kernel_rfl) (by kernel_rfl) (l_run2W (.tmp 101) (.tmp 104) (.pred (Two (.slice A (l.take m).length c) (.slice (cutA A c m) (l.drop m).length (c - m))) (two_stable _ _)) (.slice A (l.take m).length c) (.slice (cutA A c m) (l.drop m).length (c - m)) (hs 101 _ (by kernel_rfl) (by kernel_rfl)) (hs 104 _ (by kernel_rfl) (by kernel_rfl)) (fun ρ w hg h1 h2 => build_two rfl h1 h2) (by kernel_rfl)))
    <| allOk_cons (okg 38 true 98 rfl (by kernel_rfl) (by kernel_rfl) (by kernel_rfl) (l_callP 29 105 (Two (.slice A (l.take m).length c) (.slice (cutA A c m) (l.drop m).length (c - m))) (two_stable _ _) _ rfl (enters_of Try.func29 (by kernel_rfl) rfl) (.val (.int .u32 (sumL l : Int))) (by kernel_rfl) (by kernel_rfl) (fun w u hg hu => hsum w u hg hu) (by kernel_rfl)))
    <| allOk_cons (okg 38 true 98 rfl (by kernel_rfl) (by kernel_rfl) (by kernel_rfl) (l_mvF 1 (.val (.slice A l.length c)) (.inl rfl) (by kernel_rfl) (by kernel_rfl) (by kernel_rfl)))
    <| allOk_cons (okg 38 true 98 rfl (by kernel_rfl) (by kernel_rfl) (by kernel_rfl) (l_call 37 _ _ rfl (enters_of Try.func37 (by kernel_rfl) rfl) #[.slice A l.length c] (.val (.int .u32 (sumL l : Int))) (args1 (hs 107 (.slice A l.length c) (by kernel_rfl) (by kernel_rfl))) (fun w hg => Reg.gives_same (refSum_gives w _ A c l ((hlv5.below hg).more hg.size))) (by kernel_rfl)))
    <| allOk_cons (okg 38 true 98 rfl (by kernel_rfl) (by kernel_rfl) (by kernel_rfl) (l_eqi (.tmp 106) (.tmp 108) _ _ .u32 ((sumL l : Int)) rfl Try.underlying45 (hs 106 (.int .u32 (sumL l : Int)) (by kernel_rfl) (by kernel_rfl)) (hs 108 (.int .u32 (sumL l : Int)) (by kernel_rfl) (by kernel_rfl)) (by kernel_rfl)))
    <| allOk_cons (ok_none rfl (l_pick (.tmp 98) (.tmp 109) (.bool true) rfl (hs 98 (.bool true) (by kernel_rfl) (by kernel_rfl)) (hs 109 (.bool true) (by kernel_rfl) (by kernel_rfl)) (by kernel_rfl)))
    <| allOk_cons (ok_none rfl (l_mvF 110 (.val (.bool true)) (.inl rfl) (by kernel_rfl) (by kernel_rfl) (by kernel_rfl)))
    <| allOk_cons (okg 51 true 111 rfl (by kernel_rfl) (by kernel_rfl) (by kernel_rfl) (l_call 27 _ _ rfl (enters_of Try.func27 (by kernel_rfl) rfl) #[] (.val (.bool true)) (fun _ _ _ => by simp) (fun w hg => Reg.gives_works w) (by kernel_rfl)))
    <| allOk_cons (ok_none rfl (l_pick (.tmp 111) (.tmp 112) (.bool true) rfl (hs 111 (.bool true) (by kernel_rfl) (by kernel_rfl)) (hs 112 (.bool true) (by kernel_rfl) (by kernel_rfl)) (by kernel_rfl)))
    <| allOk_cons (ok_none rfl (l_mvF 113 (.val (.bool true)) (.inr rfl) (by kernel_rfl) (by kernel_rfl) (by kernel_rfl)))
    <| allOk_nil) ?_
  intro a w6 _ hdef hG hF
  have hr : a.eval (.tmp 6) = .bool true := hF 6
  have hB6 : Below w.heap.size w w6 := hB5w.trans (hG.mono hB5w.size)
  clear hF
  simp only [Exit.then]
  refine ‹∀ (a : Act) (w : World), Code.wp Try.prog Code.ret _ a w → _› a w6 ?_
  refine Reg.ends1 6 (.bool true) rfl hr hdef ?_
  exact ⟨rfl, hB6⟩
end Go.Proofs.Ytlelckdcmlpmdaa
/- slices.Repeat of bytes, twice. -/
namespace Go.Proofs.Ytlelckdcmlpmdaa
open Go Go.RowKit Lou

theorem BlkIs.own' {w : World} {g base : Nat} {l : List UInt8} (h : BlkIs w g 5 (l.map b8).toArray) (hb : base ≤ g) (hm : l.length ≤ 9223372036854775807) : OwnB w base (.slice (some ⟨g, 0, none⟩) l.length l.length) l :=
  ⟨by simp, .inr ⟨g, l.length, (l.map b8).toArray, rfl, hb, h, Nat.le_refl _, by unfold maxLen; omega, by simp, by simp [List.take_of_length_le]⟩⟩
theorem cut_from {ρ : Operand → Value} {w : World} {o : Oper} {x y : Operand} {g n m : Nat} (ho : o.op = .slice 30 x (some y) none none) (h1 : ρ x = .slice (some ⟨g, 0, none⟩) n n) (h2 : ρ y = .int .i64 (m : Int)) (hm : m < n) :
    (execOp ρ o).run Try.prog w = .ok (.value (.slice (some ⟨g, m, none⟩) (n - m) (n - m))) w := by
  have ht : Try.prog.underlying 30 = some (.slice (Try.prog.elem 30)) := by kernel_rfl
  have e : ¬ n = m := by omega
  have e2 : m ≤ n := by omega
  have ea : (⟨g, 0, none⟩ : Addr).add m = ⟨g, m, none⟩ := by cases m <;> simp [Addr.add]
  simp [execOp, ho, h1, h2, go_sem, run_sliceAt_slice _ _ _ _ _ _ ht, Result.andThen, e, e2, ea]
theorem cut_to {ρ : Operand → Value} {w : World} {o : Oper} {x y : Operand} {g n m : Nat} (ho : o.op = .slice 30 x none (some y) none) (h1 : ρ x = .slice (some ⟨g, 0, none⟩) n n) (h2 : ρ y = .int .i64 (m : Int)) (hm : m < n) :
    (execOp ρ o).run Try.prog w = .ok (.value (.slice (some ⟨g, 0, none⟩) m n)) w := by
  have ht : Try.prog.underlying 30 = some (.slice (Try.prog.elem 30)) := by kernel_rfl
  have e2 : m ≤ n := by omega
  simp [execOp, ho, h1, h2, go_sem, run_sliceAt_slice _ _ _ _ _ _ ht, Result.andThen, e2]
set_option maxRecDepth 100000 in
set_option maxHeartbeats 2000000 in
theorem repeat2_gives (w : World) (A : Option Addr) (c : Nat) (l : List UInt8) (h : InB w w.heap.size A c l) (hl : 0 < l.length) (hm : l.length < 30000) :
    Calls Try.prog 181 #[.slice A l.length c, .int .i64 2] w (GivesB w (l ++ l)) := by
  have H := mul_gives l.length 2 (by omega) (by omega) w
  have e1 : IntKind.u64.wrap (l.length : Int) = (l.length : Int) := by
    show (l.length : Int) % 18446744073709551616 = _
    omega
  have e2 : IntKind.i64.wrap ((l.length * 2 : Nat) : Int) = ((l.length * 2 : Nat) : Int) := wrap_i64_fr _ (by omega) (by omega)
  obtain ⟨n, hn⟩ : ∃ n, n = l.length * 2 := ⟨_, rfl⟩
  rw [← hn] at H e2
  have hN := Lib.hid hn
  have hnb : n < 60000 := by omega
  clear hn
  go_enter Try.func181, Try.ntmps181
  go_wp2_with fail
  refine H.mono ?_
  rintro e w' ⟨rfl, rfl⟩
  go_wp2_with (first
    | (at_make; refine wp_makeB rfl (.tmp 29) (.tmp 29) rfl w.heap.size .i64 .i64 n rfl rfl (by omega) (Nat.le_refl _) ?_; intro w1 hown hg1; have hB1 : Below w.heap.size w w1 := (Below.refl _ w).grown hg1 (Nat.le_refl _) (fun k hk => by cases hk); obtain ⟨hb1, _⟩ := OwnB.blk (l := List.replicate n 0) (by rw [List.length_replicate]; exact hown))
    | (refine wp_copyB rfl (.tmp 31) (.tmp 32) rfl w.heap.size 0 (List.replicate n 0) l A c _ n n rfl rfl hb1 (h.below hB1) (by simp) ?_))
  have hmn : min l.length n = l.length := by have := hN.out; omega
  have hs1 : spliceB (List.replicate n 0) 0 n l = l ++ List.replicate l.length 0 := by
    have := hN.out
    subst this
    simp only [spliceB, List.take_zero, List.nil_append, Nat.zero_add, List.drop_replicate]
    rw [List.take_of_length_le (by omega), Nat.min_eq_left (by omega)]
    congr 2
    omega
  rw [hs1]
  have hb2 := hb1.setRow ((l ++ List.replicate l.length 0).map b8).toArray
  have hB2 := below_setRow hB1 (Nat.le_refl _) (g := w.heap.size) ((l ++ List.replicate l.length 0).map b8).toArray
  generalize w1.setRow w.heap.size ((l ++ List.replicate l.length 0).map b8).toArray = w2 at *
  rw [hmn]
  clear hB1 hb1 hown hg1 hmn hs1
  have hlt : (l.length : Int) < (n : Int) := by have := hN.out; omega
  refine wp_loop_rounds 2 ?_
  rw [rounds_succ]
  go_wp2_with fail
  have hin2 : InB w2 (w.heap.size + 1) (some ⟨w.heap.size, 0, none⟩) n l := ⟨by have := hN.out; omega, by omega, (fun e => by cases e), fun _ => ⟨_, 0, rfl, by omega, fun j hj => by
    rw [hb2.cell]
    simp [b8, List.getElem?_append_left, hj]⟩⟩
  have hfit : l.length + (n - l.length) ≤ (l ++ List.replicate l.length (0 : UInt8)).length := by have := hN.out; simp; omega
  have hln : l.length < n := by omega
  have hadd : IntKind.i64.wrap ((l.length : Int) + (l.length : Int)) = (n : Int) := by have := hN.out; rw [wrap_i64_fr _ (by omega) (by omega)]; omega
  let WI : Reg.WInv := fun listed _ W => BlkIs W w.heap.size 5 ((if listed.getD 7 false then l ++ l else l ++ List.replicate l.length 0).map b8).toArray ∧ Below w.heap.size w W
  have hkeep : ∀ i, i ≠ 7 → ∀ (listed : Array Bool) (a a' : Act) (W W' : World), WI listed a W → Grow W W' → WI (listed.setIfInBounds i true) a' W' := by
    intro i hi listed a a' W W' h hg
    have e : (listed.setIfInBounds i true).getD 7 false = listed.getD 7 false := by simp [Array.getD_eq_getD_getElem?, Array.getElem?_setIfInBounds, hi]
    refine ⟨?_, h.2.trans (hg.mono h.2.size)⟩
    rw [e]
    exact h.1.below hg h.1.lt
  have hwi0 : ∀ (m : Nat) (a : Act), WI (Array.replicate m false) a w2.drew := by
    intro m a
    have e : (Array.replicate m false).getD 7 false = false := by simp [Array.getD]
    refine ⟨?_, hB2.drew⟩
    rw [e]
    exact hb2.drew
  have hsp : spliceB (l ++ List.replicate l.length 0) l.length (n - l.length) l = l ++ l := by
    have e : n - l.length = l.length := by have := hN.out; omega
    rw [e]
    simp [spliceB]
  have hcopy : ∀ (ops : Array Oper) (a0 : Act) (L : List (Nat × Fact)) (o : Oper), o.guard = none → o.op = .call { callee := .builtin .copy, args := #[.tmp 41, .tmp 44], argTypes := #[30, 30] } → o.dst = some 45 → 7 < ops.size →
      (o.looksAt ops).contains 41 = true → (o.looksAt ops).contains 44 = true → Reg.ahead ops o 41 = true → Reg.ahead ops o 44 = true → factOf L 41 = .val (.slice (some ⟨w.heap.size, l.length, none⟩) (n - l.length) (n - l.length)) → factOf L 44 = .val (.slice (some ⟨w.heap.size, 0, none⟩) l.length n) →
      factOf L 45 = .val (.int .i64 (l.length : Int)) → Reg.allVal L = true → Reg.Op2 Try.prog ops a0 (FSof L) WI 7 o := by
    intro ops a0 L o hg ho hd hsz c1 c2 h1 h2 f1 f2 f3 hv listed a W K Q hs hl _ hwi hlook _ hK
    rw [if_pos (by simp [Region.wanted, hg])]
    left
    have g1 : (factOf L 41).holds (a.eval (.tmp 41)) W := hlook 41 c1 h1
    have g2 : (factOf L 44).holds (a.eval (.tmp 44)) W := hlook 44 c2 h2
    rw [f1] at g1
    rw [f2] at g2
    have e7 : listed.getD 7 false = false := by
      have h7 : 7 < listed.size := by omega
      simpa [Array.getD, h7] using hl
    obtain ⟨hb, hB⟩ := hwi
    rw [e7] at hb
    have hin : InB W (w.heap.size + 1) (some ⟨w.heap.size, 0, none⟩) n l := ⟨by omega, by omega, (fun e => by cases e), fun _ => ⟨_, 0, rfl, by omega, fun j hj => by
      rw [hb.cell]
      simp [b8, List.getElem?_append_left, hj]⟩⟩
    refine oper_copyB (.tmp 41) (.tmp 44) ho w.heap.size l.length (l ++ List.replicate l.length 0) l (some ⟨w.heap.size, 0, none⟩) n (w.heap.size + 1) (n - l.length) (n - l.length) g1 g2 hb hin hfit ?_
    rw [hsp, show min l.length (n - l.length) = l.length from by have := hN.out; omega]
    refine hK _ _ (fun t u h => Reg.factOf_val hv t u _ _ h) ?_ ?_
    · rw [hd]
      show (factOf L 45).holds _ _
      rw [f3]
      rfl
    · refine ⟨?_, below_setRow hB (Nat.le_refl _) _⟩
      have e8 : (listed.setIfInBounds 7 true).getD 7 false = true := by
        have h7 : 7 < listed.size := by omega
        simp [Array.getD_eq_getD_getElem?, Array.getElem?_setIfInBounds, h7]
      rw [e8]
      exact hb.setRow _
  open Reg in
  refine region2_facts (by kernel_rfl) (by kernel_rfl) 48 rfl (by kernel_rfl) [38, 39, 40, 41, 42, 43, 44, 45, 46, 8] (by kernel_rfl)
    [(7, .val (.slice (some ⟨w.heap.size, 0, none⟩) n n))]
    [(38, .val (.int .i64 (l.length : Int))), (39, .val (.slice (some ⟨w.heap.size, 0, none⟩) n n)), (40, .val (.int .i64 (l.length : Int))), (41, .val (.slice (some ⟨w.heap.size, l.length, none⟩) (n - l.length) (n - l.length))), (42, .val (.slice (some ⟨w.heap.size, 0, none⟩) n n)), (43, .val (.int .i64 (l.length : Int))), (44, .val (.slice (some ⟨w.heap.size, 0, none⟩) l.length n)), (45, .val (.int .i64 (l.length : Int))), (46, .val (.int .i64 (n : Int))), (8, .val (.int .i64 (n : Int)))]
    ⟨rfl, trivial⟩ (by kernel_rfl) (WI) (hwi0 _ { tmps := #[], defers := [] })
    (⟨op2_mv_old 8 rfl (.inl rfl) (by kernel_rfl) (fun w => fsd (f := .val (.int .i64 (l.length : Int))) (by kernel_rfl) rfl) (fun listed a v w w1 h hg => hkeep 0 (by decide) listed a a w w1 h hg),
    ⟨op2_of (FSof.stable _) (fun _ => ok_none rfl (l_mvF 7 (.val (.slice (some ⟨w.heap.size, 0, none⟩) n n)) (.inl rfl) (by kernel_rfl) (by kernel_rfl) (by kernel_rfl))) (by kernel_rfl) (fun listed a v w w1 h hg => hkeep 1 (by decide) listed a a w w1 h hg),
    ⟨op2_mv_old 8 rfl (.inl rfl) (by kernel_rfl) (fun w => fsd (f := .val (.int .i64 (l.length : Int))) (by kernel_rfl) rfl) (fun listed a v w w1 h hg => hkeep 2 (by decide) listed a a w w1 h hg),
    ⟨op2_of (FSof.stable _) (fun _ => ok_none rfl (l_run2W (.tmp 39) (.tmp 40) (.val (.slice (some ⟨w.heap.size, l.length, none⟩) (n - l.length) (n - l.length))) (.slice (some ⟨w.heap.size, 0, none⟩) n n) (.int .i64 (l.length : Int)) (hs 39 _ (by kernel_rfl) (by kernel_rfl)) (hs 40 _ (by kernel_rfl) (by kernel_rfl)) (fun ρ w hg h1 h2 => ⟨_, w, cut_from rfl h1 h2 hln, Grow.refl _, rfl⟩) (by kernel_rfl))) (by kernel_rfl) (fun listed a v w w1 h hg => hkeep 3 (by decide) listed a a w w1 h hg),
    ⟨op2_of (FSof.stable _) (fun _ => ok_none rfl (l_mvF 7 (.val (.slice (some ⟨w.heap.size, 0, none⟩) n n)) (.inl rfl) (by kernel_rfl) (by kernel_rfl) (by kernel_rfl))) (by kernel_rfl) (fun listed a v w w1 h hg => hkeep 4 (by decide) listed a a w w1 h hg),
    ⟨op2_mv_old 8 rfl (.inl rfl) (by kernel_rfl) (fun w => fsd (f := .val (.int .i64 (l.length : Int))) (by kernel_rfl) rfl) (fun listed a v w w1 h hg => hkeep 5 (by decide) listed a a w w1 h hg),
    ⟨op2_of (FSof.stable _) (fun _ => ok_none rfl (l_run2W (.tmp 42) (.tmp 43) (.val (.slice (some ⟨w.heap.size, 0, none⟩) l.length n)) (.slice (some ⟨w.heap.size, 0, none⟩) n n) (.int .i64 (l.length : Int)) (hs 42 _ (by kernel_rfl) (by kernel_rfl)) (hs 43 _ (by kernel_rfl) (by kernel_rfl)) (fun ρ w hg h1 h2 => ⟨_, w, cut_to rfl h1 h2 hln, Grow.refl _, rfl⟩) (by kernel_rfl))) (by kernel_rfl) (fun listed a v w w1 h hg => hkeep 6 (by decide) listed a a w w1 h hg),
    ⟨hcopy _ _ _ _ rfl rfl rfl (by decide) (by kernel_rfl) (by kernel_rfl) (by kernel_rfl) (by kernel_rfl) (by kernel_rfl) (by kernel_rfl) (by kernel_rfl) (by kernel_rfl),
    ⟨op2_of (FSof.stable _) (fun _ => ok_none rfl (run2 (.tmp 38) (.tmp 45) (hs 38 (.int .i64 (l.length : Int)) (by kernel_rfl) (by kernel_rfl)) (hs 45 (.int .i64 (l.length : Int)) (by kernel_rfl) (by kernel_rfl)) (fun ρ w h1 h2 => by simp [execOp, h1, h2, go_sem, hadd, Result.andThen]) (fun _ => fsd (f := .val (.int .i64 (n : Int))) (by kernel_rfl) rfl))) (by kernel_rfl) (fun listed a v w w1 h hg => hkeep 8 (by decide) listed a a w w1 h hg),
    ⟨op2_of (FSof.stable _) (fun _ => ok_none rfl (l_mvF 46 (.val (.int .i64 (n : Int))) (.inr rfl) (by kernel_rfl) (by kernel_rfl) (by kernel_rfl))) (by kernel_rfl) (fun listed a v w w1 h hg => hkeep 9 (by decide) listed a a w w1 h hg),
    trivial⟩⟩⟩⟩⟩⟩⟩⟩⟩⟩) ?_
  intro listed a w3 hall hJ hF
  have e8 : a.eval (.tmp 8) = .int .i64 (n : Int) := hF 8
  have ha := Reg.acts_eq [38, 39, 40, 41, 42, 43, 44, 45, 46, 8] hJ.size hJ.defers hJ.rest
  obtain ⟨hb3, hB3⟩ : BlkIs w3 w.heap.size 5 ((l ++ l).map b8).toArray ∧ Below w.heap.size w w3 := by
    have h7 := hall 7 (by decide)
    have hs : listed.getD 7 false = true := by
      cases h8 : listed[7]? with
      | none => 
        exfalso
        have h9 := hJ.closed 9 _ rfl (hall 9 (by decide)) ⟨7, .chain⟩ (by simp) (by decide)
        simp [Array.getD_eq_getD_getElem?, h8] at h9
      | some b => simpa [Array.getD_eq_getD_getElem?, h8] using h7
    have hw := hJ.wi
    refine ⟨?_, hw.2⟩
    have := hw.1
    rw [hs] at this
    exact this
  clear hF hJ hall
  simp only [List.foldl_cons, List.foldl_nil, e8] at ha
  clear e8
  generalize a.eval (.tmp 38) = v38 at ha
  generalize a.eval (.tmp 39) = v39 at ha
  generalize a.eval (.tmp 40) = v40 at ha
  generalize a.eval (.tmp 41) = v41 at ha
  generalize a.eval (.tmp 42) = v42 at ha
  generalize a.eval (.tmp 43) = v43 at ha
  generalize a.eval (.tmp 44) = v44 at ha
  generalize a.eval (.tmp 45) = v45 at ha
  generalize a.eval (.tmp 46) = v46 at ha
  simp only [Act.put, List.setIfInBounds_toArray, List.set_cons_succ, List.set_cons_zero] at ha
  subst ha
  simp only [Exit.inBlock, Exit.then]
  rw [rounds_succ]
  go_wp2
  go_ret
  refine ⟨_, rfl, ?_, hB3⟩
  have hlen : (l ++ l).length = n := by have := hN.out; simp; omega
  rw [← hlen]
  exact hb3.own' (Nat.le_refl _) (by rw [hlen]; omega)
end Go.Proofs.Ytlelckdcmlpmdaa
