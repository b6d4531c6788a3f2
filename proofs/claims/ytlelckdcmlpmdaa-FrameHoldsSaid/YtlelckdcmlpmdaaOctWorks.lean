/- loupelaw03.works: the chapter's rows. -/
import Derived.Test.YtlelckdcmlpmdaaOctSum
import Derived.Test.YtlelckdcmlpmdaaOctStr
import Derived.Test.YtlelckdcmlpmdaaOctFix
import Derived.Lib.SlBytesConst
namespace Go.Proofs.Ytlelckdcmlpmdaa
open Go Go.RowKit Lou

theorem num3_gives (e : Int) (w : World) : Calls Try.prog 36 #[.int .i64 e] w fun x w' => x = .returned (.int .i64 e) ∧ w = w' := by
  go_enter Try.func36, Try.ntmps36
  go_wp2
  go_ret
  exact ⟨rfl, rfl⟩

theorem num300 : num 300 = [172, 2] := by decide +kernel
theorem rd_a : rd [128, 0] = none := by decide +kernel
theorem rd_b : rd [172, 2, 7] = some (300, 2) := by decide +kernel
theorem rdV_b : rdV [172, 2, 7] = .tuple #[.int .u64 300, .int .i64 2, .int .i64 0] := rdV_some rd_b
theorem fix258 : fixL 4 258 = [0, 0, 1, 2] := by decide +kernel
theorem strab : strL [97, 98] = [2, 97, 98] := by decide +kernel
theorem sum19 : sumL [49, 50, 51, 52, 53, 54, 55, 56, 57] = 3421780262 := by decide +kernel
theorem sum0 : sumL [] = 0 := by decide +kernel

theorem OwnB.toStr {w : World} {base : Nat} {v : Value} {l : List UInt8} (h : OwnB w base v l) : (convert 30 9 v).run Try.prog w = .ok (.string (str l)) w := by
  obtain ⟨A, c, rfl, hin⟩ := h.inB
  exact hin.string

set_option maxRecDepth 100000 in
set_option maxHeartbeats 4000000 in
theorem works3_gives (w : World) : Calls Try.prog 27 #[] w fun e w' => e = .returned (.bool true) ∧ Below w.heap.size w w' := by
  have hb0 : Below w.heap.size w w := Below.refl _ _
  go_enter Try.func27, Try.ntmps27
  go_wp2_with fail
  have hb1 : Below w.heap.size w (w.alloc (.cells #[.int .u8 128, .int .u8 0] 5)) := (Below.refl _ _).alloc (Nat.le_refl _) _
  have i1 : InB (w.alloc (.cells #[.int .u8 128, .int .u8 0] 5)) (w.heap.size + 1) (some ⟨w.heap.size, 0, none⟩) 2 [128, 0] := BlkIs.inB (l := [128, 0]) (BlkIs.new w 5 #[.int .u8 128, .int .u8 0]) _ (by omega) (by simp)
  have H1 := readNumber_gives _ _ _ _ _ i1
  rw [rdV_none rd_a] at H1
  refine H1.mono ?_
  clear H1 i1
  rintro e w' ⟨rfl, rfl⟩
  generalize w.alloc (.cells #[.int .u8 128, .int .u8 0] 5) = w1 at *
  go_wp2_with fail
  have hb2 : Below w.heap.size w (w1.alloc (.cells #[.int .u8 172, .int .u8 2, .int .u8 7] 5)) := hb1.alloc hb1.size _
  have i1 : InB (w1.alloc (.cells #[.int .u8 172, .int .u8 2, .int .u8 7] 5)) (w1.heap.size + 1) (some ⟨w1.heap.size, 0, none⟩) 3 [172, 2, 7] := BlkIs.inB (l := [172, 2, 7]) (BlkIs.new w1 5 #[.int .u8 172, .int .u8 2, .int .u8 7]) _ (by omega) (by simp)
  have H1 := readNumber_gives _ _ _ _ _ i1
  rw [rdV_b] at H1
  refine H1.mono ?_
  clear H1 i1 hb1
  rintro e w' ⟨rfl, rfl⟩
  generalize w1.alloc (.cells #[.int .u8 172, .int .u8 2, .int .u8 7] 5) = w2 at *
  go_wp2_with fail
  refine (number_gives 300 (by omega) _).mono ?_
  rintro e w3 ⟨v, rfl, hown, hB⟩
  have hb3 := hb2.trans (hB.mono hb2.size)
  have hst := hown.toStr
  rw [num300] at hst
  clear hown hB hb2
  have hs1 : str [172, 2] = ⟨#[172, 2]⟩ := rfl
  go_wp2_with (go_at_call 36; refine (num3_gives _ _).mono ?_; rintro e w' ⟨rfl, rfl⟩)
  clear hst hs1
  refine (four_gives 258 _).mono ?_
  rintro e w4 ⟨v4, rfl, hown, hB⟩
  have hb4 := hb3.trans (hB.mono hb3.size)
  have hst := hown.toStr
  rw [fix258] at hst
  clear hown hB hb3
  have hs1 : str [0, 0, 1, 2] = ⟨#[0, 0, 1, 2]⟩ := rfl
  go_wp2_with fail
  clear hst hs1
  refine (string_gives [97, 98] (by simp) _).mono ?_
  rintro e w5 ⟨v5, rfl, hown, hB⟩
  have hb5 := hb4.trans (hB.mono hb4.size)
  have hst := hown.toStr
  rw [strab] at hst
  clear hown hB hb4
  have hs1 : str [2, 97, 98] = ⟨#[2, 97, 98]⟩ := rfl
  have kc := fun (w : World) (C : Array Value) (n c : Nat) => Lib.run_convert_bytes_const (P := Try.prog) w 30 5 C n c Try.underlying30 Try.underlying5
  go_wp2_with fail
  clear hst hs1 kc
  have hb6 : Below w.heap.size w (w5.alloc (.cells #[.int .u8 49, .int .u8 50, .int .u8 51, .int .u8 52, .int .u8 53, .int .u8 54, .int .u8 55, .int .u8 56, .int .u8 57] 5 (9, 10))) := hb5.alloc hb5.size _
  have i1 : InB (w5.alloc (.cells #[.int .u8 49, .int .u8 50, .int .u8 51, .int .u8 52, .int .u8 53, .int .u8 54, .int .u8 55, .int .u8 56, .int .u8 57] 5 (9, 10))) (w5.alloc (.cells #[.int .u8 49, .int .u8 50, .int .u8 51, .int .u8 52, .int .u8 53, .int .u8 54, .int .u8 55, .int .u8 56, .int .u8 57] 5 (9, 10))).heap.size (some ⟨w5.heap.size, 0, none⟩) 9 [49, 50, 51, 52, 53, 54, 55, 56, 57] :=
    inB_row (l := [49, 50, 51, 52, 53, 54, 55, 56, 57]) (heap_alloc_new w5 _) _ (by simp) (by simp)
  have H1 := sum1_gives _ _ _ _ i1
  rw [sum19, World.size_alloc] at H1
  refine H1.mono ?_
  clear H1 i1 hb5
  rintro e w7 ⟨rfl, hB⟩
  have hb7 := hb6.trans (hB.mono (by have := hb6.size; simpa using this))
  clear hb6 hB
  go_wp2_with fail
  have H1 := sum0_gives w7
  rw [sum0] at H1
  refine H1.mono ?_
  clear H1
  rintro e w8 ⟨rfl, hB⟩
  have hb8 := hb7.trans (hB.mono hb7.size)
  go_wp2_with fail
  go_ret
  exact ⟨rfl, hb8⟩
end Go.Proofs.Ytlelckdcmlpmdaa
