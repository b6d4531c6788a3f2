/- Texts that the proof of FrameCuts leans on, part 4. -/
import Derived.LoopN
import Derived.Test.YtlelckdcmlpmdaaFrameCutsB3
/- loupelaw03.OctetNumbers: the walk. -/
namespace Go.Proofs.Ytlelckdcmlpmdaa
open Go Go.RowKit Lou

theorem rdV_form (l : List UInt8) : ∃ x y e : Int, rdV l = .tuple #[.int .u64 x, .int .i64 y, .int .i64 e] := by
  unfold rdV
  cases rd l with
  | none => exact ⟨_, _, _, rfl⟩
  | some p => exact ⟨_, _, _, rfl⟩
theorem fix4_form (l : List UInt8) : ∃ (r : Nat) (e : Int), r < 4294967296 ∧ fixV32 l = .tuple #[.int .u32 r, .int .i64 e] ∧ fixV 4 l = .tuple #[.int .u64 r, .int .i64 e] := by
  by_cases h : l.length < 4
  · exact ⟨0, 130, by omega, fixV32_lt h, fixV_lt h⟩
  · refine ⟨rfix (l.take 4), 0, ?_, fixV32_ge h, fixV_ge h⟩
    have h1 := rfix_lt (l.take 4)
    have h2 : 256 ^ (l.take 4).length ≤ 256 ^ 4 := Nat.pow_le_pow_right (by omega) (by simp; omega)
    have h3 : (256 : Nat) ^ 4 = 4294967296 := by decide
    omega
theorem fix8_form (l : List UInt8) : ∃ (r : Int) (e : Int), fixV 8 l = .tuple #[.int .u64 r, .int .i64 e] := by
  by_cases h : l.length < 8
  · exact ⟨0, 130, fixV_lt h⟩
  · exact ⟨_, 0, fixV_ge h⟩

/-- Bytes of the call's own as a string, in whatever later world. -/
theorem OwnB.toStrs {w : World} {base : Nat} {v : Value} {l : List UInt8} (h : OwnB w base v l) : ∀ W, Below w.heap.size w W → (convert 30 9 v).run Try.prog W = .ok (.string (str l)) W := by
  intro W hW
  obtain ⟨A, c, rfl, hin⟩ := h.inB
  exact (hin.below hW).string

theorem Reg.gives_num (m : Int) (w : World) : Calls Try.prog 36 #[.int .i64 m] w fun e w' => ∃ v, e = .returned v ∧ Grow w w' ∧ v = .int .i64 m :=
  (num3_gives m w).mono (by rintro e w' ⟨rfl, rfl⟩; exact ⟨_, rfl, Grow.refl _, rfl⟩)
theorem Reg.gives_works (w : World) : Calls Try.prog 27 #[] w fun e w' => ∃ v, e = .returned v ∧ Grow w w' ∧ v = .bool true :=
  (works3_gives w).mono (by rintro e w' ⟨rfl, hB⟩; exact ⟨_, rfl, hB, rfl⟩)
set_option maxRecDepth 100000 in
set_option maxHeartbeats 4000000 in
theorem lawNumbers_long (n : Nat) (w : World) (A : Option Addr) (c : Nat) (l : List UInt8) (h : InB w w.heap.size A c l) (hl : 200 < l.length) :
    Calls Try.prog 7 #[.int .u64 n, .slice A l.length c] w fun e w' => e = .returned (.bool true) ∧ Below w.heap.size w w' := by
  have hle := h.le
  have hmax := h.max
  go_enter Try.func7, Try.ntmps7
  go_wp2_with (go_at_call 27; refine (works3_gives _).mono ?_; rintro e w' ⟨rfl, hB⟩)
  go_ret
  exact ⟨rfl, hB⟩

set_option maxRecDepth 100000 in
set_option maxHeartbeats 4000000 in
theorem lawNumbers_walk (n : Nat) (hn : n < 2 ^ 64) (w : World) (A : Option Addr) (c : Nat) (l : List UInt8) (h : InB w w.heap.size A c l) (hl : l.length ≤ 200) :
    Calls Try.prog 7 #[.int .u64 n, .slice A l.length c] w fun e w' => e = .returned (.bool true) ∧ Below w.heap.size w w' := by
  have hle := h.le
  have hmax := h.max
  obtain ⟨x, y, ex, hrd⟩ := rdV_form l
  obtain ⟨r4, e4, hr4, hf32, hf4⟩ := fix4_form l
  obtain ⟨r8, e8, hf8⟩ := fix8_form l
  have hN := Lib.hid hn
  clear hn
  go_enter Try.func7, Try.ntmps7
  go_wp2_with fail
  refine (number_gives n hN.out _).mono ?_
  rintro e w1 ⟨v, rfl, hown, hB⟩
  obtain ⟨A1, c1, rfl, hin1⟩ := hown.inB
  have hst1 := hown.toStrs
  have hin0 := h.below hB
  have e0 : OwnB (w1.alloc (.cells #[] 5)) w1.heap.size (.slice (some ⟨w1.heap.size, 0, none⟩) 0 0) [] := World.ownsRow_lit w1 #[] 0 (Nat.le_refl _) (by unfold maxLen; omega) rfl
  have hnl := num_length n
  have hb1 : Below w1.heap.size w1 (w1.alloc (.cells #[] 5)) := (Below.refl _ _).alloc (Nat.le_refl _) _
  go_wp2_with (first
    | (at_builtin; refine wp_appB rfl (.tmp 30) (.tmp 31) rfl w1.heap.size _ [] rfl e0 _ A1 c1 (num n) rfl (hin1.below hb1) (by simp; omega) (by simp) ?_; intro v2 w2 hown2 hg2; have hb2 := e0.below hb1 hg2)
    | (at_builtin; refine wp_appB rfl (.tmp 32) (.tmp 33) rfl w1.heap.size _ ([] ++ num n) rfl hown2 _ A c l rfl ((hin0.more hB.size).below hb2) (by simp; omega) hb2.size ?_; intro v3 w3 hown3 hg3; have hb3 := hown2.below hb2 hg3; obtain ⟨A3, c3, rfl, hin3⟩ := hown3.inB))
  have H := readNumber_gives w3 _ A3 c3 _ hin3
  rw [List.nil_append, List.length_append, rdV_some (rd_num n hN.out l)] at H
  have hB3 : Below w.heap.size w w3 := hB.trans (hb3.mono hB.size)
  have hlv := h.below hB3
  have H2 := readNumber_gives w3 _ A c l hlv
  rw [hrd] at H2
  have H3 := refReadNumber_gives w3 _ A c l hlv
  rw [hrd] at H3
  have hst3 : ∀ W, Below w3.heap.size w3 W → (convert 30 9 (.slice A1 (num n).length c1)).run Try.prog W = .ok (.string (str (num n))) W := fun W hW => hst1 W (hb3.trans (hW.mono hb3.size))
  have hB3s := hB3.size
  clear hin0 hb1 e0 hb2 hown2 hg2 hown3 hg3 hb3 hin3 hst1 hin1 hown hB h
  refine H.mono ?_
  clear H
  rintro e w' ⟨rfl, rfl⟩
  go_wp2_with fail
  refine H2.mono ?_
  clear H2
  rintro e w' ⟨rfl, rfl⟩
  go_wp2_with fail
  refine H3.mono ?_
  clear H3
  rintro e w' ⟨rfl, rfl⟩
  go_wp2_with fail
  have H := readFour_gives w3 A c l (hlv.more hB3s)
  rw [hf32] at H
  refine H.mono ?_
  clear H hf32
  rintro e w4 ⟨rfl, hB4⟩
  go_wp2_with fail
  have H := readEight_gives w4 A c l ((hlv.more hB3s).below hB4 |>.more hB4.size)
  rw [hf8] at H
  refine H.mono ?_
  clear H
  rintro e w5 ⟨rfl, hB5⟩
  have hB35 : Below w3.heap.size w3 w5 := hB4.trans (hB5.mono hB4.size)
  clear hB4 hB5
  have hlv5 := hlv.below (hB35.mono hB3s)
  have H1 := refReadFixed_gives w5 _ A c l 4 (by omega) hlv5
  rw [hf4] at H1
  have H2 := refReadFixed_gives w5 _ A c l 8 (by omega) hlv5
  rw [hf8] at H2
  clear hf4 hf8 hlv hlv5
  go_wp2_with fail
  refine H1.mono ?_
  clear H1
  rintro e w' ⟨rfl, rfl⟩
  go_wp2_with fail
  refine H2.mono ?_
  clear H2
  rintro e w' ⟨rfl, rfl⟩
  go_wp2_with fail
  have hB5 : Below w.heap.size w w5 := hB3.trans (hB35.mono hB3s)
  open Reg in
  refine region_facts (by kernel_rfl) (by kernel_rfl) 156 rfl (by kernel_rfl)
    [(5, .val (.slice A1 (num n).length c1)), (0, .val (.int .u64 (n : Int))), (6, .val (.int .u64 (n : Int))), (7, .val (.int .i64 ((num n).length : Int))), (8, .val (.int .i64 0)), (9, .val (.int .u64 x)), (12, .val (.int .u64 x)), (10, .val (.int .i64 y)), (13, .val (.int .i64 y)), (11, .val (.int .i64 ex)), (14, .val (.int .i64 ex)), (15, .val (.int .u32 (r4 : Int))), (19, .val (.int .u64 (r4 : Int))), (16, .val (.int .i64 e4)), (20, .val (.int .i64 e4)), (17, .val (.int .u64 r8)), (21, .val (.int .u64 r8)), (18, .val (.int .i64 e8)), (22, .val (.int .i64 e8))]
    [(71, .val (.slice A1 (num n).length c1)), (72, .val (.string (str (num n)))), (73, .val (.int .u64 (n : Int))), (74, .res (num n)), (75, .val (.string (str (num n)))), (76, .val (.bool true)), (77, .val (.bool true)), (78, .val (.int .u64 (n : Int))), (79, .val (.int .u64 (n : Int))), (80, .val (.bool true)), (81, .val (.bool true)), (82, .val (.bool true)), (83, .val (.int .i64 ((num n).length : Int))), (84, .val (.slice A1 (num n).length c1)), (85, .val (.int .i64 ((num n).length : Int))), (86, .val (.bool true)), (87, .val (.bool true)), (88, .val (.bool true)), (89, .val (.int .i64 0)), (90, .val (.int .i64 0)), (91, .val (.bool true)), (92, .val (.bool true)), (93, .val (.bool true)), (94, .val (.int .u64 x)), (95, .val (.int .u64 x)), (96, .val (.bool true)), (97, .val (.bool true)), (98, .val (.bool true)), (99, .val (.int .i64 y)), (100, .val (.int .i64 y)), (101, .val (.bool true)), (102, .val (.bool true)), (103, .val (.bool true)), (104, .val (.int .i64 ex)), (105, .val (.int .i64 ex)), (106, .val (.int .i64 ex)), (107, .val (.bool true)), (108, .val (.bool true)), (109, .val (.bool true)), (110, .val (.int .u32 (r4 : Int))), (111, .val (.int .u64 (r4 : Int))), (112, .val (.int .u64 (r4 : Int))), (113, .val (.bool true)), (114, .val (.bool true)), (115, .val (.bool true)), (116, .val (.int .i64 e4)), (117, .val (.int .i64 e4)), (118, .val (.int .i64 e4)), (119, .val (.bool true)), (120, .val (.bool true)), (121, .val (.bool true)), (122, .val (.int .u64 r8)), (123, .val (.int .u64 r8)), (124, .val (.bool true)), (125, .val (.bool true)), (126, .val (.bool true)), (127, .val (.int .i64 e8)), (128, .val (.int .i64 e8)), (129, .val (.int .i64 e8)), (130, .val (.bool true)), (131, .val (.bool true)), (132, .val (.bool true)), (133, .val (.int .u64 (n : Int))), (134, .val (.int .u32 ((n % 4294967296 : Nat) : Int))), (135, .res (fixL 4 (n % 4294967296))), (136, .val (.string (str (fixL 4 (n % 4294967296))))), (137, .val (.int .u64 (n : Int))), (138, .val (.int .u32 ((n % 4294967296 : Nat) : Int))), (139, .val (.int .u64 ((n % 4294967296 : Nat) : Int))), (140, .res (fixL 4 (n % 4294967296))), (141, .val (.string (str (fixL 4 (n % 4294967296))))), (142, .val (.bool true)), (143, .val (.bool true)), (144, .val (.bool true)), (145, .val (.int .u64 (n : Int))), (146, .res (fixL 8 n)), (147, .val (.string (str (fixL 8 n)))), (148, .val (.int .u64 (n : Int))), (149, .res (fixL 8 n)), (150, .val (.string (str (fixL 8 n)))), (151, .val (.bool true)), (152, .val (.bool true)), (153, .val (.bool true)), (154, .val (.bool true)), (155, .val (.bool true)), (4, .val (.bool true))]
    ⟨rfl, rfl, rfl, rfl, rfl, rfl, rfl, rfl, rfl, rfl, rfl, rfl, rfl, rfl, rfl, rfl, rfl, rfl, rfl, trivial⟩ (by kernel_rfl)
    (allOk_cons (ok_none rfl (l_mvF 5 (.val (.slice A1 (num n).length c1)) (.inl rfl) (by kernel_rfl) (by kernel_rfl) (by kernel_rfl)))
    <| allOk_cons (ok_none rfl (l_convS (.tmp 71) _ _ (.slice A1 (num n).length c1) (.string (str (num n))) rfl (hs 71 (.slice A1 (num n).length c1) (by kernel_rfl) (by kernel_rfl)) (fun w hg => hst3 w (hB35.trans (hg.mono hB35.size))) (by kernel_rfl)))
    <| allOk_cons (ok_none rfl (l_mvF 0 (.val (.int .u64 (n : Int))) (.inl rfl) (by kernel_rfl) (by kernel_rfl) (by kernel_rfl)))
    <| allOk_cons (ok_none rfl (l_call 42 _ _ rfl (enters_of Try.func42 (by kernel_rfl) rfl) #[.int .u64 (n : Int)] (.res (num n)) (args1 (hs 73 (.int .u64 (n : Int)) (by kernel_rfl) (by kernel_rfl))) (fun w hg => Reg.gives_res (refNumber_gives n hN.out w)) (by kernel_rfl)))
    <| allOk_cons (ok_none rfl (l_conv 74 (num n) rfl (by kernel_rfl) (by kernel_rfl) (by kernel_rfl)))
    <| allOk_cons (ok_none rfl (l_eqs (.tmp 72) (.tmp 75) _ _ ((str (num n))) rfl Try.underlying9 (hs 72 (.string (str (num n))) (by kernel_rfl) (by kernel_rfl)) (hs 75 (.string (str (num n))) (by kernel_rfl) (by kernel_rfl)) (by kernel_rfl)))
    <| allOk_cons (ok_none rfl (l_mvF 76 (.val (.bool true)) (.inl rfl) (by kernel_rfl) (by kernel_rfl) (by kernel_rfl)))
    <| allOk_cons (okg 6 true 77 rfl (by kernel_rfl) (by kernel_rfl) (by kernel_rfl) (l_mvF 6 (.val (.int .u64 (n : Int))) (.inl rfl) (by kernel_rfl) (by kernel_rfl) (by kernel_rfl)))
    <| allOk_cons (okg 6 true 77 rfl (by kernel_rfl) (by kernel_rfl) (by kernel_rfl) (l_mvF 0 (.val (.int .u64 (n : Int))) (.inl rfl) (by kernel_rfl) (by kernel_rfl) (by kernel_rfl)))
    <| allOk_cons (okg 6 true 77 rfl (by kernel_rfl) (by kernel_rfl) (by kernel_rfl) (l_eqi (.tmp 78) (.tmp 79) _ _ .u64 ((n : Int)) rfl Try.underlying41 (hs 78 (.int .u64 (n : Int)) (by kernel_rfl) (by kernel_rfl)) (hs 79 (.int .u64 (n : Int)) (by kernel_rfl) (by kernel_rfl)) (by kernel_rfl)))
    <| allOk_cons (ok_none rfl (l_pick (.tmp 77) (.tmp 80) (.bool true) rfl (hs 77 (.bool true) (by kernel_rfl) (by kernel_rfl)) (hs 80 (.bool true) (by kernel_rfl) (by kernel_rfl)) (by kernel_rfl)))
    <| allOk_cons (ok_none rfl (l_mvF 81 (.val (.bool true)) (.inl rfl) (by kernel_rfl) (by kernel_rfl) (by kernel_rfl)))
    <| allOk_cons (okg 11 true 82 rfl (by kernel_rfl) (by kernel_rfl) (by kernel_rfl) (l_mvF 7 (.val (.int .i64 ((num n).length : Int))) (.inl rfl) (by kernel_rfl) (by kernel_rfl) (by kernel_rfl)))
    <| allOk_cons (okg 11 true 82 rfl (by kernel_rfl) (by kernel_rfl) (by kernel_rfl) (l_mvF 5 (.val (.slice A1 (num n).length c1)) (.inl rfl) (by kernel_rfl) (by kernel_rfl) (by kernel_rfl)))
    <| allOk_cons (okg 11 true 82 rfl (by kernel_rfl) (by kernel_rfl) (by kernel_rfl) (l_len 84 _ _ _ _ (by kernel_rfl) rfl ((hs 84 (.slice A1 (num n).length c1) (by kernel_rfl) (by kernel_rfl))) (by kernel_rfl)))
    <| allOk_cons (okg 11 true 82 rfl (by kernel_rfl) (by kernel_rfl) (by kernel_rfl) (l_eqi (.tmp 83) (.tmp 85) _ _ .i64 (((num n).length : Int)) rfl Try.underlying3 (hs 83 (.int .i64 ((num n).length : Int)) (by kernel_rfl) (by kernel_rfl)) (hs 85 (.int .i64 ((num n).length : Int)) (by kernel_rfl) (by kernel_rfl)) (by kernel_rfl)))
    <| allOk_cons (ok_none rfl (l_pick (.tmp 82) (.tmp 86) (.bool true) rfl (hs 82 (.bool true) (by kernel_rfl) (by kernel_rfl)) (hs 86 (.bool true) (by kernel_rfl) (by kernel_rfl)) (by kernel_rfl)))
    <| allOk_cons (ok_none rfl (l_mvF 87 (.val (.bool true)) (.inl rfl) (by kernel_rfl) (by kernel_rfl) (by kernel_rfl)))
    <| allOk_cons (okg 17 true 88 rfl (by kernel_rfl) (by kernel_rfl) (by kernel_rfl) (l_mvF 8 (.val (.int .i64 0)) (.inl rfl) (by kernel_rfl) (by kernel_rfl) (by kernel_rfl)))
    <| allOk_cons (okg 17 true 88 rfl (by kernel_rfl) (by kernel_rfl) (by kernel_rfl) (l_call 36 _ _ rfl (enters_of Try.func36 (by kernel_rfl) rfl) #[.int .i64 0] (.val (.int .i64 0)) (args1 (hs 89 (.int .i64 0) (by kernel_rfl) (by kernel_rfl))) (fun w hg => Reg.gives_num _ w) (by kernel_rfl)))
    <| allOk_cons (okg 17 true 88 rfl (by kernel_rfl) (by kernel_rfl) (by kernel_rfl) (l_eqi (.tmp 90) (.const (Go.Value.int Go.IntKind.i64 0)) _ _ .i64 (0) rfl Try.underlying3 (hs 90 (.int .i64 0) (by kernel_rfl) (by kernel_rfl)) (hc _) (by kernel_rfl)))
    <| allOk_cons (ok_none rfl (l_pick (.tmp 88) (.tmp 91) (.bool true) rfl (hs 88 (.bool true) (by kernel_rfl) (by kernel_rfl)) (hs 91 (.bool true) (by kernel_rfl) (by kernel_rfl)) (by kernel_rfl)))
    <| allOk_cons (ok_none rfl (l_mvF 92 (.val (.bool true)) (.inl rfl) (by kernel_rfl) (by kernel_rfl) (by kernel_rfl)))
    <| allOk_cons (okg 22 true 93 rfl (by kernel_rfl) (by kernel_rfl) (by kernel_rfl) (l_mvF 9 (.val (.int .u64 x)) (.inl rfl) (by kernel_rfl) (by kernel_rfl) (by kernel_rfl)))
    <| allOk_cons (okg 22 true 93 rfl (by kernel_rfl) (by kernel_rfl) (by kernel_rfl) (l_mvF 12 (.val (.int .u64 x)) (.inl rfl) (by kernel_rfl) (by kernel_rfl) (by kernel_rfl)))
    <| allOk_cons (okg 22 true 93 rfl (by kernel_rfl) (by kernel_rfl) (by kernel_rfl) (l_eqi (.tmp 94) (.tmp 95) _ _ .u64 (x) rfl Try.underlying41 (hs 94 (.int .u64 x) (by kernel_rfl) (by kernel_rfl)) (hs 95 (.int .u64 x) (by kernel_rfl) (by kernel_rfl)) (by kernel_rfl)))
    <| allOk_cons (ok_none rfl (l_pick (.tmp 93) (.tmp 96) (.bool true) rfl (hs 93 (.bool true) (by kernel_rfl) (by kernel_rfl)) (hs 96 (.bool true) (by kernel_rfl) (by kernel_rfl)) (by kernel_rfl)))
    <| allOk_cons (ok_none rfl (l_mvF 97 (.val (.bool true)) (.inl rfl) (by kernel_rfl) (by kernel_rfl) (by kernel_rfl)))
    <| allOk_cons (okg 27 true 98 rfl (by kernel_rfl) (by kernel_rfl) (by kernel_rfl) (l_mvF 10 (.val (.int .i64 y)) (.inl rfl) (by kernel_rfl) (by kernel_rfl) (by kernel_rfl)))
    <| allOk_cons (okg 27 true 98 rfl (by kernel_rfl) (by kernel_rfl) (by kernel_rfl) (l_mvF 13 (.val (.int .i64 y)) (.inl rfl) (by kernel_rfl) (by kernel_rfl) (by kernel_rfl)))
    <| allOk_cons (okg 27 true 98 rfl (by kernel_rfl) (by kernel_rfl) (by kernel_rfl) (l_eqi (.tmp 99) (.tmp 100) _ _ .i64 (y) rfl Try.underlying3 (hs 99 (.int .i64 y) (by kernel_rfl) (by kernel_rfl)) (hs 100 (.int .i64 y) (by kernel_rfl) (by kernel_rfl)) (by kernel_rfl)))
    <| allOk_cons (ok_none rfl (l_pick (.tmp 98) (.tmp 101) (.bool true) rfl (hs 98 (.bool true) (by kernel_rfl) (by kernel_rfl)) (hs 101 (.bool true) (by kernel_rfl) (by kernel_rfl)) (by kernel_rfl)))
    <| allOk_cons (ok_none rfl (l_mvF 102 (.val (.bool true)) (.inl rfl) (by kernel_rfl) (by kernel_rfl) (by kernel_rfl)))
    <| allOk_cons (okg 32 true 103 rfl (by kernel_rfl) (by kernel_rfl) (by kernel_rfl) (l_mvF 11 (.val (.int .i64 ex)) (.inl rfl) (by kernel_rfl) (by kernel_rfl) (by kernel_rfl)))
    <| allOk_cons (okg 32 true 103 rfl (by kernel_rfl) (by kernel_rfl) (by kernel_rfl) (l_call 36 _ _ rfl (enters_of Try.func36 (by kernel_rfl) rfl) #[.int .i64 ex] (.val (.int .i64 ex)) (args1 (hs 104 (.int .i64 ex) (by kernel_rfl) (by kernel_rfl))) (fun w hg => Reg.gives_num _ w) (by kernel_rfl)))
    <| allOk_cons (okg 32 true 103 rfl (by kernel_rfl) (by kernel_rfl) (by kernel_rfl) (l_mvF 14 (.val (.int .i64 ex)) (.inl rfl) (by kernel_rfl) (by kernel_rfl) (by kernel_rfl)))
    <| allOk_cons (okg 32 true 103 rfl (by kernel_rfl) (by kernel_rfl) (by kernel_rfl) (l_eqi (.tmp 105) (.tmp 106) _ _ .i64 (ex) rfl Try.underlying3 (hs 105 (.int .i64 ex) (by kernel_rfl) (by kernel_rfl)) (hs 106 (.int .i64 ex) (by kernel_rfl) (by kernel_rfl)) (by kernel_rfl)))
    <| allOk_cons (ok_none rfl (l_pick (.tmp 103) (.tmp 107) (.bool true) rfl (hs 103 (.bool true) (by kernel_rfl) (by kernel_rfl)) (hs 107 (.bool true) (by kernel_rfl) (by kernel_rfl)) (by kernel_rfl)))
    <| allOk_cons (ok_none rfl (l_mvF 108 (.val (.bool true)) (.inl rfl) (by kernel_rfl) (by kernel_rfl) (by kernel_rfl)))
    <| allOk_cons (okg 38 true 109 rfl (by kernel_rfl) (by kernel_rfl) (by kernel_rfl) (l_mvF 15 (.val (.int .u32 (r4 : Int))) (.inl rfl) (by kernel_rfl) (by kernel_rfl) (by kernel_rfl)))
    <| allOk_cons (okg 38 true 109 rfl (by kernel_rfl) (by kernel_rfl) (by kernel_rfl) (l_convS (.tmp 110) _ _ (.int .u32 (r4 : Int)) (.int .u64 (r4 : Int)) rfl (hs 110 (.int .u32 (r4 : Int)) (by kernel_rfl) (by kernel_rfl)) (fun w hg => Reg.conv_45_41 r4 hr4 w) (by kernel_rfl)))
    <| allOk_cons (okg 38 true 109 rfl (by kernel_rfl) (by kernel_rfl) (by kernel_rfl) (l_mvF 19 (.val (.int .u64 (r4 : Int))) (.inl rfl) (by kernel_rfl) (by kernel_rfl) (by kernel_rfl)))
    <| allOk_cons (okg 38 true 109 rfl (by kernel_rfl) (by kernel_rfl) (by kernel_rfl) (l_eqi (.tmp 111) (.tmp 112) _ _ .u64 ((r4 : Int)) rfl Try.underlying41 (hs 111 (.int .u64 (r4 : Int)) (by kernel_rfl) (by kernel_rfl)) (hs 112 (.int .u64 (r4 : Int)) (by kernel_rfl) (by kernel_rfl)) (by kernel_rfl)))
    <| allOk_cons (ok_none rfl (l_pick (.tmp 109) (.tmp 113) (.bool true) rfl (hs 109 (.bool true) (by kernel_rfl) (by kernel_rfl)) (hs 113 (.bool true) (by kernel_rfl) (by kernel_rfl)) (by kernel_rfl)))
    <| allOk_cons (ok_none rfl (l_mvF 114 (.val (.bool true)) (.inl rfl) (by kernel_rfl) (by kernel_rfl) (by kernel_rfl)))
    <| allOk_cons (okg 44 true 115 rfl (by kernel_rfl) (by kernel_rfl) (by kernel_rfl) (l_mvF 16 (.val (.int .i64 e4)) (.inl rfl) (by kernel_rfl) (by kernel_rfl) (by kernel_rfl)))
    <| allOk_cons (okg 44 true 115 rfl (by kernel_rfl) (by kernel_rfl) (by kernel_rfl) (l_call 36 _ _ rfl (enters_of Try.func36 (by kernel_rfl) rfl) #[.int .i64 e4] (.val (.int .i64 e4)) (args1 (hs 116 (.int .i64 e4) (by kernel_rfl) (by kernel_rfl))) (fun w hg => Reg.gives_num _ w) (by kernel_rfl)))
    <| allOk_cons (okg 44 true 115 rfl (by kernel_rfl) (by kernel_rfl) (by kernel_rfl) (l_mvF 20 (.val (.int .i64 e4)) (.inl rfl) (by kernel_rfl) (by kernel_rfl) (by kernel_rfl)))
    <| allOk_cons (okg 44 true 115 rfl (by kernel_rfl) (by kernel_rfl) (by kernel_rfl) (l_eqi (.tmp 117) (.tmp 118) _ _ .i64 (e4) rfl Try.underlying3 (hs 117 (.int .i64 e4) (by kernel_rfl) (by kernel_rfl)) (hs 118 (.int .i64 e4) (by kernel_rfl) (by kernel_rfl)) (by kernel_rfl)))
    <| allOk_cons (ok_none rfl (l_pick (.tmp 115) (.tmp 119) (.bool true) rfl (hs 115 (.bool true) (by kernel_rfl) (by kernel_rfl)) (hs 119 (.bool true) (by kernel_rfl) (by kernel_rfl)) (by kernel_rfl)))
    <| allOk_cons (ok_none rfl (l_mvF 120 (.val (.bool true)) (.inl rfl) (by kernel_rfl) (by kernel_rfl) (by kernel_rfl)))
    <| allOk_cons (okg 50 true 121 rfl (by kernel_rfl) (by kernel_rfl) (by kernel_rfl) (l_mvF 17 (.val (.int .u64 r8)) (.inl rfl) (by kernel_rfl) (by kernel_rfl) (by kernel_rfl)))
    <| allOk_cons (okg 50 true 121 rfl (by kernel_rfl) (by kernel_rfl) (by kernel_rfl) (l_mvF 21 (.val (.int .u64 r8)) (.inl rfl) (by kernel_rfl) (by kernel_rfl) (by kernel_rfl)))
    <| allOk_cons (okg 50 true 121 rfl (by kernel_rfl) (by kernel_rfl) (by kernel_rfl) (l_eqi (.tmp 122) (.tmp 123) _ _ .u64 (r8) rfl Try.underlying41 (hs 122 (.int .u64 r8) (by kernel_rfl) (by kernel_rfl)) (hs 123 (.int .u64 r8) (by kernel_rfl) (by kernel_rfl)) (by kernel_rfl)))
    <| allOk_cons (ok_none rfl (l_pick (.tmp 121) (.tmp 124) (.bool true) rfl (hs 121 (.bool true) (by kernel_rfl) (by kernel_rfl)) (hs 124 (.bool true) (by kernel_rfl) (by kernel_rfl)) (by kernel_rfl)))
    <| allOk_cons (ok_none rfl (l_mvF 125 (.val (.bool true)) (.inl rfl) (by kernel_rfl) (by kernel_rfl) (by kernel_rfl)))
    <| allOk_cons (okg 55 true 126 rfl (by kernel_rfl) (by kernel_rfl) (by kernel_rfl) (l_mvF 18 (.val (.int .i64 e8)) (.inl rfl) (by kernel_rfl) (by kernel_rfl) (by kernel_rfl)))
    <| allOk_cons (okg 55 true 126 rfl (by kernel_rfl) (by kernel_rfl) (by kernel_rfl) (l_call 36 _ _ rfl (enters_of Try.func36 (by kernel_rfl) rfl) #[.int .i64 e8] (.val (.int .i64 e8)) (args1 (hs 127 (.int .i64 e8) (by kernel_rfl) (by kernel_rfl))) (fun w hg => Reg.gives_num _ w) (by kernel_rfl)))
    <| allOk_cons (okg 55 true 126 rfl (by kernel_rfl) (by kernel_rfl) (by kernel_rfl) (l_mvF 22 (.val (.int .i64 e8)) (.inl rfl) (by kernel_rfl) (by kernel_rfl) (by kernel_rfl)))
    <| allOk_cons (okg 55 true 126 rfl (by kernel_rfl) (by kernel_rfl) (by kernel_rfl) (l_eqi (.tmp 128) (.tmp 129) _ _ .i64 (e8) rfl Try.underlying3 (hs 128 (.int .i64 e8) (by kernel_rfl) (by kernel_rfl)) (hs 129 (.int .i64 e8) (by kernel_rfl) (by kernel_rfl)) (by kernel_rfl)))
    <| allOk_cons (ok_none rfl (l_pick (.tmp 126) (.tmp 130) (.bool true) rfl (hs 126 (.bool true) (by kernel_rfl) (by kernel_rfl)) (hs 130 (.bool true) (by kernel_rfl) (by kernel_rfl)) (by kernel_rfl)))
    <| allOk_cons (ok_none rfl (l_mvF 131 (.val (.bool true)) (.inl rfl) (by kernel_rfl) (by kernel_rfl) (by kernel_rfl)))
    <| allOk_cons (okg 61 true 132 rfl (by kernel_rfl) (by kernel_rfl) (by kernel_rfl) (l_mvF 0 (.val (.int .u64 (n : Int))) (.inl rfl) (by kernel_rfl) (by kernel_rfl) (by kernel_rfl)))
    <| allOk_cons (okg 61 true 132 rfl (by kernel_rfl) (by kernel_rfl) (by kernel_rfl) (l_convS (.tmp 133) _ _ (.int .u64 (n : Int)) (.int .u32 ((n % 4294967296 : Nat) : Int)) rfl (hs 133 (.int .u64 (n : Int)) (by kernel_rfl) (by kernel_rfl)) (fun w hg => Reg.conv_41_45 n w) (by kernel_rfl)))
    <| allOk_cons (okg 61 true 132 rfl (by kernel_rfl) (by kernel_rfl) (by kernel_rfl) (l_call 43 _ _ rfl (enters_of Try.func43 (by kernel_rfl) rfl) #[.int .u32 ((n % 4294967296 : Nat) : Int)] (.res (fixL 4 (n % 4294967296))) (args1 (hs 134 (.int .u32 ((n % 4294967296 : Nat) : Int)) (by kernel_rfl) (by kernel_rfl))) (fun w hg => Reg.gives_res (four_gives (n % 4294967296) w)) (by kernel_rfl)))
    <| allOk_cons (okg 61 true 132 rfl (by kernel_rfl) (by kernel_rfl) (by kernel_rfl) (l_conv 135 (fixL 4 (n % 4294967296)) rfl (by kernel_rfl) (by kernel_rfl) (by kernel_rfl)))
    <| allOk_cons (okg 61 true 132 rfl (by kernel_rfl) (by kernel_rfl) (by kernel_rfl) (l_mvF 0 (.val (.int .u64 (n : Int))) (.inl rfl) (by kernel_rfl) (by kernel_rfl) (by kernel_rfl)))
    <| allOk_cons (okg 61 true 132 rfl (by kernel_rfl) (by kernel_rfl) (by kernel_rfl) (l_convS (.tmp 137) _ _ (.int .u64 (n : Int)) (.int .u32 ((n % 4294967296 : Nat) : Int)) rfl (hs 137 (.int .u64 (n : Int)) (by kernel_rfl) (by kernel_rfl)) (fun w hg => Reg.conv_41_45 n w) (by kernel_rfl)))
    <| allOk_cons (okg 61 true 132 rfl (by kernel_rfl) (by kernel_rfl) (by kernel_rfl) (l_convS (.tmp 138) _ _ (.int .u32 ((n % 4294967296 : Nat) : Int)) (.int .u64 ((n % 4294967296 : Nat) : Int)) rfl (hs 138 (.int .u32 ((n % 4294967296 : Nat) : Int)) (by kernel_rfl) (by kernel_rfl)) (fun w hg => Reg.conv_45_41 _ (Nat.mod_lt _ (by decide)) w) (by kernel_rfl)))
    <| allOk_cons (okg 61 true 132 rfl (by kernel_rfl) (by kernel_rfl) (by kernel_rfl) (l_call 44 _ _ rfl (enters_of Try.func44 (by kernel_rfl) rfl) #[.int .u64 ((n % 4294967296 : Nat) : Int), (Go.Value.int Go.IntKind.i64 4)] (.res (fixL 4 (n % 4294967296))) (args2 (hs 139 (.int .u64 ((n % 4294967296 : Nat) : Int)) (by kernel_rfl) (by kernel_rfl)) (hc _)) (fun w hg => Reg.gives_res (refFixed_gives 4 (n % 4294967296) (by omega) (Nat.lt_of_le_of_lt (Nat.mod_le _ _) hN.out) w)) (by kernel_rfl)))
    <| allOk_cons (okg 61 true 132 rfl (by kernel_rfl) (by kernel_rfl) (by kernel_rfl) (l_conv 140 (fixL 4 (n % 4294967296)) rfl (by kernel_rfl) (by kernel_rfl) (by kernel_rfl)))
    <| allOk_cons (okg 61 true 132 rfl (by kernel_rfl) (by kernel_rfl) (by kernel_rfl) (l_eqs (.tmp 136) (.tmp 141) _ _ ((str (fixL 4 (n % 4294967296)))) rfl Try.underlying9 (hs 136 (.string (str (fixL 4 (n % 4294967296)))) (by kernel_rfl) (by kernel_rfl)) (hs 141 (.string (str (fixL 4 (n % 4294967296)))) (by kernel_rfl) (by kernel_rfl)) (by kernel_rfl)))
    <| allOk_cons (ok_none rfl (l_pick (.tmp 132) (.tmp 142) (.bool true) rfl (hs 132 (.bool true) (by kernel_rfl) (by kernel_rfl)) (hs 142 (.bool true) (by kernel_rfl) (by kernel_rfl)) (by kernel_rfl)))
    <| allOk_cons (ok_none rfl (l_mvF 143 (.val (.bool true)) (.inl rfl) (by kernel_rfl) (by kernel_rfl) (by kernel_rfl)))
    <| allOk_cons (okg 73 true 144 rfl (by kernel_rfl) (by kernel_rfl) (by kernel_rfl) (l_mvF 0 (.val (.int .u64 (n : Int))) (.inl rfl) (by kernel_rfl) (by kernel_rfl) (by kernel_rfl)))
    <| allOk_cons (okg 73 true 144 rfl (by kernel_rfl) (by kernel_rfl) (by kernel_rfl) (l_call 45 _ _ rfl (enters_of Try.func45 (by kernel_rfl) rfl) #[.int .u64 (n : Int)] (.res (fixL 8 n)) (args1 (hs 145 (.int .u64 (n : Int)) (by kernel_rfl) (by kernel_rfl))) (fun w hg => Reg.gives_res (eight_gives n w)) (by kernel_rfl)))
    <| allOk_cons (okg 73 true 144 rfl (by kernel_rfl) (by kernel_rfl) (by kernel_rfl) (l_conv 146 (fixL 8 n) rfl (by kernel_rfl) (by kernel_rfl) (by kernel_rfl)))
    <| allOk_cons (okg 73 true 144 rfl (by kernel_rfl) (by kernel_rfl) (by kernel_rfl) (l_mvF 0 (.val (.int .u64 (n : Int))) (.inl rfl) (by kernel_rfl) (by kernel_rfl) (by kernel_rfl)))
    <| allOk_cons (okg 73 true 144 rfl (by kernel_rfl) (by kernel_rfl) (by kernel_rfl) (l_call 44 _ _ rfl (enters_of Try.func44 (by kernel_rfl) rfl) #[.int .u64 (n : Int), (Go.Value.int Go.IntKind.i64 8)] (.res (fixL 8 n)) (args2 (hs 148 (.int .u64 (n : Int)) (by kernel_rfl) (by kernel_rfl)) (hc _)) (fun w hg => Reg.gives_res (refFixed_gives 8 n (by omega) hN.out w)) (by kernel_rfl)))
    <| allOk_cons (okg 73 true 144 rfl (by kernel_rfl) (by kernel_rfl) (by kernel_rfl) (l_conv 149 (fixL 8 n) rfl (by kernel_rfl) (by kernel_rfl) (by kernel_rfl)))
    <| allOk_cons (okg 73 true 144 rfl (by kernel_rfl) (by kernel_rfl) (by kernel_rfl) (l_eqs (.tmp 147) (.tmp 150) _ _ ((str (fixL 8 n))) rfl Try.underlying9 (hs 147 (.string (str (fixL 8 n))) (by kernel_rfl) (by kernel_rfl)) (hs 150 (.string (str (fixL 8 n))) (by kernel_rfl) (by kernel_rfl)) (by kernel_rfl)))
    <| allOk_cons (ok_none rfl (l_pick (.tmp 144) (.tmp 151) (.bool true) rfl (hs 144 (.bool true) (by kernel_rfl) (by kernel_rfl)) (hs 151 (.bool true) (by kernel_rfl) (by kernel_rfl)) (by kernel_rfl)))
    <| allOk_cons (ok_none rfl (l_mvF 152 (.val (.bool true)) (.inl rfl) (by kernel_rfl) (by kernel_rfl) (by kernel_rfl)))
    <| allOk_cons (okg 82 true 153 rfl (by kernel_rfl) (by kernel_rfl) (by kernel_rfl) (l_call 27 _ _ rfl (enters_of Try.func27 (by kernel_rfl) rfl) #[] (.val (.bool true)) (fun _ _ _ => by simp) (fun w hg => Reg.gives_works w) (by kernel_rfl)))
    <| allOk_cons (ok_none rfl (l_pick (.tmp 153) (.tmp 154) (.bool true) rfl (hs 153 (.bool true) (by kernel_rfl) (by kernel_rfl)) (hs 154 (.bool true) (by kernel_rfl) (by kernel_rfl)) (by kernel_rfl)))
    <| allOk_cons (ok_none rfl (l_mvF 155 (.val (.bool true)) (.inr rfl) (by kernel_rfl) (by kernel_rfl) (by kernel_rfl)))
    <| allOk_nil) ?_
  intro a w6 _ hdef hG hF
  have hr : a.eval (.tmp 4) = .bool true := hF 4
  have hB6 : Below w.heap.size w w6 := hB5.trans (hG.mono hB5.size)
  clear hF
  simp only [Exit.then]
  refine ‹∀ (a : Act) (w : World), Code.wp Try.prog Code.ret _ a w → _› a w6 ?_
  refine Reg.ends1 4 (.bool true) rfl hr hdef ?_
  exact ⟨rfl, hB6⟩
end Go.Proofs.Ytlelckdcmlpmdaa
/- loupelaw03.OctetStrings: the walk. -/
namespace Go.Proofs.Ytlelckdcmlpmdaa
open Go Go.RowKit Lou

theorem rdSV_form (l : List UInt8) : ∃ (s : ByteArray) (y e : Int), rdSV l = .tuple #[.string s, .int .i64 y, .int .i64 e] := by
  unfold rdSV
  cases rdS l with
  | none => exact ⟨_, _, _, rfl⟩
  | some p => exact ⟨_, _, _, rfl⟩
theorem rdSV_strL (ls l : List UInt8) (h : ls.length < 2 ^ 64) : rdSV (strL ls ++ l) = .tuple #[.string (str ls), .int .i64 ((strL ls).length : Int), .int .i64 0] := by
  have hr : rd (strL ls ++ l) = some (ls.length, (num ls.length).length) := by
    unfold strL
    rw [List.append_assoc]
    exact rd_num _ h _
  rw [rdSV_c hr (by simp [strL])]
  simp [strL]

/-- octet.Sum of two parts that lie in a block of two. -/
theorem sum_two (w : World) (b : Nat) (A A2 : Option Addr) (c c2 : Nat) (l l2 : List UInt8) (hin : InB w w.heap.size A c l) (hin2 : InB w w.heap.size A2 c2 l2) (hb : b < w.heap.size)
    (h0 : w.cell? ⟨b, 0, none⟩ = some (.slice A l.length c)) (h1 : w.cell? ⟨b, 1, none⟩ = some (.slice A2 l2.length c2)) :
    Calls Try.prog 29 #[.slice (some ⟨b, 0, none⟩) 2 2] w fun e W' => e = .returned (.int .u32 (sumL (l ++ l2) : Int)) ∧ Below w.heap.size w W' := by
  have H := sum_gives w (some ⟨b, 0, none⟩) 2 [⟨((A, c), l), hin⟩, ⟨((A2, c2), l2), hin2⟩] ⟨by simp, by omega, fun _ => ⟨b, 0, rfl, hb, fun j hj => by
    rcases (show j = 0 ∨ j = 1 from by simp at hj; omega) with rfl | rfl
    · exact h0
    · exact h1⟩⟩
  refine H.mono ?_
  rintro e W' ⟨rfl, hB⟩
  exact ⟨by simp [Piece.l], hB⟩

/-- A block of two slices of bytes. -/
def Two (x y : Value) (v : Value) (w : World) : Prop := ∃ b, v = .slice (some ⟨b, 0, none⟩) 2 2 ∧ b < w.heap.size ∧ w.cell? ⟨b, 0, none⟩ = some x ∧ w.cell? ⟨b, 1, none⟩ = some y
theorem two_stable (x y : Value) : ∀ v w w', Two x y v w → Grow w w' → Two x y v w' := by
  rintro v w w' ⟨b, hv, hb, h0, h1⟩ hg
  exact ⟨b, hv, Nat.lt_of_lt_of_le hb hg.size, (hg.cell (p := ⟨b, 0, none⟩) hb).trans h0, (hg.cell (p := ⟨b, 1, none⟩) hb).trans h1⟩

theorem cut_take {ρ : Operand → Value} {w : World} {o : Oper} {x y : Operand} {A : Option Addr} {c m : Nat} {l : List UInt8} (ho : o.op = .slice 30 x none (some y) none) (h1 : ρ x = .slice A l.length c) (h2 : ρ y = .int .i64 (m : Int)) (hm : m ≤ l.length) (hle : l.length ≤ c) :
    (execOp ρ o).run Try.prog w = .ok (.value (.slice A (l.take m).length c)) w := by
  have ht : Try.prog.underlying 30 = some (.slice (Try.prog.elem 30)) := by kernel_rfl
  have e1 : (l.take m).length = m := by simp; omega
  rw [e1]
  have hmc : m ≤ c := by omega
  simp [execOp, ho, h1, h2, go_sem, run_sliceAt_slice _ _ _ _ _ _ ht, Result.andThen, hmc]
theorem cut_drop {ρ : Operand → Value} {w : World} {o : Oper} {x y : Operand} {A : Option Addr} {c m : Nat} {l : List UInt8} (ho : o.op = .slice 30 x (some y) none none) (h1 : ρ x = .slice A l.length c) (h2 : ρ y = .int .i64 (m : Int)) (hm : m ≤ l.length) (hle : l.length ≤ c) :
    (execOp ρ o).run Try.prog w = .ok (.value (.slice (cutA A c m) (l.drop m).length (c - m))) w := by
  have ht : Try.prog.underlying 30 = some (.slice (Try.prog.elem 30)) := by kernel_rfl
  simp [execOp, ho, h1, h2, go_sem, run_sliceAt_slice _ _ _ _ _ _ ht, Result.andThen, hm, cutA]
theorem build_two {ρ : Operand → Value} {w : World} {o : Oper} {x y : Operand} {A A2 : Option Addr} {n n2 c c2 : Nat} (ho : o.op = .buildSlice 168 2 #[(0, x), (1, y)]) (h1 : ρ x = .slice A n c) (h2 : ρ y = .slice A2 n2 c2) :
    ∃ r w', (execOp ρ o).run Try.prog w = .ok (.value r) w' ∧ Grow w w' ∧ Two (.slice A n c) (.slice A2 n2 c2) r w' := by
  refine ⟨.slice (some ⟨w.heap.size, 0, none⟩) 2 2, w.alloc (.cells #[.slice A n c, .slice A2 n2 c2] 30), ?_, Grow.alloc _ _, w.heap.size, rfl, by simp, ?_, ?_⟩
  · simp [execOp, ho, h1, h2, go_sem, Result.andThen]
  · rw [(BlkIs.new w 30 #[.slice A n c, .slice A2 n2 c2]).cell]; rfl
  · rw [(BlkIs.new w 30 #[.slice A n c, .slice A2 n2 c2]).cell]; rfl
set_option maxRecDepth 100000 in
set_option maxHeartbeats 4000000 in
theorem lawStrings_out (ls : List UInt8) (w : World) (A : Option Addr) (c : Nat) (l : List UInt8) (k : Int) (h : InB w w.heap.size A c l) (hs : ls.length ≤ 9223372036854775807)
    (hl : 300 < ls.length ∨ (ls.length ≤ 300 ∧ 300 < l.length) ∨ (ls.length ≤ 300 ∧ l.length ≤ 300 ∧ k < 0) ∨ (ls.length ≤ 300 ∧ l.length ≤ 300 ∧ 0 ≤ k ∧ (l.length : Int) < k)) :
    Calls Try.prog 6 #[.string (str ls), .slice A l.length c, .int .i64 k] w fun e w' => e = .returned (.bool true) ∧ Below w.heap.size w w' := by
  have hle := h.le
  have hmax := h.max
  have hsz := str_size ls
  rcases hl with hl | ⟨hl, hl2⟩ | ⟨hl, hl2, hl3⟩ | ⟨hl, hl2, hl3, hl4⟩ <;>
  · go_enter Try.func6, Try.ntmps6
    go_wp2_with (go_at_call 27; refine (works3_gives _).mono ?_; rintro e w' ⟨rfl, hB⟩)
    go_ret
    exact ⟨rfl, hB⟩

set_option maxRecDepth 100000 in
set_option maxHeartbeats 4000000 in
theorem lawStrings_walk (ls : List UInt8) (w : World) (A : Option Addr) (c : Nat) (l : List UInt8) (m : Nat) (h : InB w w.heap.size A c l) (hls : ls.length ≤ 300) (hl : l.length ≤ 300) (hm : m ≤ l.length) :
    Calls Try.prog 6 #[.string (str ls), .slice A l.length c, .int .i64 m] w fun e w' => e = .returned (.bool true) ∧ Below w.heap.size w w' := by
  have hle := h.le
  have hmax := h.max
  have hsz := str_size ls
  obtain ⟨s1, y, ex, hrd⟩ := rdSV_form l
  go_enter Try.func6, Try.ntmps6
  go_wp2_with fail
  refine (string_gives ls (by omega) _).mono ?_
  rintro e w1 ⟨v, rfl, hown, hB⟩
  obtain ⟨A1, c1, rfl, hin1⟩ := hown.inB
  have hst1 := hown.toStrs
  have hin0 := h.below hB
  have e0 : OwnB (w1.alloc (.cells #[] 5)) w1.heap.size (.slice (some ⟨w1.heap.size, 0, none⟩) 0 0) [] := World.ownsRow_lit w1 #[] 0 (Nat.le_refl _) (by unfold maxLen; omega) rfl
  have hnl := num_length ls.length
  have hsl : (strL ls).length ≤ 310 := by simp [strL]; omega
  clear hnl
  have hb1 : Below w1.heap.size w1 (w1.alloc (.cells #[] 5)) := (Below.refl _ _).alloc (Nat.le_refl _) _
  go_wp2_with (first
    | (at_builtin; refine wp_appB rfl (.tmp 39) (.tmp 40) rfl w1.heap.size _ [] rfl e0 _ A1 c1 (strL ls) rfl (hin1.below hb1) (by simp; omega) (by simp) ?_; intro v2 w2 hown2 hg2; have hb2 := e0.below hb1 hg2)
    | (at_builtin; refine wp_appB rfl (.tmp 41) (.tmp 42) rfl w1.heap.size _ ([] ++ strL ls) rfl hown2 _ A c l rfl ((hin0.more hB.size).below hb2) (by simp; omega) hb2.size ?_; intro v3 w3 hown3 hg3; have hb3 := hown2.below hb2 hg3; obtain ⟨A3, c3, rfl, hin3⟩ := hown3.inB))
  have H := readString_gives w3 A3 c3 _ hin3
  rw [List.nil_append, List.length_append, rdSV_strL ls l (by omega)] at H
  have hB3 : Below w.heap.size w w3 := hB.trans (hb3.mono hB.size)
  have hst3 : ∀ W, Below w3.heap.size w3 W → (convert 30 9 (.slice A1 (strL ls).length c1)).run Try.prog W = .ok (.string (str (strL ls))) W := fun W hW => hst1 W (hb3.trans (hW.mono hb3.size))
  clear hin0 hb1 e0 hb2 hown2 hg2 hown3 hg3 hb3 hin3 hst1 hin1 hown hB
  refine H.mono ?_
  clear H
  rintro e w4 ⟨rfl, hB4⟩
  have hB4w : Below w.heap.size w w4 := hB3.trans (hB4.mono hB3.size)
  have hlv4 := (h.below hB4w).more hB4w.size
  have H2 := readString_gives w4 A c l hlv4
  rw [hrd] at H2
  go_wp2_with fail
  refine H2.mono ?_
  clear H2
  rintro e w5 ⟨rfl, hB5⟩
  have hB5w : Below w.heap.size w w5 := hB4w.trans (hB5.mono hB4w.size)
  have hlv5 := (h.below hB5w).more hB5w.size
  have H3 := refReadString_gives w5 A c l hlv5
  rw [hrd] at H3
  have hB35 : Below w3.heap.size w3 w5 := hB4.trans (hB5.mono hB4.size)
  clear hB4 hB5 hB4w hlv4
  go_wp2_with fail
  refine H3.mono ?_
  clear H3
  rintro e w' ⟨rfl, rfl⟩
  go_wp2_with fail
  have hsum : ∀ w u, Grow w5 w → Two (.slice A (l.take m).length c) (.slice (cutA A c m) (l.drop m).length (c - m)) u w → Calls Try.prog 29 #[u] w fun e w' => ∃ v, e = .returned v ∧ Grow w w' ∧ v = .int .u32 (sumL l : Int) := by
    rintro w u hg ⟨b, rfl, hb, h0, h1⟩
    have hin := (hlv5.below hg).more hg.size
    have H := sum_two w b _ _ _ _ _ _ (hin.take m c hm (by omega) (Nat.le_refl _)) (hin.drop m hm) hb h0 h1
    rw [List.take_append_drop] at H
    exact Reg.gives_grow H
  open Reg in
  refine region_facts (by kernel_rfl) (by kernel_rfl) 114 rfl (by kernel_rfl)
    [(7, .val (.slice A1 (strL ls).length c1)), (0, .val (.string (str ls))), (8, .val (.string (str ls))), (9, .val (.int .i64 ((strL ls).length : Int))), (10, .val (.int .i64 0)), (11, .val (.string s1)), (14, .val (.string s1)), (12, .val (.int .i64 y)), (15, .val (.int .i64 y)), (13, .val (.int .i64 ex)), (16, .val (.int .i64 ex)), (1, .val (.slice A l.length c)), (2, .val (.int .i64 (m : Int)))]
    [(60, .val (.slice A1 (strL ls).length c1)), (61, .val (.string (str (strL ls)))), (62, .val (.string (str ls))), (63, .res (strL ls)), (64, .val (.string (str (strL ls)))), (65, .val (.bool true)), (66, .val (.bool true)), (67, .val (.string (str ls))), (68, .val (.string (str ls))), (69, .val (.bool true)), (70, .val (.bool true)), (71, .val (.bool true)), (72, .val (.int .i64 ((strL ls).length : Int))), (73, .val (.slice A1 (strL ls).length c1)), (74, .val (.int .i64 ((strL ls).length : Int))), (75, .val (.bool true)), (76, .val (.bool true)), (77, .val (.bool true)), (78, .val (.int .i64 0)), (79, .val (.int .i64 0)), (80, .val (.bool true)), (81, .val (.bool true)), (82, .val (.bool true)), (83, .val (.string s1)), (84, .val (.string s1)), (85, .val (.bool true)), (86, .val (.bool true)), (87, .val (.bool true)), (88, .val (.int .i64 y)), (89, .val (.int .i64 y)), (90, .val (.bool true)), (91, .val (.bool true)), (92, .val (.bool true)), (93, .val (.int .i64 ex)), (94, .val (.int .i64 ex)), (95, .val (.int .i64 ex)), (96, .val (.bool true)), (97, .val (.bool true)), (98, .val (.bool true)), (99, .val (.slice A l.length c)), (100, .val (.int .i64 (m : Int))), (101, .val (.slice A (l.take m).length c)), (102, .val (.slice A l.length c)), (103, .val (.int .i64 (m : Int))), (104, .val (.slice (cutA A c m) (l.drop m).length (c - m))), (105, .pred (Two (.slice A (l.take m).length c) (.slice (cutA A c m) (l.drop m).length (c - m))) (two_stable _ _)), (106, .val (.int .u32 (sumL l : Int))), (107, .val (.slice A l.length c)), (108, .val (.int .u32 (sumL l : Int))), (109, .val (.bool true)), (110, .val (.bool true)), (111, .val (.bool true)), (112, .val (.bool true)), (113, .val (.bool true)), (6, .val (.bool true))]
    ⟨rfl, rfl, rfl, rfl, rfl, rfl, rfl, rfl, rfl, rfl, rfl, rfl, rfl, trivial⟩ (by kernel_rfl)
    (allOk_cons (ok_none rfl (l_mvF 7 (.val (.slice A1 (strL ls).length c1)) (.inl rfl) (by kernel_rfl) (by kernel_rfl) (by kernel_rfl)))
    <| allOk_cons (ok_none rfl (l_convS (.tmp 60) _ _ (.slice A1 (strL ls).length c1) (.string (str (strL ls))) rfl (hs 60 (.slice A1 (strL ls).length c1) (by kernel_rfl) (by kernel_rfl)) (fun w hg => hst3 w (hB35.trans (hg.mono hB35.size))) (by kernel_rfl)))
    <| allOk_cons (ok_none rfl (l_mvF 0 (.val (.string (str ls))) (.inl rfl) (by kernel_rfl) (by kernel_rfl) (by kernel_rfl)))
    <| allOk_cons (ok_none rfl (l_call 35 _ _ rfl (enters_of Try.func35 (by kernel_rfl) rfl) #[.string (str ls)] (.res (strL ls)) (args1 (hs 62 (.string (str ls)) (by kernel_rfl) (by kernel_rfl))) (fun w hg => Reg.gives_res (refString_gives ls (by omega) w)) (by kernel_rfl)))
    <| allOk_cons (ok_none rfl (l_conv 63 (strL ls) rfl (by kernel_rfl) (by kernel_rfl) (by kernel_rfl)))
    <| allOk_cons (ok_none rfl (l_eqs (.tmp 61) (.tmp 64) _ _ ((str (strL ls))) rfl Try.underlying9 (hs 61 (.string (str (strL ls))) (by kernel_rfl) (by kernel_rfl)) (hs 64 (.string (str (strL ls))) (by kernel_rfl) (by kernel_rfl)) (by kernel_rfl)))
    <| allOk_cons (ok_none rfl (l_mvF 65 (.val (.bool true)) (.inl rfl) (by kernel_rfl) (by kernel_rfl) (by kernel_rfl)))
    <| allOk_cons (okg 6 true 66 rfl (by kernel_rfl) (by kernel_rfl) (by kernel_rfl) (l_mvF 8 (.val (.string (str ls))) (.inl rfl) (by kernel_rfl) (by kernel_rfl) (by kernel_rfl)))
    <| allOk_cons (okg 6 true 66 rfl (by kernel_rfl) (by kernel_rfl) (by kernel_rfl) (l_mvF 0 (.val (.string (str ls))) (.inl rfl) (by kernel_rfl) (by kernel_rfl) (by kernel_rfl)))
    <| allOk_cons (okg 6 true 66 rfl (by kernel_rfl) (by kernel_rfl) (by kernel_rfl) (l_eqs (.tmp 67) (.tmp 68) _ _ ((str ls)) rfl Try.underlying9 (hs 67 (.string (str ls)) (by kernel_rfl) (by kernel_rfl)) (hs 68 (.string (str ls)) (by kernel_rfl) (by kernel_rfl)) (by kernel_rfl)))
    <| allOk_cons (ok_none rfl (l_pick (.tmp 66) (.tmp 69) (.bool true) rfl (hs 66 (.bool true) (by kernel_rfl) (by kernel_rfl)) (hs 69 (.bool true) (by kernel_rfl) (by kernel_rfl)) (by kernel_rfl)))
    <| allOk_cons (ok_none rfl (l_mvF 70 (.val (.bool true)) (.inl rfl) (by kernel_rfl) (by kernel_rfl) (by kernel_rfl)))
    <| allOk_cons (okg 11 true 71 rfl (by kernel_rfl) (by kernel_rfl) (by kernel_rfl) (l_mvF 9 (.val (.int .i64 ((strL ls).length : Int))) (.inl rfl) (by kernel_rfl) (by kernel_rfl) (by kernel_rfl)))
    <| allOk_cons (okg 11 true 71 rfl (by kernel_rfl) (by kernel_rfl) (by kernel_rfl) (l_mvF 7 (.val (.slice A1 (strL ls).length c1)) (.inl rfl) (by kernel_rfl) (by kernel_rfl) (by kernel_rfl)))
    <| allOk_cons (okg 11 true 71 rfl (by kernel_rfl) (by kernel_rfl) (by kernel_rfl) (l_len 73 _ _ _ _ (by kernel_rfl) rfl ((hs 73 (.slice A1 (strL ls).length c1) (by kernel_rfl) (by kernel_rfl))) (by kernel_rfl)))
    <| allOk_cons (okg 11 true 71 rfl (by kernel_rfl) (by kernel_rfl) (by kernel_rfl) (l_eqi (.tmp 72) (.tmp 74) _ _ .i64 (((strL ls).length : Int)) rfl Try.underlying3 (hs 72 (.int .i64 ((strL ls).length : Int)) (by kernel_rfl) (by kernel_rfl)) (hs 74 (.int .i64 ((strL ls).length : Int)) (by kernel_rfl) (by kernel_rfl)) (by kernel_rfl)))
    <| allOk_cons (ok_none rfl (l_pick (.tmp 71) (.tmp 75) (.bool true) rfl (hs 71 (.bool true) (by kernel_rfl) (by kernel_rfl)) (hs 75 (.bool true) (by kernel_rfl) (by kernel_rfl)) (by kernel_rfl)))
    <| allOk_cons (ok_none rfl (l_mvF 76 (.val (.bool true)) (.inl rfl) (by kernel_rfl) (by kernel_rfl) (by kernel_rfl)))
    <| allOk_cons (okg 17 true 77 rfl (by kernel_rfl) (by kernel_rfl) (by kernel_rfl) (l_mvF 10 (.val (.int .i64 0)) (.inl rfl) (by kernel_rfl) (by kernel_rfl) (by kernel_rfl)))
    <| allOk_cons (okg 17 true 77 rfl (by kernel_rfl) (by kernel_rfl) (by kernel_rfl) (l_call 36 _ _ rfl (enters_of Try.func36 (by kernel_rfl) rfl) #[.int .i64 0] (.val (.int .i64 0)) (args1 (hs 78 (.int .i64 0) (by kernel_rfl) (by kernel_rfl))) (fun w hg => Reg.gives_num _ w) (by kernel_rfl)))
    <| allOk_cons (okg 17 true 77 rfl (by kernel_rfl) (by kernel_rfl) (by kernel_rfl) (l_eqi (.tmp 79) (.const (Go.Value.int Go.IntKind.i64 0)) _ _ .i64 (0) rfl Try.underlying3 (hs 79 (.int .i64 0) (by kernel_rfl) (by kernel_rfl)) (hc _) (by kernel_rfl)))
    <| allOk_cons (ok_none rfl (l_pick (.tmp 77) (.tmp 80) (.bool true) rfl (hs 77 (.bool true) (by kernel_rfl) (by kernel_rfl)) (hs 80 (.bool true) (by kernel_rfl) (by kernel_rfl)) (by kernel_rfl)))
    <| allOk_cons (ok_none rfl (l_mvF 81 (.val (.bool true)) (.inl rfl) (by kernel_rfl) (by kernel_rfl) (by kernel_rfl)))
    <| allOk_cons (okg 22 true 82 rfl (by kernel_rfl) (by kernel_rfl) (by kernel_rfl) (l_mvF 11 (.val (.string s1)) (.inl rfl) (by kernel_rfl) (by kernel_rfl) (by kernel_rfl)))
    <| allOk_cons (okg 22 true 82 rfl (by kernel_rfl) (by kernel_rfl) (by kernel_rfl) (l_mvF 14 (.val (.string s1)) (.inl rfl) (by kernel_rfl) (by kernel_rfl) (by kernel_rfl)))
    <| allOk_cons (okg 22 true 82 rfl (by kernel_rfl) (by kernel_rfl) (by kernel_rfl) (l_eqs (.tmp 83) (.tmp 84) _ _ (s1) rfl Try.underlying9 (hs 83 (.string s1) (by kernel_rfl) (by kernel_rfl)) (hs 84 (.string s1) (by kernel_rfl) (by kernel_rfl)) (by kernel_rfl)))
    <| allOk_cons (ok_none rfl (l_pick (.tmp 82) (.tmp 85) (.bool true) rfl (hs 82 (.bool true) (by kernel_rfl) (by kernel_rfl)) (hs 85 (.bool true) (by kernel_rfl) (by kernel_rfl)) (by kernel_rfl)))
    <| allOk_cons (ok_none rfl (l_mvF 86 (.val (.bool true)) (.inl rfl) (by kernel_rfl) (by kernel_rfl) (by kernel_rfl)))
    <| allOk_cons (okg 27 true 87 rfl (by kernel_rfl) (by kernel_rfl) (by kernel_rfl) (l_mvF 12 (.val (.int .i64 y)) (.inl rfl) (by kernel_rfl) (by kernel_rfl) (by kernel_rfl)))
    <| allOk_cons (okg 27 true 87 rfl (by kernel_rfl) (by kernel_rfl) (by kernel_rfl) (l_mvF 15 (.val (.int .i64 y)) (.inl rfl) (by kernel_rfl) (by kernel_rfl) (by kernel_rfl)))
    <| allOk_cons (okg 27 true 87 rfl (by kernel_rfl) (by kernel_rfl) (by kernel_rfl) (l_eqi (.tmp 88) (.tmp 89) _ _ .i64 (y) rfl Try.underlying3 (hs 88 (.int .i64 y) (by kernel_rfl) (by kernel_rfl)) (hs 89 (.int .i64 y) (by kernel_rfl) (by kernel_rfl)) (by kernel_rfl)))
    <| allOk_cons (ok_none rfl (l_pick (.tmp 87) (.tmp 90) (.bool true) rfl (hs 87 (.bool true) (by kernel_rfl) (by kernel_rfl)) (hs 90 (.bool true) (by kernel_rfl) (by kernel_rfl)) (by kernel_rfl)))
    <| allOk_cons (ok_none rfl (l_mvF 91 (.val (.bool true)) (.inl rfl) (by kernel_rfl) (by kernel_rfl) (by kernel_rfl)))
    <| allOk_cons (okg 32 true 92 rfl (by kernel_rfl) (by kernel_rfl) (by kernel_rfl) (l_mvF 13 (.val (.int .i64 ex)) (.inl rfl) (by kernel_rfl) (by kernel_rfl) (by kernel_rfl)))
    <| allOk_cons (okg 32 true 92 rfl (by kernel_rfl) (by kernel_rfl) (by kernel_rfl) (l_call 36 _ _ rfl (enters_of Try.func36 (by kernel_rfl) rfl) #[.int .i64 ex] (.val (.int .i64 ex)) (args1 (hs 93 (.int .i64 ex) (by kernel_rfl) (by kernel_rfl))) (fun w hg => Reg.gives_num _ w) (by kernel_rfl)))
    <| allOk_cons (okg 32 true 92 rfl (by kernel_rfl) (by kernel_rfl) (by kernel_rfl) (l_mvF 16 (.val (.int .i64 ex)) (.inl rfl) (by kernel_rfl) (by kernel_rfl) (by kernel_rfl)))
    <| allOk_cons (okg 32 true 92 rfl (by kernel_rfl) (by kernel_rfl) (by kernel_rfl) (l_eqi (.tmp 94) (.tmp 95) _ _ .i64 (ex) rfl Try.underlying3 (hs 94 (.int .i64 ex) (by kernel_rfl) (by kernel_rfl)) (hs 95 (.int .i64 ex) (by kernel_rfl) (by kernel_rfl)) (by kernel_rfl)))
    <| allOk_cons (ok_none rfl (l_pick (.tmp 92) (.tmp 96) (.bool true) rfl (hs 92 (.bool true) (by kernel_rfl) (by kernel_rfl)) (hs 96 (.bool true) (by kernel_rfl) (by kernel_rfl)) (by kernel_rfl)))
    <| allOk_cons (ok_none rfl (l_mvF 97 (.val (.bool true)) (.inl rfl) (by kernel_rfl) (by kernel_rfl) (by kernel_rfl)))
    <| allOk_cons (okg 38 true 98 rfl (by kernel_rfl) (by kernel_rfl) (by kernel_rfl) (l_mvF 1 (.val (.slice A l.length c)) (.inl rfl) (by kernel_rfl) (by kernel_rfl) (by kernel_rfl)))
    <| allOk_cons (okg 38 true 98 rfl (by kernel_rfl) (by kernel_rfl) (by kernel_rfl) (l_mvF 2 (.val (.int .i64 (m : Int))) (.inl rfl) (by kernel_rfl) (by kernel_rfl) (by kernel_rfl)))
    <| allOk_cons (okg 38 true 98 rfl (by kernel_rfl) (by kernel_rfl) (by kernel_rfl) (l_run2W (.tmp 99) (.tmp 100) (.val (.slice A (l.take m).length c)) (.slice A l.length c) (.int .i64 (m : Int)) (hs 99 _ (by kernel_rfl) (by kernel_rfl)) (hs 100 _ (by kernel_rfl) (by kernel_rfl)) (fun ρ w hg h1 h2 => ⟨_, w, cut_take rfl h1 h2 hm hle, Grow.refl _, rfl⟩) (by kernel_rfl)))
    <| allOk_cons (okg 38 true 98 rfl (by kernel_rfl) (by kernel_rfl) (by kernel_rfl) (l_mvF 1 (.val (.slice A l.length c)) (.inl rfl) (by kernel_rfl) (by kernel_rfl) (by kernel_rfl)))
    <| allOk_cons (okg 38 true 98 rfl (by kernel_rfl) (by kernel_rfl) (by kernel_rfl) (l_mvF 2 (.val (.int .i64 (m : Int))) (.inl rfl) (by kernel_rfl) (by kernel_rfl) (by kernel_rfl)))
    <| allOk_cons (okg 38 true 98 rfl (by kernel_rfl) (by kernel_rfl) (by kernel_rfl) (l_run2W (.tmp 102) (.tmp 103) (.val (.slice (cutA A c m) (l.drop m).length (c - m))) (.slice A l.length c) (.int .i64 (m : Int)) (hs 102 _ (by kernel_rfl) (by kernel_rfl)) (hs 103 _ (by kernel_rfl) (by kernel_rfl)) (fun ρ w hg h1 h2 => ⟨_, w, cut_drop rfl h1 h2 hm hle, Grow.refl _, rfl⟩) (by kernel_rfl)))
    <| allOk_cons (okg 38 true 98 rfl (by kernel_rfl) (by kernel_rfl) (by kernel_rfl) (l_run2W (.tmp 101) (.tmp 104) (.pred (Two (.slice A (l.take m).length c) (.slice (cutA A c m) (l.drop m).length (c - m))) (two_stable _ _)) (.slice A (l.take m).length c) (.slice (cutA A c m) (l.drop m).length (c - m)) (hs 101 _ (by kernel_rfl) (by kernel_rfl)) (hs 104 _ (by kernel_rfl) (by kernel_rfl)) (fun ρ w hg h1 h2 => build_two rfl h1 h2) (by kernel_rfl)))
    <| allOk_cons (okg 38 true 98 rfl (by kernel_rfl) (by kernel_rfl) (by kernel_rfl) (l_callP 29 105 (Two (.slice A (l.take m).length c) (.slice (cutA A c m) (l.drop m).length (c - m))) (two_stable _ _) _ rfl (enters_of Try.func29 (by kernel_rfl) rfl) (.val (.int .u32 (sumL l : Int))) (by kernel_rfl) (by kernel_rfl) (fun w u hg hu => hsum w u hg hu) (by kernel_rfl)))
    <| allOk_cons (okg 38 true 98 rfl (by kernel_rfl) (by kernel_rfl) (by kernel_rfl) (l_mvF 1 (.val (.slice A l.length c)) (.inl rfl) (by kernel_rfl) (by kernel_rfl) (by kernel_rfl)))
    <| allOk_cons (okg 38 true 98 rfl (by kernel_rfl) (by kernel_rfl) (by kernel_rfl) (l_call 37 _ _ rfl (enters_of Try.func37 (by kernel_rfl) rfl) #[.slice A l.length c] (.val (.int .u32 (sumL l : Int))) (args1 (hs 107 (.slice A l.length c) (by kernel_rfl) (by kernel_rfl))) (fun w hg => Reg.gives_same (refSum_gives w _ A c l ((hlv5.below hg).more hg.size))) (by kernel_rfl)))
    <| allOk_cons (okg 38 true 98 rfl (by kernel_rfl) (by kernel_rfl) (by kernel_rfl) (l_eqi (.tmp 106) (.tmp 108) _ _ .u32 ((sumL l : Int)) rfl Try.underlying45 (hs 106 (.int .u32 (sumL l : Int)) (by kernel_rfl) (by kernel_rfl)) (hs 108 (.int .u32 (sumL l : Int)) (by kernel_rfl) (by kernel_rfl)) (by kernel_rfl)))
    <| allOk_cons (ok_none rfl (l_pick (.tmp 98) (.tmp 109) (.bool true) rfl (hs 98 (.bool true) (by kernel_rfl) (by kernel_rfl)) (hs 109 (.bool true) (by kernel_rfl) (by kernel_rfl)) (by kernel_rfl)))
    <| allOk_cons (ok_none rfl (l_mvF 110 (.val (.bool true)) (.inl rfl) (by kernel_rfl) (by kernel_rfl) (by kernel_rfl)))
    <| allOk_cons (okg 51 true 111 rfl (by kernel_rfl) (by kernel_rfl) (by kernel_rfl) (l_call 27 _ _ rfl (enters_of Try.func27 (by kernel_rfl) rfl) #[] (.val (.bool true)) (fun _ _ _ => by simp) (fun w hg => Reg.gives_works w) (by kernel_rfl)))
    <| allOk_cons (ok_none rfl (l_pick (.tmp 111) (.tmp 112) (.bool true) rfl (hs 111 (.bool true) (by kernel_rfl) (by kernel_rfl)) (hs 112 (.bool true) (by kernel_rfl) (by kernel_rfl)) (by kernel_rfl)))
    <| allOk_cons (ok_none rfl (l_mvF 113 (.val (.bool true)) (.inr rfl) (by kernel_rfl) (by kernel_rfl) (by kernel_rfl)))
    <| allOk_nil) ?_
  intro a w6 _ hdef hG hF
  have hr : a.eval (.tmp 6) = .bool true := hF 6
  have hB6 : Below w.heap.size w w6 := hB5w.trans (hG.mono hB5w.size)
  clear hF
  simp only [Exit.then]
  refine ‹∀ (a : Act) (w : World), Code.wp Try.prog Code.ret _ a w → _› a w6 ?_
  refine Reg.ends1 6 (.bool true) rfl hr hdef ?_
  exact ⟨rfl, hB6⟩
end Go.Proofs.Ytlelckdcmlpmdaa
/- slices.Repeat of bytes, twice. -/
namespace Go.Proofs.Ytlelckdcmlpmdaa
open Go Go.RowKit Lou

theorem BlkIs.own' {w : World} {g base : Nat} {l : List UInt8} (h : BlkIs w g 5 (l.map b8).toArray) (hb : base ≤ g) (hm : l.length ≤ 9223372036854775807) : OwnB w base (.slice (some ⟨g, 0, none⟩) l.length l.length) l :=
  ⟨by simp, .inr ⟨g, l.length, (l.map b8).toArray, rfl, hb, h, Nat.le_refl _, by unfold maxLen; omega, by simp, by simp [List.take_of_length_le]⟩⟩
theorem cut_from {ρ : Operand → Value} {w : World} {o : Oper} {x y : Operand} {g n m : Nat} (ho : o.op = .slice 30 x (some y) none none) (h1 : ρ x = .slice (some ⟨g, 0, none⟩) n n) (h2 : ρ y = .int .i64 (m : Int)) (hm : m < n) :
    (execOp ρ o).run Try.prog w = .ok (.value (.slice (some ⟨g, m, none⟩) (n - m) (n - m))) w := by
  have ht : Try.prog.underlying 30 = some (.slice (Try.prog.elem 30)) := by kernel_rfl
  have e : ¬ n = m := by omega
  have e2 : m ≤ n := by omega
  have ea : (⟨g, 0, none⟩ : Addr).add m = ⟨g, m, none⟩ := by cases m <;> simp [Addr.add]
  simp [execOp, ho, h1, h2, go_sem, run_sliceAt_slice _ _ _ _ _ _ ht, Result.andThen, e, e2, ea]
theorem cut_to {ρ : Operand → Value} {w : World} {o : Oper} {x y : Operand} {g n m : Nat} (ho : o.op = .slice 30 x none (some y) none) (h1 : ρ x = .slice (some ⟨g, 0, none⟩) n n) (h2 : ρ y = .int .i64 (m : Int)) (hm : m < n) :
    (execOp ρ o).run Try.prog w = .ok (.value (.slice (some ⟨g, 0, none⟩) m n)) w := by
  have ht : Try.prog.underlying 30 = some (.slice (Try.prog.elem 30)) := by kernel_rfl
  have e2 : m ≤ n := by omega
  simp [execOp, ho, h1, h2, go_sem, run_sliceAt_slice _ _ _ _ _ _ ht, Result.andThen, e2]
set_option maxRecDepth 100000 in
set_option maxHeartbeats 2000000 in
theorem repeat2_gives (w : World) (A : Option Addr) (c : Nat) (l : List UInt8) (h : InB w w.heap.size A c l) (hl : 0 < l.length) (hm : l.length < 30000) :
    Calls Try.prog 181 #[.slice A l.length c, .int .i64 2] w (GivesB w (l ++ l)) := by
  have H := mul_gives l.length 2 (by omega) (by omega) w
  have e1 : IntKind.u64.wrap (l.length : Int) = (l.length : Int) := by
    show (l.length : Int) % 18446744073709551616 = _
    omega
  have e2 : IntKind.i64.wrap ((l.length * 2 : Nat) : Int) = ((l.length * 2 : Nat) : Int) := wrap_i64_fr _ (by omega) (by omega)
  obtain ⟨n, hn⟩ : ∃ n, n = l.length * 2 := ⟨_, rfl⟩
  rw [← hn] at H e2
  have hN := Lib.hid hn
  have hnb : n < 60000 := by omega
  clear hn
  go_enter Try.func181, Try.ntmps181
  go_wp2_with fail
  refine H.mono ?_
  rintro e w' ⟨rfl, rfl⟩
  go_wp2_with (first
    | (at_make; refine wp_makeB rfl (.tmp 29) (.tmp 29) rfl w.heap.size .i64 .i64 n rfl rfl (by omega) (Nat.le_refl _) ?_; intro w1 hown hg1; have hB1 : Below w.heap.size w w1 := (Below.refl _ w).grown hg1 (Nat.le_refl _) (fun k hk => by cases hk); obtain ⟨hb1, _⟩ := OwnB.blk (l := List.replicate n 0) (by rw [List.length_replicate]; exact hown))
    | (refine wp_copyB rfl (.tmp 31) (.tmp 32) rfl w.heap.size 0 (List.replicate n 0) l A c _ n n rfl rfl hb1 (h.below hB1) (by simp) ?_))
  have hmn : min l.length n = l.length := by have := hN.out; omega
  have hs1 : spliceB (List.replicate n 0) 0 n l = l ++ List.replicate l.length 0 := by
    have := hN.out
    subst this
    simp only [spliceB, List.take_zero, List.nil_append, Nat.zero_add, List.drop_replicate]
    rw [List.take_of_length_le (by omega), Nat.min_eq_left (by omega)]
    congr 2
    omega
  rw [hs1]
  have hb2 := hb1.setRow ((l ++ List.replicate l.length 0).map b8).toArray
  have hB2 := below_setRow hB1 (Nat.le_refl _) (g := w.heap.size) ((l ++ List.replicate l.length 0).map b8).toArray
  generalize w1.setRow w.heap.size ((l ++ List.replicate l.length 0).map b8).toArray = w2 at *
  rw [hmn]
  clear hB1 hb1 hown hg1 hmn hs1
  have hlt : (l.length : Int) < (n : Int) := by have := hN.out; omega
  refine wp_loop_rounds 2 ?_
  rw [rounds_succ]
  go_wp2_with fail
  have hin2 : InB w2 (w.heap.size + 1) (some ⟨w.heap.size, 0, none⟩) n l := ⟨by have := hN.out; omega, by omega, (fun e => by cases e), fun _ => ⟨_, 0, rfl, by omega, fun j hj => by
    rw [hb2.cell]
    simp [b8, List.getElem?_append_left, hj]⟩⟩
  have hfit : l.length + (n - l.length) ≤ (l ++ List.replicate l.length (0 : UInt8)).length := by have := hN.out; simp; omega
  have hln : l.length < n := by omega
  have hadd : IntKind.i64.wrap ((l.length : Int) + (l.length : Int)) = (n : Int) := by have := hN.out; rw [wrap_i64_fr _ (by omega) (by omega)]; omega
  let WI : Reg.WInv := fun listed _ W => BlkIs W w.heap.size 5 ((if listed.getD 7 false then l ++ l else l ++ List.replicate l.length 0).map b8).toArray ∧ Below w.heap.size w W
  have hkeep : ∀ i, i ≠ 7 → ∀ (listed : Array Bool) (a a' : Act) (W W' : World), WI listed a W → Grow W W' → WI (listed.setIfInBounds i true) a' W' := by
    intro i hi listed a a' W W' h hg
    have e : (listed.setIfInBounds i true).getD 7 false = listed.getD 7 false := by simp [Array.getD_eq_getD_getElem?, Array.getElem?_setIfInBounds, hi]
    refine ⟨?_, h.2.trans (hg.mono h.2.size)⟩
    rw [e]
    exact h.1.below hg h.1.lt
  have hwi0 : ∀ (m : Nat) (a : Act), WI (Array.replicate m false) a w2.drew := by
    intro m a
    have e : (Array.replicate m false).getD 7 false = false := by simp [Array.getD]
    refine ⟨?_, hB2.drew⟩
    rw [e]
    exact hb2.drew
  have hsp : spliceB (l ++ List.replicate l.length 0) l.length (n - l.length) l = l ++ l := by
    have e : n - l.length = l.length := by have := hN.out; omega
    rw [e]
    simp [spliceB]
  have hcopy : ∀ (ops : Array Oper) (a0 : Act) (L : List (Nat × Fact)) (o : Oper), o.guard = none → o.op = .call { callee := .builtin .copy, args := #[.tmp 41, .tmp 44], argTypes := #[30, 30] } → o.dst = some 45 → 7 < ops.size →
      (o.looksAt ops).contains 41 = true → (o.looksAt ops).contains 44 = true → Reg.ahead ops o 41 = true → Reg.ahead ops o 44 = true → factOf L 41 = .val (.slice (some ⟨w.heap.size, l.length, none⟩) (n - l.length) (n - l.length)) → factOf L 44 = .val (.slice (some ⟨w.heap.size, 0, none⟩) l.length n) →
      factOf L 45 = .val (.int .i64 (l.length : Int)) → Reg.allVal L = true → Reg.Op2 Try.prog ops a0 (FSof L) WI 7 o := by
    intro ops a0 L o hg ho hd hsz c1 c2 h1 h2 f1 f2 f3 hv listed a W K Q hs hl _ hwi hlook _ hK
    rw [if_pos (by simp [Region.wanted, hg])]
    left
    have g1 : (factOf L 41).holds (a.eval (.tmp 41)) W := hlook 41 c1 h1
    have g2 : (factOf L 44).holds (a.eval (.tmp 44)) W := hlook 44 c2 h2
    rw [f1] at g1
    rw [f2] at g2
    have e7 : listed.getD 7 false = false := by
      have h7 : 7 < listed.size := by omega
      simpa [Array.getD, h7] using hl
    obtain ⟨hb, hB⟩ := hwi
    rw [e7] at hb
    have hin : InB W (w.heap.size + 1) (some ⟨w.heap.size, 0, none⟩) n l := ⟨by omega, by omega, (fun e => by cases e), fun _ => ⟨_, 0, rfl, by omega, fun j hj => by
      rw [hb.cell]
      simp [b8, List.getElem?_append_left, hj]⟩⟩
    refine oper_copyB (.tmp 41) (.tmp 44) ho w.heap.size l.length (l ++ List.replicate l.length 0) l (some ⟨w.heap.size, 0, none⟩) n (w.heap.size + 1) (n - l.length) (n - l.length) g1 g2 hb hin hfit ?_
    rw [hsp, show min l.length (n - l.length) = l.length from by have := hN.out; omega]
    refine hK _ _ (fun t u h => Reg.factOf_val hv t u _ _ h) ?_ ?_
    · rw [hd]
      show (factOf L 45).holds _ _
      rw [f3]
      rfl
    · refine ⟨?_, below_setRow hB (Nat.le_refl _) _⟩
      have e8 : (listed.setIfInBounds 7 true).getD 7 false = true := by
        have h7 : 7 < listed.size := by omega
        simp [Array.getD_eq_getD_getElem?, Array.getElem?_setIfInBounds, h7]
      rw [e8]
      exact hb.setRow _
  open Reg in
  refine region2_facts (by kernel_rfl) (by kernel_rfl) 48 rfl (by kernel_rfl) [38, 39, 40, 41, 42, 43, 44, 45, 46, 8] (by kernel_rfl)
    [(7, .val (.slice (some ⟨w.heap.size, 0, none⟩) n n))]
    [(38, .val (.int .i64 (l.length : Int))), (39, .val (.slice (some ⟨w.heap.size, 0, none⟩) n n)), (40, .val (.int .i64 (l.length : Int))), (41, .val (.slice (some ⟨w.heap.size, l.length, none⟩) (n - l.length) (n - l.length))), (42, .val (.slice (some ⟨w.heap.size, 0, none⟩) n n)), (43, .val (.int .i64 (l.length : Int))), (44, .val (.slice (some ⟨w.heap.size, 0, none⟩) l.length n)), (45, .val (.int .i64 (l.length : Int))), (46, .val (.int .i64 (n : Int))), (8, .val (.int .i64 (n : Int)))]
    ⟨rfl, trivial⟩ (by kernel_rfl) (WI) (hwi0 _ { tmps := #[], defers := [] })
    (⟨op2_mv_old 8 rfl (.inl rfl) (by kernel_rfl) (fun w => fsd (f := .val (.int .i64 (l.length : Int))) (by kernel_rfl) rfl) (fun listed a v w w1 h hg => hkeep 0 (by decide) listed a a w w1 h hg),
    ⟨op2_of (FSof.stable _) (fun _ => ok_none rfl (l_mvF 7 (.val (.slice (some ⟨w.heap.size, 0, none⟩) n n)) (.inl rfl) (by kernel_rfl) (by kernel_rfl) (by kernel_rfl))) (by kernel_rfl) (fun listed a v w w1 h hg => hkeep 1 (by decide) listed a a w w1 h hg),
    ⟨op2_mv_old 8 rfl (.inl rfl) (by kernel_rfl) (fun w => fsd (f := .val (.int .i64 (l.length : Int))) (by kernel_rfl) rfl) (fun listed a v w w1 h hg => hkeep 2 (by decide) listed a a w w1 h hg),
    ⟨op2_of (FSof.stable _) (fun _ => ok_none rfl (l_run2W (.tmp 39) (.tmp 40) (.val (.slice (some ⟨w.heap.size, l.length, none⟩) (n - l.length) (n - l.length))) (.slice (some ⟨w.heap.size, 0, none⟩) n n) (.int .i64 (l.length : Int)) (hs 39 _ (by kernel_rfl) (by kernel_rfl)) (hs 40 _ (by kernel_rfl) (by kernel_rfl)) (fun ρ w hg h1 h2 => ⟨_, w, cut_from rfl h1 h2 hln, Grow.refl _, rfl⟩) (by kernel_rfl))) (by kernel_rfl) (fun listed a v w w1 h hg => hkeep 3 (by decide) listed a a w w1 h hg),
    ⟨op2_of (FSof.stable _) (fun _ => ok_none rfl (l_mvF 7 (.val (.slice (some ⟨w.heap.size, 0, none⟩) n n)) (.inl rfl) (by kernel_rfl) (by kernel_rfl) (by kernel_rfl))) (by kernel_rfl) (fun listed a v w w1 h hg => hkeep 4 (by decide) listed a a w w1 h hg),
    ⟨op2_mv_old 8 rfl (.inl rfl) (by kernel_rfl) (fun w => fsd (f := .val (.int .i64 (l.length : Int))) (by kernel_rfl) rfl) (fun listed a v w w1 h hg => hkeep 5 (by decide) listed a a w w1 h hg),
    ⟨op2_of (FSof.stable _) (fun _ => ok_none rfl (l_run2W (.tmp 42) (.tmp 43) (.val (.slice (some ⟨w.heap.size, 0, none⟩) l.length n)) (.slice (some ⟨w.heap.size, 0, none⟩) n n) (.int .i64 (l.length : Int)) (hs 42 _ (by kernel_rfl) (by kernel_rfl)) (hs 43 _ (by kernel_rfl) (by kernel_rfl)) (fun ρ w hg h1 h2 => ⟨_, w, cut_to rfl h1 h2 hln, Grow.refl _, rfl⟩) (by kernel_rfl))) (by kernel_rfl) (fun listed a v w w1 h hg => hkeep 6 (by decide) listed a a w w1 h hg),
    ⟨hcopy _ _ _ _ rfl rfl rfl (by decide) (by kernel_rfl) (by kernel_rfl) (by kernel_rfl) (by kernel_rfl) (by kernel_rfl) (by kernel_rfl) (by kernel_rfl) (by kernel_rfl),
    ⟨op2_of (FSof.stable _) (fun _ => ok_none rfl (run2 (.tmp 38) (.tmp 45) (hs 38 (.int .i64 (l.length : Int)) (by kernel_rfl) (by kernel_rfl)) (hs 45 (.int .i64 (l.length : Int)) (by kernel_rfl) (by kernel_rfl)) (fun ρ w h1 h2 => by simp [execOp, h1, h2, go_sem, hadd, Result.andThen]) (fun _ => fsd (f := .val (.int .i64 (n : Int))) (by kernel_rfl) rfl))) (by kernel_rfl) (fun listed a v w w1 h hg => hkeep 8 (by decide) listed a a w w1 h hg),
    ⟨op2_of (FSof.stable _) (fun _ => ok_none rfl (l_mvF 46 (.val (.int .i64 (n : Int))) (.inr rfl) (by kernel_rfl) (by kernel_rfl) (by kernel_rfl))) (by kernel_rfl) (fun listed a v w w1 h hg => hkeep 9 (by decide) listed a a w w1 h hg),
    trivial⟩⟩⟩⟩⟩⟩⟩⟩⟩⟩) ?_
  intro listed a w3 hall hJ hF
  have e8 : a.eval (.tmp 8) = .int .i64 (n : Int) := hF 8
  have ha := Reg.acts_eq [38, 39, 40, 41, 42, 43, 44, 45, 46, 8] hJ.size hJ.defers hJ.rest
  obtain ⟨hb3, hB3⟩ : BlkIs w3 w.heap.size 5 ((l ++ l).map b8).toArray ∧ Below w.heap.size w w3 := by
    have h7 := hall 7 (by decide)
    have hs : listed.getD 7 false = true := by
      cases h8 : listed[7]? with
      | none => 
        exfalso
        have h9 := hJ.closed 9 _ rfl (hall 9 (by decide)) ⟨7, .chain⟩ (by simp) (by decide)
        simp [Array.getD_eq_getD_getElem?, h8] at h9
      | some b => simpa [Array.getD_eq_getD_getElem?, h8] using h7
    have hw := hJ.wi
    refine ⟨?_, hw.2⟩
    have := hw.1
    rw [hs] at this
    exact this
  clear hF hJ hall
  simp only [List.foldl_cons, List.foldl_nil, e8] at ha
  clear e8
  generalize a.eval (.tmp 38) = v38 at ha
  generalize a.eval (.tmp 39) = v39 at ha
  generalize a.eval (.tmp 40) = v40 at ha
  generalize a.eval (.tmp 41) = v41 at ha
  generalize a.eval (.tmp 42) = v42 at ha
  generalize a.eval (.tmp 43) = v43 at ha
  generalize a.eval (.tmp 44) = v44 at ha
  generalize a.eval (.tmp 45) = v45 at ha
  generalize a.eval (.tmp 46) = v46 at ha
  simp only [Act.put, List.setIfInBounds_toArray, List.set_cons_succ, List.set_cons_zero] at ha
  subst ha
  simp only [Exit.inBlock, Exit.then]
  rw [rounds_succ]
  go_wp2
  go_ret
  refine ⟨_, rfl, ?_, hB3⟩
  have hlen : (l ++ l).length = n := by have := hN.out; simp; omega
  rw [← hlen]
  exact hb3.own' (Nat.le_refl _) (by rw [hlen]; omega)
end Go.Proofs.Ytlelckdcmlpmdaa
/- Heads' and frames' bytes, in plain lists. -/
namespace Go.Proofs.Ytlelckdcmlpmdaa
open Lou

/-- A head's first 24 bytes; with their sum; the whole sector. -/
def headB (s e z c : Nat) : List UInt8 := [fixL 8 s, fixL 8 e, fixL 4 z, fixL 4 c].flatten
theorem headB_eq (s e z c : Nat) : headB s e z c = fixL 8 s ++ (fixL 8 e ++ (fixL 4 z ++ fixL 4 c)) := by simp [headB]
theorem headB_length (s e z c : Nat) : (headB s e z c).length = 24 := by
  rw [headB_eq]; simp only [List.length_append, fixL_length]
def onceB (b : List UInt8) : List UInt8 := b ++ fixL 4 (sumL b)
theorem onceB_length (b : List UInt8) : (onceB b).length = b.length + 4 := by simp [onceB, fixL_length]
def twiceB (b : List UInt8) : List UInt8 := onceB b ++ onceB b ++ List.replicate 8 0
theorem twiceB_length (b : List UInt8) : (twiceB b).length = 2 * b.length + 16 := by simp [twiceB, onceB_length]; omega
def headW (s e z c : Nat) : List UInt8 := twiceB (headB s e z c)
theorem headW_length (s e z c : Nat) : (headW s e z c).length = 64 := by simp [headW, twiceB_length, headB_length]

theorem twiceB_take (b : List UInt8) : (twiceB b).take b.length = b := by
  simp [twiceB, onceB, List.append_assoc]
theorem twiceB_mid (b : List UInt8) : ((twiceB b).drop (b.length + 4)).take b.length = b := by
  have : twiceB b = onceB b ++ (b ++ (fixL 4 (sumL b) ++ List.replicate 8 0)) := by simp [twiceB, onceB, List.append_assoc]
  rw [this, List.drop_append_of_le_length (by rw [onceB_length]; omega), ← onceB_length, List.drop_length, List.nil_append]
  simp

theorem rfix_fixL_lt {k n : Nat} (h : n < 256 ^ k) : rfix (fixL k n) = n := by rw [rfix_fixL, Nat.mod_eq_of_lt h]
theorem headB_read {s e z c : Nat} (hs : s < 2 ^ 64) (he : e < 2 ^ 64) (hz : z < 2 ^ 32) (hc : c < 2 ^ 32) (r : List UInt8) :
    rfix ((headB s e z c ++ r).take 8) = s ∧ rfix (((headB s e z c ++ r).drop 8).take 8) = e ∧ rfix (((headB s e z c ++ r).drop 16).take 4) = z ∧ rfix (((headB s e z c ++ r).drop 20).take 4) = c := by
  have l8 : ∀ n, (fixL 8 n).length = 8 := fixL_length 8
  have l4 : ∀ n, (fixL 4 n).length = 4 := fixL_length 4
  have e8 : (256 : Nat) ^ 8 = 2 ^ 64 := by decide
  have e4 : (256 : Nat) ^ 4 = 2 ^ 32 := by decide
  have t8 : ∀ n (r : List UInt8), (fixL 8 n ++ r).take 8 = fixL 8 n := fun n r => by rw [List.take_append_of_le_length (by rw [l8]; omega)]; rw [List.take_of_length_le (by rw [l8]; omega)]
  have t4 : ∀ n (r : List UInt8), (fixL 4 n ++ r).take 4 = fixL 4 n := fun n r => by rw [List.take_append_of_le_length (by rw [l4]; omega)]; rw [List.take_of_length_le (by rw [l4]; omega)]
  have d8 : ∀ n (r : List UInt8), (fixL 8 n ++ r).drop 8 = r := fun n r => by have := List.drop_left (l₁ := fixL 8 n) (l₂ := r); rw [l8] at this; exact this
  have d4 : ∀ n (r : List UInt8), (fixL 4 n ++ r).drop 4 = r := fun n r => by have := List.drop_left (l₁ := fixL 4 n) (l₂ := r); rw [l4] at this; exact this
  have h16 : ∀ (l : List UInt8), l.drop 16 = (l.drop 8).drop 8 := fun l => by rw [List.drop_drop]
  have h20 : ∀ (l : List UInt8), l.drop 20 = ((l.drop 8).drop 8).drop 4 := fun l => by rw [List.drop_drop, List.drop_drop]
  rw [headB_eq]
  simp only [List.append_assoc]
  rw [h20, h16, t8, d8, t8, d8, t4, d4, t4]
  exact ⟨rfix_fixL_lt (by omega), rfix_fixL_lt (by omega), rfix_fixL_lt (by omega), rfix_fixL_lt (by omega)⟩

/-- What a head's bytes are read as. -/
def hdS (b : List UInt8) : Nat := rfix (b.take 8)
def hdE (b : List UInt8) : Nat := rfix ((b.drop 8).take 8)
def hdZ (b : List UInt8) : Nat := rfix ((b.drop 16).take 4)
def hdC (b : List UInt8) : Nat := rfix ((b.drop 20).take 4)
/-- Are bytes a head's? -/
def isHead (b : List UInt8) : Bool := decide (b.length = 64) && decide (hdZ b ≤ 2000) && decide (hdC b ≤ 2000) && decide (headW (hdS b) (hdE b) (hdZ b) (hdC b) = b)
theorem isHead_iff (b : List UInt8) : isHead b = true ↔ b.length = 64 ∧ hdZ b ≤ 2000 ∧ hdC b ≤ 2000 ∧ headW (hdS b) (hdE b) (hdZ b) (hdC b) = b := by
  simp [isHead, and_assoc]
theorem headW_split (s e z c : Nat) : ∃ r, headW s e z c = headB s e z c ++ r := ⟨_, by unfold headW twiceB onceB; simp only [List.append_assoc]; rfl⟩
theorem headW_read {s e z c : Nat} (hs : s < 2 ^ 64) (he : e < 2 ^ 64) (hz : z ≤ 2000) (hc : c ≤ 2000) : hdS (headW s e z c) = s ∧ hdE (headW s e z c) = e ∧ hdZ (headW s e z c) = z ∧ hdC (headW s e z c) = c := by
  obtain ⟨r, hr⟩ := headW_split s e z c
  unfold hdS hdE hdZ hdC
  rw [hr]
  exact headB_read hs he (by omega) (by omega) r
theorem isHead_headW {s e z c : Nat} (hs : s < 2 ^ 64) (he : e < 2 ^ 64) (hz : z ≤ 2000) (hc : c ≤ 2000) : isHead (headW s e z c) = true := by
  obtain ⟨h1, h2, h3, h4⟩ := headW_read hs he hz hc
  rw [isHead_iff, h1, h2, h3, h4]
  exact ⟨headW_length _ _ _ _, hz, hc, rfl⟩

/-- A head's bytes with one changed are none's. -/
theorem isHead_set {s e z c : Nat} (i : Nat) (hi : i < 64) (d : UInt8) (hd : (headW s e z c)[i]'(by rw [headW_length]; exact hi) ≠ d) : isHead ((headW s e z c).set i d) = false := by
  cases h : isHead ((headW s e z c).set i d) with
  | false => rfl
  | true =>
    exfalso
    obtain ⟨_, _, _, h4⟩ := (isHead_iff _).1 h
    revert h4
    generalize hdS ((headW s e z c).set i d) = s'
    generalize hdE ((headW s e z c).set i d) = e'
    generalize hdZ ((headW s e z c).set i d) = z'
    generalize hdC ((headW s e z c).set i d) = c'
    intro h4
    have key : headB s' e' z' c' = headB s e z c := by
      by_cases h24 : 24 ≤ i
      · have h5 := congrArg (List.take 24) h4
        have t : ∀ a b c d, (headW a b c d).take 24 = headB a b c d := fun a b c d => by have := twiceB_take (headB a b c d); rw [headB_length] at this; exact this
        rw [t, List.take_set_of_le h24, t] at h5
        exact h5
      · have h5 := congrArg (fun l => (List.drop 28 l).take 24) h4
        have t : ∀ a b c d, ((headW a b c d).drop 28).take 24 = headB a b c d := fun a b c d => by have := twiceB_mid (headB a b c d); rw [headB_length] at this; exact this
        simp only [t, List.drop_set_of_lt (show i < 28 by omega)] at h5
        exact h5
    have h6 : headW s e z c = (headW s e z c).set i d := by
      have : headW s' e' z' c' = headW s e z c := by unfold headW; rw [key]
      rw [← this]
      rw [this]
      rw [← h4, this]
    have h7 := List.getElem_of_eq h6 (i := i) (by rw [headW_length]; exact hi)
    rw [List.getElem_set_self] at h7
    exact hd h7

/-- The first bytes of one head, the others of another one: if they are a head's, one of both. -/
theorem isHead_torn {s e z c s' e' z' c' : Nat} (m : Nat) (h : isHead ((headW s e z c).take m ++ (headW s' e' z' c').drop m) = true) :
    (headW s e z c).take m ++ (headW s' e' z' c').drop m = headW s e z c ∨ (headW s e z c).take m ++ (headW s' e' z' c').drop m = headW s' e' z' c' := by
  obtain ⟨_, _, _, h4⟩ := (isHead_iff _).1 h
  revert h4
  generalize hdS ((headW s e z c).take m ++ (headW s' e' z' c').drop m) = s2
  generalize hdE ((headW s e z c).take m ++ (headW s' e' z' c').drop m) = e2
  generalize hdZ ((headW s e z c).take m ++ (headW s' e' z' c').drop m) = z2
  generalize hdC ((headW s e z c).take m ++ (headW s' e' z' c').drop m) = c2
  intro h4
  have l1 := headW_length s e z c
  have l2 := headW_length s' e' z' c'
  by_cases h24 : 24 ≤ m
  · left
    have h5 := congrArg (List.take 24) h4
    have t : ∀ a b c d, (headW a b c d).take 24 = headB a b c d := fun a b c d => by have := twiceB_take (headB a b c d); rw [headB_length] at this; exact this
    have t2 : ((headW s e z c).take m ++ (headW s' e' z' c').drop m).take 24 = (headW s e z c).take 24 := by
      by_cases hm : m ≤ 64
      · rw [List.take_append_of_le_length (by simp; omega), List.take_take, Nat.min_eq_left h24]
      · rw [List.take_of_length_le (i := m) (by omega), List.take_append_of_le_length (by omega)]
    rw [t, t2, t] at h5
    rw [← h4]
    unfold headW
    rw [h5]
  · right
    have h5 := congrArg (fun l => (List.drop 28 l).take 24) h4
    have t : ∀ a b c d, ((headW a b c d).drop 28).take 24 = headB a b c d := fun a b c d => by have := twiceB_mid (headB a b c d); rw [headB_length] at this; exact this
    have t2 : (((headW s e z c).take m ++ (headW s' e' z' c').drop m).drop 28).take 24 = ((headW s' e' z' c').drop 28).take 24 := by
      have hl : ((headW s e z c).take m).length = m := by simp; omega
      rw [List.drop_append, hl, List.drop_of_length_le (by omega), List.nil_append, List.drop_drop]
      congr 2
      omega
    simp only [t, t2] at h5
    rw [← h4]
    unfold headW
    rw [h5]

/-- A frame's parts ahead of the sum. -/
def partB (e i p : Nat) (f : Bool) (z l : Nat) : List UInt8 := [fixL 8 e, fixL 4 i, fixL 4 p, [if f then 1 else 0], fixL 4 z, fixL 4 l].flatten
theorem partB_eq (e i p : Nat) (f : Bool) (z l : Nat) : partB e i p f z l = fixL 8 e ++ (fixL 4 i ++ (fixL 4 p ++ ((if f then 1 else 0) :: (fixL 4 z ++ fixL 4 l)))) := by simp [partB]
theorem partB_length (e i p : Nat) (f : Bool) (z l : Nat) : (partB e i p f z l).length = 25 := by
  rw [partB_eq]; simp only [List.length_append, List.length_cons, fixL_length]
/-- A frame's first sector; the whole of it. -/
def sectB (p y : List UInt8) : List UInt8 := p ++ fixL 4 (sumL (p ++ y)) ++ List.replicate 35 0
theorem sectB_length (p y : List UInt8) : (sectB p y).length = p.length + 39 := by simp [sectB, fixL_length]
def frameB (p y : List UInt8) : List UInt8 := sectB p y ++ y

theorem fixL4_inj {a b : Nat} (ha : a < 4294967296) (hb : b < 4294967296) (h : fixL 4 a = fixL 4 b) : a = b := by
  have := congrArg rfix h
  rw [rfix_fixL_lt (by have : (256 : Nat) ^ 4 = 4294967296 := by decide
                       omega), rfix_fixL_lt (by have : (256 : Nat) ^ 4 = 4294967296 := by decide
                                                omega)] at this
  exact this
/-- A frame's bytes with one changed are none's. -/
theorem frameB_set {p y p' y' : List UInt8} (hp : p.length = 25) (hp' : p'.length = 25) (hy : y.length = 512) (hy' : y'.length = 512) (i : Nat) (hi : i < 576) (d : UInt8)
    (hd : (frameB p y)[i]'(by simp [frameB, sectB_length]; omega) ≠ d) : frameB p' y' ≠ (frameB p y).set i d := by
  intro h
  have hl : (frameB p y).length = 576 := by simp [frameB, sectB_length]; omega
  have tp : ∀ (p y : List UInt8), p.length = 25 → (frameB p y).take 25 = p := fun p y hp => by
    rw [← hp]; simp [frameB, sectB, List.append_assoc]
  have ty : ∀ (p y : List UInt8), p.length = 25 → (frameB p y).drop 64 = y := fun p y hp => by
    have : (sectB p y).length = 64 := by rw [sectB_length]; omega
    unfold frameB
    rw [← this, List.drop_left]
  have ts : ∀ (p y : List UInt8), p.length = 25 → ((frameB p y).drop 25).take 4 = fixL 4 (sumL (p ++ y)) := fun p y hp => by
    rw [← hp]
    simp only [frameB, sectB, List.append_assoc, List.drop_left]
    rw [List.take_append_of_le_length (by rw [fixL_length]; omega), List.take_of_length_le (by rw [fixL_length]; omega)]
  have hne : ∀ l : List UInt8, l = frameB p y → l ≠ (frameB p y).set i d := by
    rintro l rfl e
    have h7 := List.getElem_of_eq e (i := i) (by omega)
    rw [List.getElem_set_self] at h7
    exact hd h7
  have hset : ∀ (l : List UInt8) (i : Nat) (hi : i < l.length), l.set i d = l → l[i] = d := fun l i hi e => by
    have h7 := List.getElem_of_eq e (i := i) (by simpa using hi)
    rw [List.getElem_set_self] at h7
    exact h7.symm
  by_cases h25 : i < 25
  · have e1 : y' = y := by
      have := congrArg (List.drop 64) h
      rw [ty _ _ hp', List.drop_set_of_lt (by omega), ty _ _ hp] at this
      exact this
    have e2 : p' = p.set i d := by
      have := congrArg (List.take 25) h
      rw [tp _ _ hp', List.take_set, tp _ _ hp] at this
      exact this
    have e3 : sumL (p' ++ y') = sumL (p ++ y) := by
      have := congrArg (fun l => (List.drop 25 l).take 4) h
      simp only [ts _ _ hp', List.drop_set_of_lt h25, ts _ _ hp] at this
      exact fixL4_inj (sumL_lt _) (sumL_lt _) this
    have hx : (p ++ y)[i]'(by simp; omega) ≠ d := by
      intro e
      apply hd
      rw [← e]
      simp [frameB, sectB, List.getElem_append_left, List.append_assoc, show i < p.length by omega]
    refine sumL_set (p ++ y) i (by simp; omega) d hx ?_
    rw [← e3, e1, e2, List.set_append_left _ _ (by omega)]
  · have e2 : p' = p := by
      have := congrArg (List.take 25) h
      rw [tp _ _ hp', List.take_set_of_le (by omega), tp _ _ hp] at this
      exact this
    by_cases h64 : i < 64
    · have e1 : y' = y := by
        have := congrArg (List.drop 64) h
        rw [ty _ _ hp', List.drop_set_of_lt (by omega), ty _ _ hp] at this
        exact this
      exact hne _ (by rw [e1, e2]) h
    · have e1 : y' = y.set (i - 64) d := by
        have := congrArg (List.drop 64) h
        rw [ty _ _ hp', List.drop_set, if_neg (by omega), ty _ _ hp] at this
        exact this
      have e3 : sumL (p' ++ y') = sumL (p ++ y) := by
        have := congrArg (fun l => (List.drop 25 l).take 4) h
        simp only [ts _ _ hp', List.drop_set, if_neg (show ¬ i < 25 by omega)] at this
        rw [List.take_set_of_le (by omega), ts _ _ hp] at this
        exact fixL4_inj (sumL_lt _) (sumL_lt _) this
      have hj : 25 + (i - 64) < (p ++ y).length := by simp; omega
      have hx : (p ++ y)[25 + (i - 64)]'hj ≠ d := by
        intro e
        apply hd
        rw [← e]
        have h1 : (frameB p y)[i]'(by omega) = y[i - 64]'(by omega) := by
          have : (sectB p y).length = 64 := by rw [sectB_length]; omega
          unfold frameB
          rw [List.getElem_append_right (by omega)]
          simp only [this]
        rw [h1, List.getElem_append_right (by omega)]
        simp only [hp]
        congr 1
        omega
      refine sumL_set (p ++ y) (25 + (i - 64)) hj d hx ?_
      rw [← e3, e1, e2, List.set_append_right _ _ (by omega)]
      congr 3
      omega
end Go.Proofs.Ytlelckdcmlpmdaa
