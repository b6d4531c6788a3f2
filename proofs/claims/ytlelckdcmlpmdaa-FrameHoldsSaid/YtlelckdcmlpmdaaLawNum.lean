/- loupelaw03.OctetNumbers: the walk. -/
import Derived.Test.YtlelckdcmlpmdaaOctWorks
import Derived.Test.YtlelckdcmlpmdaaOctFixRef
import Derived.Test.YtlelckdcmlpmdaaFacts
namespace Go.Proofs.Ytlelckdcmlpmdaa
open Go Go.RowKit Lou

theorem rdV_form (l : List UInt8) : ∃ x y e : Int, rdV l = .tuple #[.int .u64 x, .int .i64 y, .int .i64 e] := by
  unfold rdV
  cases rd l with
  | none => exact ⟨_, _, _, rfl⟩
  | some p => exact ⟨_, _, _, rfl⟩
theorem fix4_form (l : List UInt8) : ∃ (r : Nat) (e : Int), r < 4294967296 ∧ fixV32 l = .tuple #[.int .u32 r, .int .i64 e] ∧ fixV 4 l = .tuple #[.int .u64 r, .int .i64 e] := by
  by_cases h : l.length < 4
  · exact ⟨0, 130, by omega, fixV32_lt h, fixV_lt h⟩
  · refine ⟨rfix (l.take 4), 0, ?_, fixV32_ge h, fixV_ge h⟩
    have h1 := rfix_lt (l.take 4)
    have h2 : 256 ^ (l.take 4).length ≤ 256 ^ 4 := Nat.pow_le_pow_right (by omega) (by simp; omega)
    have h3 : (256 : Nat) ^ 4 = 4294967296 := by decide
    omega
theorem fix8_form (l : List UInt8) : ∃ (r : Int) (e : Int), fixV 8 l = .tuple #[.int .u64 r, .int .i64 e] := by
  by_cases h : l.length < 8
  · exact ⟨0, 130, fixV_lt h⟩
  · exact ⟨_, 0, fixV_ge h⟩

/-- Bytes of the call's own as a string, in whatever later world. -/
theorem OwnB.toStrs {w : World} {base : Nat} {v : Value} {l : List UInt8} (h : OwnB w base v l) : ∀ W, Below w.heap.size w W → (convert 30 9 v).run Try.prog W = .ok (.string (str l)) W := by
  intro W hW
  obtain ⟨A, c, rfl, hin⟩ := h.inB
  exact (hin.below hW).string

theorem Reg.gives_num (m : Int) (w : World) : Calls Try.prog 36 #[.int .i64 m] w fun e w' => ∃ v, e = .returned v ∧ Grow w w' ∧ v = .int .i64 m :=
  (num3_gives m w).mono (by rintro e w' ⟨rfl, rfl⟩; exact ⟨_, rfl, Grow.refl _, rfl⟩)
theorem Reg.gives_works (w : World) : Calls Try.prog 27 #[] w fun e w' => ∃ v, e = .returned v ∧ Grow w w' ∧ v = .bool true :=
  (works3_gives w).mono (by rintro e w' ⟨rfl, hB⟩; exact ⟨_, rfl, hB, rfl⟩)
set_option maxRecDepth 100000 in
set_option maxHeartbeats 4000000 in
theorem lawNumbers_long (n : Nat) (w : World) (A : Option Addr) (c : Nat) (l : List UInt8) (h : InB w w.heap.size A c l) (hl : 200 < l.length) :
    Calls Try.prog 7 #[.int .u64 n, .slice A l.length c] w fun e w' => e = .returned (.bool true) ∧ Below w.heap.size w w' := by
  have hle := h.le
  have hmax := h.max
  go_enter Try.func7, Try.ntmps7
  go_wp2_with (go_at_call 27; refine (works3_gives _).mono ?_; rintro e w' ⟨rfl, hB⟩)
  go_ret
  exact ⟨rfl, hB⟩

set_option maxRecDepth 100000 in
set_option maxHeartbeats 4000000 in
theorem lawNumbers_walk (n : Nat) (hn : n < 2 ^ 64) (w : World) (A : Option Addr) (c : Nat) (l : List UInt8) (h : InB w w.heap.size A c l) (hl : l.length ≤ 200) :
    Calls Try.prog 7 #[.int .u64 n, .slice A l.length c] w fun e w' => e = .returned (.bool true) ∧ Below w.heap.size w w' := by
  have hle := h.le
  have hmax := h.max
  obtain ⟨x, y, ex, hrd⟩ := rdV_form l
  obtain ⟨r4, e4, hr4, hf32, hf4⟩ := fix4_form l
  obtain ⟨r8, e8, hf8⟩ := fix8_form l
  have hN := Lib.hid hn
  clear hn
  go_enter Try.func7, Try.ntmps7
  go_wp2_with fail
  refine (number_gives n hN.out _).mono ?_
  rintro e w1 ⟨v, rfl, hown, hB⟩
  obtain ⟨A1, c1, rfl, hin1⟩ := hown.inB
  have hst1 := hown.toStrs
  have hin0 := h.below hB
  have e0 : OwnB (w1.alloc (.cells #[] 5)) w1.heap.size (.slice (some ⟨w1.heap.size, 0, none⟩) 0 0) [] := World.ownsRow_lit w1 #[] 0 (Nat.le_refl _) (by unfold maxLen; omega) rfl
  have hnl := num_length n
  have hb1 : Below w1.heap.size w1 (w1.alloc (.cells #[] 5)) := (Below.refl _ _).alloc (Nat.le_refl _) _
  go_wp2_with (first
    | (at_builtin; refine wp_appB rfl (.tmp 30) (.tmp 31) rfl w1.heap.size _ [] rfl e0 _ A1 c1 (num n) rfl (hin1.below hb1) (by simp; omega) (by simp) ?_; intro v2 w2 hown2 hg2; have hb2 := e0.below hb1 hg2)
    | (at_builtin; refine wp_appB rfl (.tmp 32) (.tmp 33) rfl w1.heap.size _ ([] ++ num n) rfl hown2 _ A c l rfl ((hin0.more hB.size).below hb2) (by simp; omega) hb2.size ?_; intro v3 w3 hown3 hg3; have hb3 := hown2.below hb2 hg3; obtain ⟨A3, c3, rfl, hin3⟩ := hown3.inB))
  have H := readNumber_gives w3 _ A3 c3 _ hin3
  rw [List.nil_append, List.length_append, rdV_some (rd_num n hN.out l)] at H
  have hB3 : Below w.heap.size w w3 := hB.trans (hb3.mono hB.size)
  have hlv := h.below hB3
  have H2 := readNumber_gives w3 _ A c l hlv
  rw [hrd] at H2
  have H3 := refReadNumber_gives w3 _ A c l hlv
  rw [hrd] at H3
  have hst3 : ∀ W, Below w3.heap.size w3 W → (convert 30 9 (.slice A1 (num n).length c1)).run Try.prog W = .ok (.string (str (num n))) W := fun W hW => hst1 W (hb3.trans (hW.mono hb3.size))
  have hB3s := hB3.size
  clear hin0 hb1 e0 hb2 hown2 hg2 hown3 hg3 hb3 hin3 hst1 hin1 hown hB h
  refine H.mono ?_
  clear H
  rintro e w' ⟨rfl, rfl⟩
  go_wp2_with fail
  refine H2.mono ?_
  clear H2
  rintro e w' ⟨rfl, rfl⟩
  go_wp2_with fail
  refine H3.mono ?_
  clear H3
  rintro e w' ⟨rfl, rfl⟩
  go_wp2_with fail
  have H := readFour_gives w3 A c l (hlv.more hB3s)
  rw [hf32] at H
  refine H.mono ?_
  clear H hf32
  rintro e w4 ⟨rfl, hB4⟩
  go_wp2_with fail
  have H := readEight_gives w4 A c l ((hlv.more hB3s).below hB4 |>.more hB4.size)
  rw [hf8] at H
  refine H.mono ?_
  clear H
  rintro e w5 ⟨rfl, hB5⟩
  have hB35 : Below w3.heap.size w3 w5 := hB4.trans (hB5.mono hB4.size)
  clear hB4 hB5
  have hlv5 := hlv.below (hB35.mono hB3s)
  have H1 := refReadFixed_gives w5 _ A c l 4 (by omega) hlv5
  rw [hf4] at H1
  have H2 := refReadFixed_gives w5 _ A c l 8 (by omega) hlv5
  rw [hf8] at H2
  clear hf4 hf8 hlv hlv5
  go_wp2_with fail
  refine H1.mono ?_
  clear H1
  rintro e w' ⟨rfl, rfl⟩
  go_wp2_with fail
  refine H2.mono ?_
  clear H2
  rintro e w' ⟨rfl, rfl⟩
  go_wp2_with fail
  have hB5 : Below w.heap.size w w5 := hB3.trans (hB35.mono hB3s)
  open Reg in
  refine region_facts (by kernel_rfl) (by kernel_rfl) 156 rfl (by kernel_rfl)
    [(5, .val (.slice A1 (num n).length c1)), (0, .val (.int .u64 (n : Int))), (6, .val (.int .u64 (n : Int))), (7, .val (.int .i64 ((num n).length : Int))), (8, .val (.int .i64 0)), (9, .val (.int .u64 x)), (12, .val (.int .u64 x)), (10, .val (.int .i64 y)), (13, .val (.int .i64 y)), (11, .val (.int .i64 ex)), (14, .val (.int .i64 ex)), (15, .val (.int .u32 (r4 : Int))), (19, .val (.int .u64 (r4 : Int))), (16, .val (.int .i64 e4)), (20, .val (.int .i64 e4)), (17, .val (.int .u64 r8)), (21, .val (.int .u64 r8)), (18, .val (.int .i64 e8)), (22, .val (.int .i64 e8))]
    [(71, .val (.slice A1 (num n).length c1)), (72, .val (.string (str (num n)))), (73, .val (.int .u64 (n : Int))), (74, .res (num n)), (75, .val (.string (str (num n)))), (76, .val (.bool true)), (77, .val (.bool true)), (78, .val (.int .u64 (n : Int))), (79, .val (.int .u64 (n : Int))), (80, .val (.bool true)), (81, .val (.bool true)), (82, .val (.bool true)), (83, .val (.int .i64 ((num n).length : Int))), (84, .val (.slice A1 (num n).length c1)), (85, .val (.int .i64 ((num n).length : Int))), (86, .val (.bool true)), (87, .val (.bool true)), (88, .val (.bool true)), (89, .val (.int .i64 0)), (90, .val (.int .i64 0)), (91, .val (.bool true)), (92, .val (.bool true)), (93, .val (.bool true)), (94, .val (.int .u64 x)), (95, .val (.int .u64 x)), (96, .val (.bool true)), (97, .val (.bool true)), (98, .val (.bool true)), (99, .val (.int .i64 y)), (100, .val (.int .i64 y)), (101, .val (.bool true)), (102, .val (.bool true)), (103, .val (.bool true)), (104, .val (.int .i64 ex)), (105, .val (.int .i64 ex)), (106, .val (.int .i64 ex)), (107, .val (.bool true)), (108, .val (.bool true)), (109, .val (.bool true)), (110, .val (.int .u32 (r4 : Int))), (111, .val (.int .u64 (r4 : Int))), (112, .val (.int .u64 (r4 : Int))), (113, .val (.bool true)), (114, .val (.bool true)), (115, .val (.bool true)), (116, .val (.int .i64 e4)), (117, .val (.int .i64 e4)), (118, .val (.int .i64 e4)), (119, .val (.bool true)), (120, .val (.bool true)), (121, .val (.bool true)), (122, .val (.int .u64 r8)), (123, .val (.int .u64 r8)), (124, .val (.bool true)), (125, .val (.bool true)), (126, .val (.bool true)), (127, .val (.int .i64 e8)), (128, .val (.int .i64 e8)), (129, .val (.int .i64 e8)), (130, .val (.bool true)), (131, .val (.bool true)), (132, .val (.bool true)), (133, .val (.int .u64 (n : Int))), (134, .val (.int .u32 ((n % 4294967296 : Nat) : Int))), (135, .res (fixL 4 (n % 4294967296))), (136, .val (.string (str (fixL 4 (n % 4294967296))))), (137, .val (.int .u64 (n : Int))), (138, .val (.int .u32 ((n % 4294967296 : Nat) : Int))), (139, .val (.int .u64 ((n % 4294967296 : Nat) : Int))), (140, .res (fixL 4 (n % 4294967296))), (141, .val (.string (str (fixL 4 (n % 4294967296))))), (142, .val (.bool true)), (143, .val (.bool true)), (144, .val (.bool true)), (145, .val (.int .u64 (n : Int))), (146, .res (fixL 8 n)), (147, .val (.string (str (fixL 8 n)))), (148, .val (.int .u64 (n : Int))), (149, .res (fixL 8 n)), (150, .val (.string (str (fixL 8 n)))), (151, .val (.bool true)), (152, .val (.bool true)), (153, .val (.bool true)), (154, .val (.bool true)), (155, .val (.bool true)), (4, .val (.bool true))]
    ⟨rfl, rfl, rfl, rfl, rfl, rfl, rfl, rfl, rfl, rfl, rfl, rfl, rfl, rfl, rfl, rfl, rfl, rfl, rfl, trivial⟩ (by kernel_rfl)
    (allOk_cons (ok_none rfl (l_mvF 5 (.val (.slice A1 (num n).length c1)) (.inl rfl) (by kernel_rfl) (by kernel_rfl) (by kernel_rfl)))
    <| allOk_cons (ok_none rfl (l_convS (.tmp 71) _ _ (.slice A1 (num n).length c1) (.string (str (num n))) rfl (hs 71 (.slice A1 (num n).length c1) (by kernel_rfl) (by kernel_rfl)) (fun w hg => hst3 w (hB35.trans (hg.mono hB35.size))) (by kernel_rfl)))
    <| allOk_cons (ok_none rfl (l_mvF 0 (.val (.int .u64 (n : Int))) (.inl rfl) (by kernel_rfl) (by kernel_rfl) (by kernel_rfl)))
    <| allOk_cons (ok_none rfl (l_call 42 _ _ rfl (enters_of Try.func42 (by kernel_rfl) rfl) #[.int .u64 (n : Int)] (.res (num n)) (args1 (hs 73 (.int .u64 (n : Int)) (by kernel_rfl) (by kernel_rfl))) (fun w hg => Reg.gives_res (refNumber_gives n hN.out w)) (by kernel_rfl)))
    <| allOk_cons (ok_none rfl (l_conv 74 (num n) rfl (by kernel_rfl) (by kernel_rfl) (by kernel_rfl)))
    <| allOk_cons (ok_none rfl (l_eqs (.tmp 72) (.tmp 75) _ _ ((str (num n))) rfl Try.underlying9 (hs 72 (.string (str (num n))) (by kernel_rfl) (by kernel_rfl)) (hs 75 (.string (str (num n))) (by kernel_rfl) (by kernel_rfl)) (by kernel_rfl)))
    <| allOk_cons (ok_none rfl (l_mvF 76 (.val (.bool true)) (.inl rfl) (by kernel_rfl) (by kernel_rfl) (by kernel_rfl)))
    <| allOk_cons (okg 6 true 77 rfl (by kernel_rfl) (by kernel_rfl) (by kernel_rfl) (l_mvF 6 (.val (.int .u64 (n : Int))) (.inl rfl) (by kernel_rfl) (by kernel_rfl) (by kernel_rfl)))
    <| allOk_cons (okg 6 true 77 rfl (by kernel_rfl) (by kernel_rfl) (by kernel_rfl) (l_mvF 0 (.val (.int .u64 (n : Int))) (.inl rfl) (by kernel_rfl) (by kernel_rfl) (by kernel_rfl)))
    <| allOk_cons (okg 6 true 77 rfl (by kernel_rfl) (by kernel_rfl) (by kernel_rfl) (l_eqi (.tmp 78) (.tmp 79) _ _ .u64 ((n : Int)) rfl Try.underlying41 (hs 78 (.int .u64 (n : Int)) (by kernel_rfl) (by kernel_rfl)) (hs 79 (.int .u64 (n : Int)) (by kernel_rfl) (by kernel_rfl)) (by kernel_rfl)))
    <| allOk_cons (ok_none rfl (l_pick (.tmp 77) (.tmp 80) (.bool true) rfl (hs 77 (.bool true) (by kernel_rfl) (by kernel_rfl)) (hs 80 (.bool true) (by kernel_rfl) (by kernel_rfl)) (by kernel_rfl)))
    <| allOk_cons (ok_none rfl (l_mvF 81 (.val (.bool true)) (.inl rfl) (by kernel_rfl) (by kernel_rfl) (by kernel_rfl)))
    <| allOk_cons (okg 11 true 82 rfl (by kernel_rfl) (by kernel_rfl) (by kernel_rfl) (l_mvF 7 (.val (.int .i64 ((num n).length : Int))) (.inl rfl) (by kernel_rfl) (by kernel_rfl) (by kernel_rfl)))
    <| allOk_cons (okg 11 true 82 rfl (by kernel_rfl) (by kernel_rfl) (by kernel_rfl) (l_mvF 5 (.val (.slice A1 (num n).length c1)) (.inl rfl) (by kernel_rfl) (by kernel_rfl) (by kernel_rfl)))
    <| allOk_cons (okg 11 true 82 rfl (by kernel_rfl) (by kernel_rfl) (by kernel_rfl) (l_len 84 _ _ _ _ (by kernel_rfl) rfl ((hs 84 (.slice A1 (num n).length c1) (by kernel_rfl) (by kernel_rfl))) (by kernel_rfl)))
    <| allOk_cons (okg 11 true 82 rfl (by kernel_rfl) (by kernel_rfl) (by kernel_rfl) (l_eqi (.tmp 83) (.tmp 85) _ _ .i64 (((num n).length : Int)) rfl Try.underlying3 (hs 83 (.int .i64 ((num n).length : Int)) (by kernel_rfl) (by kernel_rfl)) (hs 85 (.int .i64 ((num n).length : Int)) (by kernel_rfl) (by kernel_rfl)) (by kernel_rfl)))
    <| allOk_cons (ok_none rfl (l_pick (.tmp 82) (.tmp 86) (.bool true) rfl (hs 82 (.bool true) (by kernel_rfl) (by kernel_rfl)) (hs 86 (.bool true) (by kernel_rfl) (by kernel_rfl)) (by kernel_rfl)))
    <| allOk_cons (ok_none rfl (l_mvF 87 (.val (.bool true)) (.inl rfl) (by kernel_rfl) (by kernel_rfl) (by kernel_rfl)))
    <| allOk_cons (okg 17 true 88 rfl (by kernel_rfl) (by kernel_rfl) (by kernel_rfl) (l_mvF 8 (.val (.int .i64 0)) (.inl rfl) (by kernel_rfl) (by kernel_rfl) (by kernel_rfl)))
    <| allOk_cons (okg 17 true 88 rfl (by kernel_rfl) (by kernel_rfl) (by kernel_rfl) (l_call 36 _ _ rfl (enters_of Try.func36 (by kernel_rfl) rfl) #[.int .i64 0] (.val (.int .i64 0)) (args1 (hs 89 (.int .i64 0) (by kernel_rfl) (by kernel_rfl))) (fun w hg => Reg.gives_num _ w) (by kernel_rfl)))
    <| allOk_cons (okg 17 true 88 rfl (by kernel_rfl) (by kernel_rfl) (by kernel_rfl) (l_eqi (.tmp 90) (.const (Go.Value.int Go.IntKind.i64 0)) _ _ .i64 (0) rfl Try.underlying3 (hs 90 (.int .i64 0) (by kernel_rfl) (by kernel_rfl)) (hc _) (by kernel_rfl)))
    <| allOk_cons (ok_none rfl (l_pick (.tmp 88) (.tmp 91) (.bool true) rfl (hs 88 (.bool true) (by kernel_rfl) (by kernel_rfl)) (hs 91 (.bool true) (by kernel_rfl) (by kernel_rfl)) (by kernel_rfl)))
    <| allOk_cons (ok_none rfl (l_mvF 92 (.val (.bool true)) (.inl rfl) (by kernel_rfl) (by kernel_rfl) (by kernel_rfl)))
    <| allOk_cons (okg 22 true 93 rfl (by kernel_rfl) (by kernel_rfl) (by kernel_rfl) (l_mvF 9 (.val (.int .u64 x)) (.inl rfl) (by kernel_rfl) (by kernel_rfl) (by kernel_rfl)))
    <| allOk_cons (okg 22 true 93 rfl (by kernel_rfl) (by kernel_rfl) (by kernel_rfl) (l_mvF 12 (.val (.int .u64 x)) (.inl rfl) (by kernel_rfl) (by kernel_rfl) (by kernel_rfl)))
    <| allOk_cons (okg 22 true 93 rfl (by kernel_rfl) (by kernel_rfl) (by kernel_rfl) (l_eqi (.tmp 94) (.tmp 95) _ _ .u64 (x) rfl Try.underlying41 (hs 94 (.int .u64 x) (by kernel_rfl) (by kernel_rfl)) (hs 95 (.int .u64 x) (by kernel_rfl) (by kernel_rfl)) (by kernel_rfl)))
    <| allOk_cons (ok_none rfl (l_pick (.tmp 93) (.tmp 96) (.bool true) rfl (hs 93 (.bool true) (by kernel_rfl) (by kernel_rfl)) (hs 96 (.bool true) (by kernel_rfl) (by kernel_rfl)) (by kernel_rfl)))
    <| allOk_cons (ok_none rfl (l_mvF 97 (.val (.bool true)) (.inl rfl) (by kernel_rfl) (by kernel_rfl) (by kernel_rfl)))
    <| allOk_cons (okg 27 true 98 rfl (by kernel_rfl) (by kernel_rfl) (by kernel_rfl) (l_mvF 10 (.val (.int .i64 y)) (.inl rfl) (by kernel_rfl) (by kernel_rfl) (by kernel_rfl)))
    <| allOk_cons (okg 27 true 98 rfl (by kernel_rfl) (by kernel_rfl) (by kernel_rfl) (l_mvF 13 (.val (.int .i64 y)) (.inl rfl) (by kernel_rfl) (by kernel_rfl) (by kernel_rfl)))
    <| allOk_cons (okg 27 true 98 rfl (by kernel_rfl) (by kernel_rfl) (by kernel_rfl) (l_eqi (.tmp 99) (.tmp 100) _ _ .i64 (y) rfl Try.underlying3 (hs 99 (.int .i64 y) (by kernel_rfl) (by kernel_rfl)) (hs 100 (.int .i64 y) (by kernel_rfl) (by kernel_rfl)) (by kernel_rfl)))
    <| allOk_cons (ok_none rfl (l_pick (.tmp 98) (.tmp 101) (.bool true) rfl (hs 98 (.bool true) (by kernel_rfl) (by kernel_rfl)) (hs 101 (.bool true) (by kernel_rfl) (by kernel_rfl)) (by kernel_rfl)))
    <| allOk_cons (ok_none rfl (l_mvF 102 (.val (.bool true)) (.inl rfl) (by kernel_rfl) (by kernel_rfl) (by kernel_rfl)))
    <| allOk_cons (okg 32 true 103 rfl (by kernel_rfl) (by kernel_rfl) (by kernel_rfl) (l_mvF 11 (.val (.int .i64 ex)) (.inl rfl) (by kernel_rfl) (by kernel_rfl) (by kernel_rfl)))
    <| allOk_cons (okg 32 true 103 rfl (by kernel_rfl) (by kernel_rfl) (by kernel_rfl) (l_call 36 _ _ rfl (enters_of Try.func36 (by kernel_rfl) rfl) #[.int .i64 ex] (.val (.int .i64 ex)) (args1 (hs 104 (.int .i64 ex) (by kernel_rfl) (by kernel_rfl))) (fun w hg => Reg.gives_num _ w) (by kernel_rfl)))
    <| allOk_cons (okg 32 true 103 rfl (by kernel_rfl) (by kernel_rfl) (by kernel_rfl) (l_mvF 14 (.val (.int .i64 ex)) (.inl rfl) (by kernel_rfl) (by kernel_rfl) (by kernel_rfl)))
    <| allOk_cons (okg 32 true 103 rfl (by kernel_rfl) (by kernel_rfl) (by kernel_rfl) (l_eqi (.tmp 105) (.tmp 106) _ _ .i64 (ex) rfl Try.underlying3 (hs 105 (.int .i64 ex) (by kernel_rfl) (by kernel_rfl)) (hs 106 (.int .i64 ex) (by kernel_rfl) (by kernel_rfl)) (by kernel_rfl)))
    <| allOk_cons (ok_none rfl (l_pick (.tmp 103) (.tmp 107) (.bool true) rfl (hs 103 (.bool true) (by kernel_rfl) (by kernel_rfl)) (hs 107 (.bool true) (by kernel_rfl) (by kernel_rfl)) (by kernel_rfl)))
    <| allOk_cons (ok_none rfl (l_mvF 108 (.val (.bool true)) (.inl rfl) (by kernel_rfl) (by kernel_rfl) (by kernel_rfl)))
    <| allOk_cons (okg 38 true 109 rfl (by kernel_rfl) (by kernel_rfl) (by kernel_rfl) (l_mvF 15 (.val (.int .u32 (r4 : Int))) (.inl rfl) (by kernel_rfl) (by kernel_rfl) (by kernel_rfl)))
    <| allOk_cons (okg 38 true 109 rfl (by kernel_rfl) (by kernel_rfl) (by kernel_rfl) (l_convS (.tmp 110) _ _ (.int .u32 (r4 : Int)) (.int .u64 (r4 : Int)) rfl (hs 110 (.int .u32 (r4 : Int)) (by kernel_rfl) (by kernel_rfl)) (fun w hg => Reg.conv_45_41 r4 hr4 w) (by kernel_rfl)))
    <| allOk_cons (okg 38 true 109 rfl (by kernel_rfl) (by kernel_rfl) (by kernel_rfl) (l_mvF 19 (.val (.int .u64 (r4 : Int))) (.inl rfl) (by kernel_rfl) (by kernel_rfl) (by kernel_rfl)))
    <| allOk_cons (okg 38 true 109 rfl (by kernel_rfl) (by kernel_rfl) (by kernel_rfl) (l_eqi (.tmp 111) (.tmp 112) _ _ .u64 ((r4 : Int)) rfl Try.underlying41 (hs 111 (.int .u64 (r4 : Int)) (by kernel_rfl) (by kernel_rfl)) (hs 112 (.int .u64 (r4 : Int)) (by kernel_rfl) (by kernel_rfl)) (by kernel_rfl)))
    <| allOk_cons (ok_none rfl (l_pick (.tmp 109) (.tmp 113) (.bool true) rfl (hs 109 (.bool true) (by kernel_rfl) (by kernel_rfl)) (hs 113 (.bool true) (by kernel_rfl) (by kernel_rfl)) (by kernel_rfl)))
    <| allOk_cons (ok_none rfl (l_mvF 114 (.val (.bool true)) (.inl rfl) (by kernel_rfl) (by kernel_rfl) (by kernel_rfl)))
    <| allOk_cons (okg 44 true 115 rfl (by kernel_rfl) (by kernel_rfl) (by kernel_rfl) (l_mvF 16 (.val (.int .i64 e4)) (.inl rfl) (by kernel_rfl) (by kernel_rfl) (by kernel_rfl)))
    <| allOk_cons (okg 44 true 115 rfl (by kernel_rfl) (by kernel_rfl) (by kernel_rfl) (l_call 36 _ _ rfl (enters_of Try.func36 (by kernel_rfl) rfl) #[.int .i64 e4] (.val (.int .i64 e4)) (args1 (hs 116 (.int .i64 e4) (by kernel_rfl) (by kernel_rfl))) (fun w hg => Reg.gives_num _ w) (by kernel_rfl)))
    <| allOk_cons (okg 44 true 115 rfl (by kernel_rfl) (by kernel_rfl) (by kernel_rfl) (l_mvF 20 (.val (.int .i64 e4)) (.inl rfl) (by kernel_rfl) (by kernel_rfl) (by kernel_rfl)))
    <| allOk_cons (okg 44 true 115 rfl (by kernel_rfl) (by kernel_rfl) (by kernel_rfl) (l_eqi (.tmp 117) (.tmp 118) _ _ .i64 (e4) rfl Try.underlying3 (hs 117 (.int .i64 e4) (by kernel_rfl) (by kernel_rfl)) (hs 118 (.int .i64 e4) (by kernel_rfl) (by kernel_rfl)) (by kernel_rfl)))
    <| allOk_cons (ok_none rfl (l_pick (.tmp 115) (.tmp 119) (.bool true) rfl (hs 115 (.bool true) (by kernel_rfl) (by kernel_rfl)) (hs 119 (.bool true) (by kernel_rfl) (by kernel_rfl)) (by kernel_rfl)))
    <| allOk_cons (ok_none rfl (l_mvF 120 (.val (.bool true)) (.inl rfl) (by kernel_rfl) (by kernel_rfl) (by kernel_rfl)))
    <| allOk_cons (okg 50 true 121 rfl (by kernel_rfl) (by kernel_rfl) (by kernel_rfl) (l_mvF 17 (.val (.int .u64 r8)) (.inl rfl) (by kernel_rfl) (by kernel_rfl) (by kernel_rfl)))
    <| allOk_cons (okg 50 true 121 rfl (by kernel_rfl) (by kernel_rfl) (by kernel_rfl) (l_mvF 21 (.val (.int .u64 r8)) (.inl rfl) (by kernel_rfl) (by kernel_rfl) (by kernel_rfl)))
    <| allOk_cons (okg 50 true 121 rfl (by kernel_rfl) (by kernel_rfl) (by kernel_rfl) (l_eqi (.tmp 122) (.tmp 123) _ _ .u64 (r8) rfl Try.underlying41 (hs 122 (.int .u64 r8) (by kernel_rfl) (by kernel_rfl)) (hs 123 (.int .u64 r8) (by kernel_rfl) (by kernel_rfl)) (by kernel_rfl)))
    <| allOk_cons (ok_none rfl (l_pick (.tmp 121) (.tmp 124) (.bool true) rfl (hs 121 (.bool true) (by kernel_rfl) (by kernel_rfl)) (hs 124 (.bool true) (by kernel_rfl) (by kernel_rfl)) (by kernel_rfl)))
    <| allOk_cons (ok_none rfl (l_mvF 125 (.val (.bool true)) (.inl rfl) (by kernel_rfl) (by kernel_rfl) (by kernel_rfl)))
    <| allOk_cons (okg 55 true 126 rfl (by kernel_rfl) (by kernel_rfl) (by kernel_rfl) (l_mvF 18 (.val (.int .i64 e8)) (.inl rfl) (by kernel_rfl) (by kernel_rfl) (by kernel_rfl)))
    <| allOk_cons (okg 55 true 126 rfl (by kernel_rfl) (by kernel_rfl) (by kernel_rfl) (l_call 36 _ _ rfl (enters_of Try.func36 (by kernel_rfl) rfl) #[.int .i64 e8] (.val (.int .i64 e8)) (args1 (hs 127 (.int .i64 e8) (by kernel_rfl) (by kernel_rfl))) (fun w hg => Reg.gives_num _ w) (by kernel_rfl)))
    <| allOk_cons (okg 55 true 126 rfl (by kernel_rfl) (by kernel_rfl) (by kernel_rfl) (l_mvF 22 (.val (.int .i64 e8)) (.inl rfl) (by kernel_rfl) (by kernel_rfl) (by kernel_rfl)))
    <| allOk_cons (okg 55 true 126 rfl (by kernel_rfl) (by kernel_rfl) (by kernel_rfl) (l_eqi (.tmp 128) (.tmp 129) _ _ .i64 (e8) rfl Try.underlying3 (hs 128 (.int .i64 e8) (by kernel_rfl) (by kernel_rfl)) (hs 129 (.int .i64 e8) (by kernel_rfl) (by kernel_rfl)) (by kernel_rfl)))
    <| allOk_cons (ok_none rfl (l_pick (.tmp 126) (.tmp 130) (.bool true) rfl (hs 126 (.bool true) (by kernel_rfl) (by kernel_rfl)) (hs 130 (.bool true) (by kernel_rfl) (by kernel_rfl)) (by kernel_rfl)))
    <| allOk_cons (ok_none rfl (l_mvF 131 (.val (.bool true)) (.inl rfl) (by kernel_rfl) (by kernel_rfl) (by kernel_rfl)))
    <| allOk_cons (okg 61 true 132 rfl (by kernel_rfl) (by kernel_rfl) (by kernel_rfl) (l_mvF 0 (.val (.int .u64 (n : Int))) (.inl rfl) (by kernel_rfl) (by kernel_rfl) (by kernel_rfl)))
    <| allOk_cons (okg 61 true 132 rfl (by kernel_rfl) (by kernel_rfl) (by kernel_rfl) (l_convS (.tmp 133) _ _ (.int .u64 (n : Int)) (.int .u32 ((n % 4294967296 : Nat) : Int)) rfl (hs 133 (.int .u64 (n : Int)) (by kernel_rfl) (by kernel_rfl)) (fun w hg => Reg.conv_41_45 n w) (by kernel_rfl)))
    <| allOk_cons (okg 61 true 132 rfl (by kernel_rfl) (by kernel_rfl) (by kernel_rfl) (l_call 43 _ _ rfl (enters_of Try.func43 (by kernel_rfl) rfl) #[.int .u32 ((n % 4294967296 : Nat) : Int)] (.res (fixL 4 (n % 4294967296))) (args1 (hs 134 (.int .u32 ((n % 4294967296 : Nat) : Int)) (by kernel_rfl) (by kernel_rfl))) (fun w hg => Reg.gives_res (four_gives (n % 4294967296) w)) (by kernel_rfl)))
    <| allOk_cons (okg 61 true 132 rfl (by kernel_rfl) (by kernel_rfl) (by kernel_rfl) (l_conv 135 (fixL 4 (n % 4294967296)) rfl (by kernel_rfl) (by kernel_rfl) (by kernel_rfl)))
    <| allOk_cons (okg 61 true 132 rfl (by kernel_rfl) (by kernel_rfl) (by kernel_rfl) (l_mvF 0 (.val (.int .u64 (n : Int))) (.inl rfl) (by kernel_rfl) (by kernel_rfl) (by kernel_rfl)))
    <| allOk_cons (okg 61 true 132 rfl (by kernel_rfl) (by kernel_rfl) (by kernel_rfl) (l_convS (.tmp 137) _ _ (.int .u64 (n : Int)) (.int .u32 ((n % 4294967296 : Nat) : Int)) rfl (hs 137 (.int .u64 (n : Int)) (by kernel_rfl) (by kernel_rfl)) (fun w hg => Reg.conv_41_45 n w) (by kernel_rfl)))
    <| allOk_cons (okg 61 true 132 rfl (by kernel_rfl) (by kernel_rfl) (by kernel_rfl) (l_convS (.tmp 138) _ _ (.int .u32 ((n % 4294967296 : Nat) : Int)) (.int .u64 ((n % 4294967296 : Nat) : Int)) rfl (hs 138 (.int .u32 ((n % 4294967296 : Nat) : Int)) (by kernel_rfl) (by kernel_rfl)) (fun w hg => Reg.conv_45_41 _ (Nat.mod_lt _ (by decide)) w) (by kernel_rfl)))
    <| allOk_cons (okg 61 true 132 rfl (by kernel_rfl) (by kernel_rfl) (by kernel_rfl) (l_call 44 _ _ rfl (enters_of Try.func44 (by kernel_rfl) rfl) #[.int .u64 ((n % 4294967296 : Nat) : Int), (Go.Value.int Go.IntKind.i64 4)] (.res (fixL 4 (n % 4294967296))) (args2 (hs 139 (.int .u64 ((n % 4294967296 : Nat) : Int)) (by kernel_rfl) (by kernel_rfl)) (hc _)) (fun w hg => Reg.gives_res (refFixed_gives 4 (n % 4294967296) (by omega) (Nat.lt_of_le_of_lt (Nat.mod_le _ _) hN.out) w)) (by kernel_rfl)))
    <| allOk_cons (okg 61 true 132 rfl (by kernel_rfl) (by kernel_rfl) (by kernel_rfl) (l_conv 140 (fixL 4 (n % 4294967296)) rfl (by kernel_rfl) (by kernel_rfl) (by kernel_rfl)))
    <| allOk_cons (okg 61 true 132 rfl (by kernel_rfl) (by kernel_rfl) (by kernel_rfl) (l_eqs (.tmp 136) (.tmp 141) _ _ ((str (fixL 4 (n % 4294967296)))) rfl Try.underlying9 (hs 136 (.string (str (fixL 4 (n % 4294967296)))) (by kernel_rfl) (by kernel_rfl)) (hs 141 (.string (str (fixL 4 (n % 4294967296)))) (by kernel_rfl) (by kernel_rfl)) (by kernel_rfl)))
    <| allOk_cons (ok_none rfl (l_pick (.tmp 132) (.tmp 142) (.bool true) rfl (hs 132 (.bool true) (by kernel_rfl) (by kernel_rfl)) (hs 142 (.bool true) (by kernel_rfl) (by kernel_rfl)) (by kernel_rfl)))
    <| allOk_cons (ok_none rfl (l_mvF 143 (.val (.bool true)) (.inl rfl) (by kernel_rfl) (by kernel_rfl) (by kernel_rfl)))
    <| allOk_cons (okg 73 true 144 rfl (by kernel_rfl) (by kernel_rfl) (by kernel_rfl) (l_mvF 0 (.val (.int .u64 (n : Int))) (.inl rfl) (by kernel_rfl) (by kernel_rfl) (by kernel_rfl)))
    <| allOk_cons (okg 73 true 144 rfl (by kernel_rfl) (by kernel_rfl) (by kernel_rfl) (l_call 45 _ _ rfl (enters_of Try.func45 (by kernel_rfl) rfl) #[.int .u64 (n : Int)] (.res (fixL 8 n)) (args1 (hs 145 (.int .u64 (n : Int)) (by kernel_rfl) (by kernel_rfl))) (fun w hg => Reg.gives_res (eight_gives n w)) (by kernel_rfl)))
    <| allOk_cons (okg 73 true 144 rfl (by kernel_rfl) (by kernel_rfl) (by kernel_rfl) (l_conv 146 (fixL 8 n) rfl (by kernel_rfl) (by kernel_rfl) (by kernel_rfl)))
    <| allOk_cons (okg 73 true 144 rfl (by kernel_rfl) (by kernel_rfl) (by kernel_rfl) (l_mvF 0 (.val (.int .u64 (n : Int))) (.inl rfl) (by kernel_rfl) (by kernel_rfl) (by kernel_rfl)))
    <| allOk_cons (okg 73 true 144 rfl (by kernel_rfl) (by kernel_rfl) (by kernel_rfl) (l_call 44 _ _ rfl (enters_of Try.func44 (by kernel_rfl) rfl) #[.int .u64 (n : Int), (Go.Value.int Go.IntKind.i64 8)] (.res (fixL 8 n)) (args2 (hs 148 (.int .u64 (n : Int)) (by kernel_rfl) (by kernel_rfl)) (hc _)) (fun w hg => Reg.gives_res (refFixed_gives 8 n (by omega) hN.out w)) (by kernel_rfl)))
    <| allOk_cons (okg 73 true 144 rfl (by kernel_rfl) (by kernel_rfl) (by kernel_rfl) (l_conv 149 (fixL 8 n) rfl (by kernel_rfl) (by kernel_rfl) (by kernel_rfl)))
    <| allOk_cons (okg 73 true 144 rfl (by kernel_rfl) (by kernel_rfl) (by kernel_rfl) (l_eqs (.tmp 147) (.tmp 150) _ _ ((str (fixL 8 n))) rfl Try.underlying9 (hs 147 (.string (str (fixL 8 n))) (by kernel_rfl) (by kernel_rfl)) (hs 150 (.string (str (fixL 8 n))) (by kernel_rfl) (by kernel_rfl)) (by kernel_rfl)))
    <| allOk_cons (ok_none rfl (l_pick (.tmp 144) (.tmp 151) (.bool true) rfl (hs 144 (.bool true) (by kernel_rfl) (by kernel_rfl)) (hs 151 (.bool true) (by kernel_rfl) (by kernel_rfl)) (by kernel_rfl)))
    <| allOk_cons (ok_none rfl (l_mvF 152 (.val (.bool true)) (.inl rfl) (by kernel_rfl) (by kernel_rfl) (by kernel_rfl)))
    <| allOk_cons (okg 82 true 153 rfl (by kernel_rfl) (by kernel_rfl) (by kernel_rfl) (l_call 27 _ _ rfl (enters_of Try.func27 (by kernel_rfl) rfl) #[] (.val (.bool true)) (fun _ _ _ => by simp) (fun w hg => Reg.gives_works w) (by kernel_rfl)))
    <| allOk_cons (ok_none rfl (l_pick (.tmp 153) (.tmp 154) (.bool true) rfl (hs 153 (.bool true) (by kernel_rfl) (by kernel_rfl)) (hs 154 (.bool true) (by kernel_rfl) (by kernel_rfl)) (by kernel_rfl)))
    <| allOk_cons (ok_none rfl (l_mvF 155 (.val (.bool true)) (.inr rfl) (by kernel_rfl) (by kernel_rfl) (by kernel_rfl)))
    <| allOk_nil) ?_
  intro a w6 _ hdef hG hF
  have hr : a.eval (.tmp 4) = .bool true := hF 4
  have hB6 : Below w.heap.size w w6 := hB5.trans (hG.mono hB5.size)
  clear hF
  simp only [Exit.then]
  refine ‹∀ (a : Act) (w : World), Code.wp Try.prog Code.ret _ a w → _› a w6 ?_
  refine Reg.ends1 4 (.bool true) rfl hr hdef ?_
  exact ⟨rfl, hB6⟩
end Go.Proofs.Ytlelckdcmlpmdaa
