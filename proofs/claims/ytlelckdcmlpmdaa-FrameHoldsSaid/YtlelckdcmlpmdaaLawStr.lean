/- loupelaw03.OctetStrings: the walk. -/
import Derived.Test.YtlelckdcmlpmdaaOctWorks
import Derived.Test.YtlelckdcmlpmdaaLawNum
namespace Go.Proofs.Ytlelckdcmlpmdaa
open Go Go.RowKit Lou

theorem rdSV_form (l : List UInt8) : ∃ (s : ByteArray) (y e : Int), rdSV l = .tuple #[.string s, .int .i64 y, .int .i64 e] := by
  unfold rdSV
  cases rdS l with
  | none => exact ⟨_, _, _, rfl⟩
  | some p => exact ⟨_, _, _, rfl⟩
theorem rdSV_strL (ls l : List UInt8) (h : ls.length < 2 ^ 64) : rdSV (strL ls ++ l) = .tuple #[.string (str ls), .int .i64 ((strL ls).length : Int), .int .i64 0] := by
  have hr : rd (strL ls ++ l) = some (ls.length, (num ls.length).length) := by
    unfold strL
    rw [List.append_assoc]
    exact rd_num _ h _
  rw [rdSV_c hr (by simp [strL])]
  simp [strL]

/-- octet.Sum of two parts that lie in a block of two. -/
theorem sum_two (w : World) (b : Nat) (A A2 : Option Addr) (c c2 : Nat) (l l2 : List UInt8) (hin : InB w w.heap.size A c l) (hin2 : InB w w.heap.size A2 c2 l2) (hb : b < w.heap.size)
    (h0 : w.cell? ⟨b, 0, none⟩ = some (.slice A l.length c)) (h1 : w.cell? ⟨b, 1, none⟩ = some (.slice A2 l2.length c2)) :
    Calls Try.prog 29 #[.slice (some ⟨b, 0, none⟩) 2 2] w fun e W' => e = .returned (.int .u32 (sumL (l ++ l2) : Int)) ∧ Below w.heap.size w W' := by
  have H := sum_gives w (some ⟨b, 0, none⟩) 2 [⟨((A, c), l), hin⟩, ⟨((A2, c2), l2), hin2⟩] ⟨by simp, by omega, fun _ => ⟨b, 0, rfl, hb, fun j hj => by
    rcases (show j = 0 ∨ j = 1 from by simp at hj; omega) with rfl | rfl
    · exact h0
    · exact h1⟩⟩
  refine H.mono ?_
  rintro e W' ⟨rfl, hB⟩
  exact ⟨by simp [Piece.l], hB⟩

/-- A block of two slices of bytes. -/
def Two (x y : Value) (v : Value) (w : World) : Prop := ∃ b, v = .slice (some ⟨b, 0, none⟩) 2 2 ∧ b < w.heap.size ∧ w.cell? ⟨b, 0, none⟩ = some x ∧ w.cell? ⟨b, 1, none⟩ = some y
theorem two_stable (x y : Value) : ∀ v w w', Two x y v w → Grow w w' → Two x y v w' := by
  rintro v w w' ⟨b, hv, hb, h0, h1⟩ hg
  exact ⟨b, hv, Nat.lt_of_lt_of_le hb hg.size, (hg.cell (p := ⟨b, 0, none⟩) hb).trans h0, (hg.cell (p := ⟨b, 1, none⟩) hb).trans h1⟩

theorem cut_take {ρ : Operand → Value} {w : World} {o : Oper} {x y : Operand} {A : Option Addr} {c m : Nat} {l : List UInt8} (ho : o.op = .slice 30 x none (some y) none) (h1 : ρ x = .slice A l.length c) (h2 : ρ y = .int .i64 (m : Int)) (hm : m ≤ l.length) (hle : l.length ≤ c) :
    (execOp ρ o).run Try.prog w = .ok (.value (.slice A (l.take m).length c)) w := by
  have ht : Try.prog.underlying 30 = some (.slice (Try.prog.elem 30)) := by kernel_rfl
  have e1 : (l.take m).length = m := by simp; omega
  rw [e1]
  have hmc : m ≤ c := by omega
  simp [execOp, ho, h1, h2, go_sem, run_sliceAt_slice _ _ _ _ _ _ ht, Result.andThen, hmc]
theorem cut_drop {ρ : Operand → Value} {w : World} {o : Oper} {x y : Operand} {A : Option Addr} {c m : Nat} {l : List UInt8} (ho : o.op = .slice 30 x (some y) none none) (h1 : ρ x = .slice A l.length c) (h2 : ρ y = .int .i64 (m : Int)) (hm : m ≤ l.length) (hle : l.length ≤ c) :
    (execOp ρ o).run Try.prog w = .ok (.value (.slice (cutA A c m) (l.drop m).length (c - m))) w := by
  have ht : Try.prog.underlying 30 = some (.slice (Try.prog.elem 30)) := by kernel_rfl
  simp [execOp, ho, h1, h2, go_sem, run_sliceAt_slice _ _ _ _ _ _ ht, Result.andThen, hm, cutA]
theorem build_two {ρ : Operand → Value} {w : World} {o : Oper} {x y : Operand} {A A2 : Option Addr} {n n2 c c2 : Nat} (ho : o.op = .buildSlice 168 2 #[(0, x), (1, y)]) (h1 : ρ x = .slice A n c) (h2 : ρ y = .slice A2 n2 c2) :
    ∃ r w', (execOp ρ o).run Try.prog w = .ok (.value r) w' ∧ Grow w w' ∧ Two (.slice A n c) (.slice A2 n2 c2) r w' := by
  refine ⟨.slice (some ⟨w.heap.size, 0, none⟩) 2 2, w.alloc (.cells #[.slice A n c, .slice A2 n2 c2] 30), ?_, Grow.alloc _ _, w.heap.size, rfl, by simp, ?_, ?_⟩
  · simp [execOp, ho, h1, h2, go_sem, Result.andThen]
  · rw [(BlkIs.new w 30 #[.slice A n c, .slice A2 n2 c2]).cell]; rfl
  · rw [(BlkIs.new w 30 #[.slice A n c, .slice A2 n2 c2]).cell]; rfl
set_option maxRecDepth 100000 in
set_option maxHeartbeats 4000000 in
theorem lawStrings_out (ls : List UInt8) (w : World) (A : Option Addr) (c : Nat) (l : List UInt8) (k : Int) (h : InB w w.heap.size A c l) (hs : ls.length ≤ 9223372036854775807)
    (hl : 300 < ls.length ∨ (ls.length ≤ 300 ∧ 300 < l.length) ∨ (ls.length ≤ 300 ∧ l.length ≤ 300 ∧ k < 0) ∨ (ls.length ≤ 300 ∧ l.length ≤ 300 ∧ 0 ≤ k ∧ (l.length : Int) < k)) :
    Calls Try.prog 6 #[.string (str ls), .slice A l.length c, .int .i64 k] w fun e w' => e = .returned (.bool true) ∧ Below w.heap.size w w' := by
  have hle := h.le
  have hmax := h.max
  have hsz := str_size ls
  rcases hl with hl | ⟨hl, hl2⟩ | ⟨hl, hl2, hl3⟩ | ⟨hl, hl2, hl3, hl4⟩ <;>
  · go_enter Try.func6, Try.ntmps6
    go_wp2_with (go_at_call 27; refine (works3_gives _).mono ?_; rintro e w' ⟨rfl, hB⟩)
    go_ret
    exact ⟨rfl, hB⟩

set_option maxRecDepth 100000 in
set_option maxHeartbeats 4000000 in
theorem lawStrings_walk (ls : List UInt8) (w : World) (A : Option Addr) (c : Nat) (l : List UInt8) (m : Nat) (h : InB w w.heap.size A c l) (hls : ls.length ≤ 300) (hl : l.length ≤ 300) (hm : m ≤ l.length) :
    Calls Try.prog 6 #[.string (str ls), .slice A l.length c, .int .i64 m] w fun e w' => e = .returned (.bool true) ∧ Below w.heap.size w w' := by
  have hle := h.le
  have hmax := h.max
  have hsz := str_size ls
  obtain ⟨s1, y, ex, hrd⟩ := rdSV_form l
  go_enter Try.func6, Try.ntmps6
  go_wp2_with fail
  refine (string_gives ls (by omega) _).mono ?_
  rintro e w1 ⟨v, rfl, hown, hB⟩
  obtain ⟨A1, c1, rfl, hin1⟩ := hown.inB
  have hst1 := hown.toStrs
  have hin0 := h.below hB
  have e0 : OwnB (w1.alloc (.cells #[] 5)) w1.heap.size (.slice (some ⟨w1.heap.size, 0, none⟩) 0 0) [] := World.ownsRow_lit w1 #[] 0 (Nat.le_refl _) (by unfold maxLen; omega) rfl
  have hnl := num_length ls.length
  have hsl : (strL ls).length ≤ 310 := by simp [strL]; omega
  clear hnl
  have hb1 : Below w1.heap.size w1 (w1.alloc (.cells #[] 5)) := (Below.refl _ _).alloc (Nat.le_refl _) _
  go_wp2_with (first
    | (at_builtin; refine wp_appB rfl (.tmp 39) (.tmp 40) rfl w1.heap.size _ [] rfl e0 _ A1 c1 (strL ls) rfl (hin1.below hb1) (by simp; omega) (by simp) ?_; intro v2 w2 hown2 hg2; have hb2 := e0.below hb1 hg2)
    | (at_builtin; refine wp_appB rfl (.tmp 41) (.tmp 42) rfl w1.heap.size _ ([] ++ strL ls) rfl hown2 _ A c l rfl ((hin0.more hB.size).below hb2) (by simp; omega) hb2.size ?_; intro v3 w3 hown3 hg3; have hb3 := hown2.below hb2 hg3; obtain ⟨A3, c3, rfl, hin3⟩ := hown3.inB))
  have H := readString_gives w3 A3 c3 _ hin3
  rw [List.nil_append, List.length_append, rdSV_strL ls l (by omega)] at H
  have hB3 : Below w.heap.size w w3 := hB.trans (hb3.mono hB.size)
  have hst3 : ∀ W, Below w3.heap.size w3 W → (convert 30 9 (.slice A1 (strL ls).length c1)).run Try.prog W = .ok (.string (str (strL ls))) W := fun W hW => hst1 W (hb3.trans (hW.mono hb3.size))
  clear hin0 hb1 e0 hb2 hown2 hg2 hown3 hg3 hb3 hin3 hst1 hin1 hown hB
  refine H.mono ?_
  clear H
  rintro e w4 ⟨rfl, hB4⟩
  have hB4w : Below w.heap.size w w4 := hB3.trans (hB4.mono hB3.size)
  have hlv4 := (h.below hB4w).more hB4w.size
  have H2 := readString_gives w4 A c l hlv4
  rw [hrd] at H2
  go_wp2_with fail
  refine H2.mono ?_
  clear H2
  rintro e w5 ⟨rfl, hB5⟩
  have hB5w : Below w.heap.size w w5 := hB4w.trans (hB5.mono hB4w.size)
  have hlv5 := (h.below hB5w).more hB5w.size
  have H3 := refReadString_gives w5 A c l hlv5
  rw [hrd] at H3
  have hB35 : Below w3.heap.size w3 w5 := hB4.trans (hB5.mono hB4.size)
  clear hB4 hB5 hB4w hlv4
  go_wp2_with fail
  refine H3.mono ?_
  clear H3
  rintro e w' ⟨rfl, rfl⟩
  go_wp2_with fail
  have hsum : ∀ w u, Grow w5 w → Two (.slice A (l.take m).length c) (.slice (cutA A c m) (l.drop m).length (c - m)) u w → Calls Try.prog 29 #[u] w fun e w' => ∃ v, e = .returned v ∧ Grow w w' ∧ v = .int .u32 (sumL l : Int) := by
    rintro w u hg ⟨b, rfl, hb, h0, h1⟩
    have hin := (hlv5.below hg).more hg.size
    have H := sum_two w b _ _ _ _ _ _ (hin.take m c hm (by omega) (Nat.le_refl _)) (hin.drop m hm) hb h0 h1
    rw [List.take_append_drop] at H
    exact Reg.gives_grow H
  open Reg in
  refine region_facts (by kernel_rfl) (by kernel_rfl) 114 rfl (by kernel_rfl)
    [(7, .val (.slice A1 (strL ls).length c1)), (0, .val (.string (str ls))), (8, .val (.string (str ls))), (9, .val (.int .i64 ((strL ls).length : Int))), (10, .val (.int .i64 0)), (11, .val (.string s1)), (14, .val (.string s1)), (12, .val (.int .i64 y)), (15, .val (.int .i64 y)), (13, .val (.int .i64 ex)), (16, .val (.int .i64 ex)), (1, .val (.slice A l.length c)), (2, .val (.int .i64 (m : Int)))]
    [(60, .val (.slice A1 (strL ls).length c1)), (61, .val (.string (str (strL ls)))), (62, .val (.string (str ls))), (63, .res (strL ls)), (64, .val (.string (str (strL ls)))), (65, .val (.bool true)), (66, .val (.bool true)), (67, .val (.string (str ls))), (68, .val (.string (str ls))), (69, .val (.bool true)), (70, .val (.bool true)), (71, .val (.bool true)), (72, .val (.int .i64 ((strL ls).length : Int))), (73, .val (.slice A1 (strL ls).length c1)), (74, .val (.int .i64 ((strL ls).length : Int))), (75, .val (.bool true)), (76, .val (.bool true)), (77, .val (.bool true)), (78, .val (.int .i64 0)), (79, .val (.int .i64 0)), (80, .val (.bool true)), (81, .val (.bool true)), (82, .val (.bool true)), (83, .val (.string s1)), (84, .val (.string s1)), (85, .val (.bool true)), (86, .val (.bool true)), (87, .val (.bool true)), (88, .val (.int .i64 y)), (89, .val (.int .i64 y)), (90, .val (.bool true)), (91, .val (.bool true)), (92, .val (.bool true)), (93, .val (.int .i64 ex)), (94, .val (.int .i64 ex)), (95, .val (.int .i64 ex)), (96, .val (.bool true)), (97, .val (.bool true)), (98, .val (.bool true)), (99, .val (.slice A l.length c)), (100, .val (.int .i64 (m : Int))), (101, .val (.slice A (l.take m).length c)), (102, .val (.slice A l.length c)), (103, .val (.int .i64 (m : Int))), (104, .val (.slice (cutA A c m) (l.drop m).length (c - m))), (105, .pred (Two (.slice A (l.take m).length c) (.slice (cutA A c m) (l.drop m).length (c - m))) (two_stable _ _)), (106, .val (.int .u32 (sumL l : Int))), (107, .val (.slice A l.length c)), (108, .val (.int .u32 (sumL l : Int))), (109, .val (.bool true)), (110, .val (.bool true)), (111, .val (.bool true)), (112, .val (.bool true)), (113, .val (.bool true)), (6, .val (.bool true))]
    ⟨rfl, rfl, rfl, rfl, rfl, rfl, rfl, rfl, rfl, rfl, rfl, rfl, rfl, trivial⟩ (by kernel_rfl)
    (allOk_cons (ok_none rfl (l_mvF 7 (.val (.slice A1 (strL ls).length c1)) (.inl rfl) (by kernel_rfl) (by kernel_rfl) (by kernel_rfl)))
    <| allOk_cons (ok_none rfl (l_convS (.tmp 60) _ _ (.slice A1 (strL ls).length c1) (.string (str (strL ls))) rfl (hs 60 (.slice A1 (strL ls).length c1) (by kernel_rfl) (by kernel_rfl)) (fun w hg => hst3 w (hB35.trans (hg.mono hB35.size))) (by kernel_rfl)))
    <| allOk_cons (ok_none rfl (l_mvF 0 (.val (.string (str ls))) (.inl rfl) (by kernel_rfl) (by kernel_rfl) (by kernel_rfl)))
    <| allOk_cons (ok_none rfl (l_call 35 _ _ rfl (enters_of Try.func35 (by kernel_rfl) rfl) #[.string (str ls)] (.res (strL ls)) (args1 (hs 62 (.string (str ls)) (by kernel_rfl) (by kernel_rfl))) (fun w hg => Reg.gives_res (refString_gives ls (by omega) w)) (by kernel_rfl)))
    <| allOk_cons (ok_none rfl (l_conv 63 (strL ls) rfl (by kernel_rfl) (by kernel_rfl) (by kernel_rfl)))
    <| allOk_cons (ok_none rfl (l_eqs (.tmp 61) (.tmp 64) _ _ ((str (strL ls))) rfl Try.underlying9 (hs 61 (.string (str (strL ls))) (by kernel_rfl) (by kernel_rfl)) (hs 64 (.string (str (strL ls))) (by kernel_rfl) (by kernel_rfl)) (by kernel_rfl)))
    <| allOk_cons (ok_none rfl (l_mvF 65 (.val (.bool true)) (.inl rfl) (by kernel_rfl) (by kernel_rfl) (by kernel_rfl)))
    <| allOk_cons (okg 6 true 66 rfl (by kernel_rfl) (by kernel_rfl) (by kernel_rfl) (l_mvF 8 (.val (.string (str ls))) (.inl rfl) (by kernel_rfl) (by kernel_rfl) (by kernel_rfl)))
    <| allOk_cons (okg 6 true 66 rfl (by kernel_rfl) (by kernel_rfl) (by kernel_rfl) (l_mvF 0 (.val (.string (str ls))) (.inl rfl) (by kernel_rfl) (by kernel_rfl) (by kernel_rfl)))
    <| allOk_cons (okg 6 true 66 rfl (by kernel_rfl) (by kernel_rfl) (by kernel_rfl) (l_eqs (.tmp 67) (.tmp 68) _ _ ((str ls)) rfl Try.underlying9 (hs 67 (.string (str ls)) (by kernel_rfl) (by kernel_rfl)) (hs 68 (.string (str ls)) (by kernel_rfl) (by kernel_rfl)) (by kernel_rfl)))
    <| allOk_cons (ok_none rfl (l_pick (.tmp 66) (.tmp 69) (.bool true) rfl (hs 66 (.bool true) (by kernel_rfl) (by kernel_rfl)) (hs 69 (.bool true) (by kernel_rfl) (by kernel_rfl)) (by kernel_rfl)))
    <| allOk_cons (ok_none rfl (l_mvF 70 (.val (.bool true)) (.inl rfl) (by kernel_rfl) (by kernel_rfl) (by kernel_rfl)))
    <| allOk_cons (okg 11 true 71 rfl (by kernel_rfl) (by kernel_rfl) (by kernel_rfl) (l_mvF 9 (.val (.int .i64 ((strL ls).length : Int))) (.inl rfl) (by kernel_rfl) (by kernel_rfl) (by kernel_rfl)))
    <| allOk_cons (okg 11 true 71 rfl (by kernel_rfl) (by kernel_rfl) (by kernel_rfl) (l_mvF 7 (.val (.slice A1 (strL ls).length c1)) (.inl rfl) (by kernel_rfl) (by kernel_rfl) (by kernel_rfl)))
    <| allOk_cons (okg 11 true 71 rfl (by kernel_rfl) (by kernel_rfl) (by kernel_rfl) (l_len 73 _ _ _ _ (by kernel_rfl) rfl ((hs 73 (.slice A1 (strL ls).length c1) (by kernel_rfl) (by kernel_rfl))) (by kernel_rfl)))
    <| allOk_cons (okg 11 true 71 rfl (by kernel_rfl) (by kernel_rfl) (by kernel_rfl) (l_eqi (.tmp 72) (.tmp 74) _ _ .i64 (((strL ls).length : Int)) rfl Try.underlying3 (hs 72 (.int .i64 ((strL ls).length : Int)) (by kernel_rfl) (by kernel_rfl)) (hs 74 (.int .i64 ((strL ls).length : Int)) (by kernel_rfl) (by kernel_rfl)) (by kernel_rfl)))
    <| allOk_cons (ok_none rfl (l_pick (.tmp 71) (.tmp 75) (.bool true) rfl (hs 71 (.bool true) (by kernel_rfl) (by kernel_rfl)) (hs 75 (.bool true) (by kernel_rfl) (by kernel_rfl)) (by kernel_rfl)))
    <| allOk_cons (ok_none rfl (l_mvF 76 (.val (.bool true)) (.inl rfl) (by kernel_rfl) (by kernel_rfl) (by kernel_rfl)))
    <| allOk_cons (okg 17 true 77 rfl (by kernel_rfl) (by kernel_rfl) (by kernel_rfl) (l_mvF 10 (.val (.int .i64 0)) (.inl rfl) (by kernel_rfl) (by kernel_rfl) (by kernel_rfl)))
    <| allOk_cons (okg 17 true 77 rfl (by kernel_rfl) (by kernel_rfl) (by kernel_rfl) (l_call 36 _ _ rfl (enters_of Try.func36 (by kernel_rfl) rfl) #[.int .i64 0] (.val (.int .i64 0)) (args1 (hs 78 (.int .i64 0) (by kernel_rfl) (by kernel_rfl))) (fun w hg => Reg.gives_num _ w) (by kernel_rfl)))
    <| allOk_cons (okg 17 true 77 rfl (by kernel_rfl) (by kernel_rfl) (by kernel_rfl) (l_eqi (.tmp 79) (.const (Go.Value.int Go.IntKind.i64 0)) _ _ .i64 (0) rfl Try.underlying3 (hs 79 (.int .i64 0) (by kernel_rfl) (by kernel_rfl)) (hc _) (by kernel_rfl)))
    <| allOk_cons (ok_none rfl (l_pick (.tmp 77) (.tmp 80) (.bool true) rfl (hs 77 (.bool true) (by kernel_rfl) (by kernel_rfl)) (hs 80 (.bool true) (by kernel_rfl) (by kernel_rfl)) (by kernel_rfl)))
    <| allOk_cons (ok_none rfl (l_mvF 81 (.val (.bool true)) (.inl rfl) (by kernel_rfl) (by kernel_rfl) (by kernel_rfl)))
    <| allOk_cons (okg 22 true 82 rfl (by kernel_rfl) (by kernel_rfl) (by kernel_rfl) (l_mvF 11 (.val (.string s1)) (.inl rfl) (by kernel_rfl) (by kernel_rfl) (by kernel_rfl)))
    <| allOk_cons (okg 22 true 82 rfl (by kernel_rfl) (by kernel_rfl) (by kernel_rfl) (l_mvF 14 (.val (.string s1)) (.inl rfl) (by kernel_rfl) (by kernel_rfl) (by kernel_rfl)))
    <| allOk_cons (okg 22 true 82 rfl (by kernel_rfl) (by kernel_rfl) (by kernel_rfl) (l_eqs (.tmp 83) (.tmp 84) _ _ (s1) rfl Try.underlying9 (hs 83 (.string s1) (by kernel_rfl) (by kernel_rfl)) (hs 84 (.string s1) (by kernel_rfl) (by kernel_rfl)) (by kernel_rfl)))
    <| allOk_cons (ok_none rfl (l_pick (.tmp 82) (.tmp 85) (.bool true) rfl (hs 82 (.bool true) (by kernel_rfl) (by kernel_rfl)) (hs 85 (.bool true) (by kernel_rfl) (by kernel_rfl)) (by kernel_rfl)))
    <| allOk_cons (ok_none rfl (l_mvF 86 (.val (.bool true)) (.inl rfl) (by kernel_rfl) (by kernel_rfl) (by kernel_rfl)))
    <| allOk_cons (okg 27 true 87 rfl (by kernel_rfl) (by kernel_rfl) (by kernel_rfl) (l_mvF 12 (.val (.int .i64 y)) (.inl rfl) (by kernel_rfl) (by kernel_rfl) (by kernel_rfl)))
    <| allOk_cons (okg 27 true 87 rfl (by kernel_rfl) (by kernel_rfl) (by kernel_rfl) (l_mvF 15 (.val (.int .i64 y)) (.inl rfl) (by kernel_rfl) (by kernel_rfl) (by kernel_rfl)))
    <| allOk_cons (okg 27 true 87 rfl (by kernel_rfl) (by kernel_rfl) (by kernel_rfl) (l_eqi (.tmp 88) (.tmp 89) _ _ .i64 (y) rfl Try.underlying3 (hs 88 (.int .i64 y) (by kernel_rfl) (by kernel_rfl)) (hs 89 (.int .i64 y) (by kernel_rfl) (by kernel_rfl)) (by kernel_rfl)))
    <| allOk_cons (ok_none rfl (l_pick (.tmp 87) (.tmp 90) (.bool true) rfl (hs 87 (.bool true) (by kernel_rfl) (by kernel_rfl)) (hs 90 (.bool true) (by kernel_rfl) (by kernel_rfl)) (by kernel_rfl)))
    <| allOk_cons (ok_none rfl (l_mvF 91 (.val (.bool true)) (.inl rfl) (by kernel_rfl) (by kernel_rfl) (by kernel_rfl)))
    <| allOk_cons (okg 32 true 92 rfl (by kernel_rfl) (by kernel_rfl) (by kernel_rfl) (l_mvF 13 (.val (.int .i64 ex)) (.inl rfl) (by kernel_rfl) (by kernel_rfl) (by kernel_rfl)))
    <| allOk_cons (okg 32 true 92 rfl (by kernel_rfl) (by kernel_rfl) (by kernel_rfl) (l_call 36 _ _ rfl (enters_of Try.func36 (by kernel_rfl) rfl) #[.int .i64 ex] (.val (.int .i64 ex)) (args1 (hs 93 (.int .i64 ex) (by kernel_rfl) (by kernel_rfl))) (fun w hg => Reg.gives_num _ w) (by kernel_rfl)))
    <| allOk_cons (okg 32 true 92 rfl (by kernel_rfl) (by kernel_rfl) (by kernel_rfl) (l_mvF 16 (.val (.int .i64 ex)) (.inl rfl) (by kernel_rfl) (by kernel_rfl) (by kernel_rfl)))
    <| allOk_cons (okg 32 true 92 rfl (by kernel_rfl) (by kernel_rfl) (by kernel_rfl) (l_eqi (.tmp 94) (.tmp 95) _ _ .i64 (ex) rfl Try.underlying3 (hs 94 (.int .i64 ex) (by kernel_rfl) (by kernel_rfl)) (hs 95 (.int .i64 ex) (by kernel_rfl) (by kernel_rfl)) (by kernel_rfl)))
    <| allOk_cons (ok_none rfl (l_pick (.tmp 92) (.tmp 96) (.bool true) rfl (hs 92 (.bool true) (by kernel_rfl) (by kernel_rfl)) (hs 96 (.bool true) (by kernel_rfl) (by kernel_rfl)) (by kernel_rfl)))
    <| allOk_cons (ok_none rfl (l_mvF 97 (.val (.bool true)) (.inl rfl) (by kernel_rfl) (by kernel_rfl) (by kernel_rfl)))
    <| allOk_cons (okg 38 true 98 rfl (by kernel_rfl) (by kernel_rfl) (by kernel_rfl) (l_mvF 1 (.val (.slice A l.length c)) (.inl rfl) (by kernel_rfl) (by kernel_rfl) (by kernel_rfl)))
    <| allOk_cons (okg 38 true 98 rfl (by kernel_rfl) (by kernel_rfl) (by kernel_rfl) (l_mvF 2 (.val (.int .i64 (m : Int))) (.inl rfl) (by kernel_rfl) (by kernel_rfl) (by kernel_rfl)))
    <| allOk_cons (okg 38 true 98 rfl (by kernel_rfl) (by kernel_rfl) (by kernel_rfl) (l_run2W (.tmp 99) (.tmp 100) (.val (.slice A (l.take m).length c)) (.slice A l.length c) (.int .i64 (m : Int)) (hs 99 _ (by kernel_rfl) (by kernel_rfl)) (hs 100 _ (by kernel_rfl) (by kernel_rfl)) (fun ρ w hg h1 h2 => ⟨_, w, cut_take rfl h1 h2 hm hle, Grow.refl _, rfl⟩) (by kernel_rfl)))
    <| allOk_cons (okg 38 true 98 rfl (by kernel_rfl) (by kernel_rfl) (by kernel_rfl) (l_mvF 1 (.val (.slice A l.length c)) (.inl rfl) (by kernel_rfl) (by kernel_rfl) (by kernel_rfl)))
    <| allOk_cons (okg 38 true 98 rfl (by kernel_rfl) (by kernel_rfl) (by kernel_rfl) (l_mvF 2 (.val (.int .i64 (m : Int))) (.inl rfl) (by kernel_rfl) (by kernel_rfl) (by kernel_rfl)))
    <| allOk_cons (okg 38 true 98 rfl (by kernel_rfl) (by kernel_rfl) (by kernel_rfl) (l_run2W (.tmp 102) (.tmp 103) (.val (.slice (cutA A c m) (l.drop m).length (c - m))) (.slice A l.length c) (.int .i64 (m : Int)) (hs 102 _ (by kernel_rfl) (by kernel_rfl)) (hs 103 _ (by kernel_rfl) (by kernel_rfl)) (fun ρ w hg h1 h2 => ⟨_, w, cut_drop rfl h1 h2 hm hle, Grow.refl _, rfl⟩) (by kernel_rfl)))
    <| allOk_cons (okg 38 true 98 rfl (by kernel_rfl) (by kernel_rfl) (by kernel_rfl) (l_run2W (.tmp 101) (.tmp 104) (.pred (Two (.slice A (l.take m).length c) (.slice (cutA A c m) (l.drop m).length (c - m))) (two_stable _ _)) (.slice A (l.take m).length c) (.slice (cutA A c m) (l.drop m).length (c - m)) (hs 101 _ (by kernel_rfl) (by kernel_rfl)) (hs 104 _ (by kernel_rfl) (by kernel_rfl)) (fun ρ w hg h1 h2 => build_two rfl h1 h2) (by kernel_rfl)))
    <| allOk_cons (okg 38 true 98 rfl (by kernel_rfl) (by kernel_rfl) (by kernel_rfl) (l_callP 29 105 (Two (.slice A (l.take m).length c) (.slice (cutA A c m) (l.drop m).length (c - m))) (two_stable _ _) _ rfl (enters_of Try.func29 (by kernel_rfl) rfl) (.val (.int .u32 (sumL l : Int))) (by kernel_rfl) (by kernel_rfl) (fun w u hg hu => hsum w u hg hu) (by kernel_rfl)))
    <| allOk_cons (okg 38 true 98 rfl (by kernel_rfl) (by kernel_rfl) (by kernel_rfl) (l_mvF 1 (.val (.slice A l.length c)) (.inl rfl) (by kernel_rfl) (by kernel_rfl) (by kernel_rfl)))
    <| allOk_cons (okg 38 true 98 rfl (by kernel_rfl) (by kernel_rfl) (by kernel_rfl) (l_call 37 _ _ rfl (enters_of Try.func37 (by kernel_rfl) rfl) #[.slice A l.length c] (.val (.int .u32 (sumL l : Int))) (args1 (hs 107 (.slice A l.length c) (by kernel_rfl) (by kernel_rfl))) (fun w hg => Reg.gives_same (refSum_gives w _ A c l ((hlv5.below hg).more hg.size))) (by kernel_rfl)))
    <| allOk_cons (okg 38 true 98 rfl (by kernel_rfl) (by kernel_rfl) (by kernel_rfl) (l_eqi (.tmp 106) (.tmp 108) _ _ .u32 ((sumL l : Int)) rfl Try.underlying45 (hs 106 (.int .u32 (sumL l : Int)) (by kernel_rfl) (by kernel_rfl)) (hs 108 (.int .u32 (sumL l : Int)) (by kernel_rfl) (by kernel_rfl)) (by kernel_rfl)))
    <| allOk_cons (ok_none rfl (l_pick (.tmp 98) (.tmp 109) (.bool true) rfl (hs 98 (.bool true) (by kernel_rfl) (by kernel_rfl)) (hs 109 (.bool true) (by kernel_rfl) (by kernel_rfl)) (by kernel_rfl)))
    <| allOk_cons (ok_none rfl (l_mvF 110 (.val (.bool true)) (.inl rfl) (by kernel_rfl) (by kernel_rfl) (by kernel_rfl)))
    <| allOk_cons (okg 51 true 111 rfl (by kernel_rfl) (by kernel_rfl) (by kernel_rfl) (l_call 27 _ _ rfl (enters_of Try.func27 (by kernel_rfl) rfl) #[] (.val (.bool true)) (fun _ _ _ => by simp) (fun w hg => Reg.gives_works w) (by kernel_rfl)))
    <| allOk_cons (ok_none rfl (l_pick (.tmp 111) (.tmp 112) (.bool true) rfl (hs 111 (.bool true) (by kernel_rfl) (by kernel_rfl)) (hs 112 (.bool true) (by kernel_rfl) (by kernel_rfl)) (by kernel_rfl)))
    <| allOk_cons (ok_none rfl (l_mvF 113 (.val (.bool true)) (.inr rfl) (by kernel_rfl) (by kernel_rfl) (by kernel_rfl)))
    <| allOk_nil) ?_
  intro a w6 _ hdef hG hF
  have hr : a.eval (.tmp 6) = .bool true := hF 6
  have hB6 : Below w.heap.size w w6 := hB5w.trans (hG.mono hB5w.size)
  clear hF
  simp only [Exit.then]
  refine ‹∀ (a : Act) (w : World), Code.wp Try.prog Code.ret _ a w → _› a w6 ?_
  refine Reg.ends1 6 (.bool true) rfl hr hdef ?_
  exact ⟨rfl, hB6⟩
end Go.Proofs.Ytlelckdcmlpmdaa
