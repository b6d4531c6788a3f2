/- Texts that the proof of NodeReads leans on, part 8. -/
import Derived.Stop.BytesEq
import Derived.OrdersHeld
import Derived.Test.YtlelckdcmlpmdaaNodeReadsB7
/- loupelaw03.OctetStrings: the walk. -/
namespace Go.Proofs.Ytlelckdcmlpmdaa
open Go Go.RowKit Lou

theorem rdSV_form (l : List UInt8) : ∃ (s : ByteArray) (y e : Int), rdSV l = .tuple #[.string s, .int .i64 y, .int .i64 e] := by
  unfold rdSV
  cases rdS l with
  | none => exact ⟨_, _, _, rfl⟩
  | some p => exact ⟨_, _, _, rfl⟩
theorem rdSV_strL (ls l : List UInt8) (h : ls.length < 2 ^ 64) : rdSV (strL ls ++ l) = .tuple #[.string (str ls), .int .i64 ((strL ls).length : Int), .int .i64 0] := by
  have hr : rd (strL ls ++ l) = some (ls.length, (num ls.length).length) := by
    unfold strL
    rw [List.append_assoc]
    exact rd_num _ h _
  rw [rdSV_c hr (by simp [strL])]
  simp [strL]

/-- octet.Sum of two parts that lie in a block of two. -/
theorem sum_two (w : World) (b : Nat) (A A2 : Option Addr) (c c2 : Nat) (l l2 : List UInt8) (hin : InB w w.heap.size A c l) (hin2 : InB w w.heap.size A2 c2 l2) (hb : b < w.heap.size)
    (h0 : w.cell? ⟨b, 0, none⟩ = some (.slice A l.length c)) (h1 : w.cell? ⟨b, 1, none⟩ = some (.slice A2 l2.length c2)) :
    Calls Try.prog 29 #[.slice (some ⟨b, 0, none⟩) 2 2] w fun e W' => e = .returned (.int .u32 (sumL (l ++ l2) : Int)) ∧ Below w.heap.size w W' := by
  have H := sum_gives w (some ⟨b, 0, none⟩) 2 [⟨((A, c), l), hin⟩, ⟨((A2, c2), l2), hin2⟩] ⟨by simp, by omega, fun _ => ⟨b, 0, rfl, hb, fun j hj => by
    rcases (show j = 0 ∨ j = 1 from by simp at hj; omega) with rfl | rfl
    · exact h0
    · exact h1⟩⟩
  refine H.mono ?_
  rintro e W' ⟨rfl, hB⟩
  exact ⟨by simp [Piece.l], hB⟩

/-- A block of two slices of bytes. -/
def Two (x y : Value) (v : Value) (w : World) : Prop := ∃ b, v = .slice (some ⟨b, 0, none⟩) 2 2 ∧ b < w.heap.size ∧ w.cell? ⟨b, 0, none⟩ = some x ∧ w.cell? ⟨b, 1, none⟩ = some y
theorem two_stable (x y : Value) : ∀ v w w', Two x y v w → Grow w w' → Two x y v w' := by
  rintro v w w' ⟨b, hv, hb, h0, h1⟩ hg
  exact ⟨b, hv, Nat.lt_of_lt_of_le hb hg.size, (hg.cell (p := ⟨b, 0, none⟩) hb).trans h0, (hg.cell (p := ⟨b, 1, none⟩) hb).trans h1⟩

theorem cut_take {ρ : Operand → Value} {w : World} {o : Oper} {x y : Operand} {A : Option Addr} {c m : Nat} {l : List UInt8} (ho : o.op = .slice 30 x none (some y) none) (h1 : ρ x = .slice A l.length c) (h2 : ρ y = .int .i64 (m : Int)) (hm : m ≤ l.length) (hle : l.length ≤ c) :
    (execOp ρ o).run Try.prog w = .ok (.value (.slice A (l.take m).length c)) w := by
  have ht : Try.prog.underlying 30 = some (.slice (Try.prog.elem 30)) := by kernel_rfl
  have e1 : (l.take m).length = m := by simp; omega
  rw [e1]
  have hmc : m ≤ c := by omega
  simp [execOp, ho, h1, h2, go_sem, run_sliceAt_slice _ _ _ _ _ _ ht, Result.andThen, hmc]
theorem cut_drop {ρ : Operand → Value} {w : World} {o : Oper} {x y : Operand} {A : Option Addr} {c m : Nat} {l : List UInt8} (ho : o.op = .slice 30 x (some y) none none) (h1 : ρ x = .slice A l.length c) (h2 : ρ y = .int .i64 (m : Int)) (hm : m ≤ l.length) (hle : l.length ≤ c) :
    (execOp ρ o).run Try.prog w = .ok (.value (.slice (cutA A c m) (l.drop m).length (c - m))) w := by
  have ht : Try.prog.underlying 30 = some (.slice (Try.prog.elem 30)) := by kernel_rfl
  simp [execOp, ho, h1, h2, go_sem, run_sliceAt_slice _ _ _ _ _ _ ht, Result.andThen, hm, cutA]
theorem build_two {ρ : Operand → Value} {w : World} {o : Oper} {x y : Operand} {A A2 : Option Addr} {n n2 c c2 : Nat} (ho : o.op = .buildSlice 168 2 #[(0, x), (1, y)]) (h1 : ρ x = .slice A n c) (h2 : ρ y = .slice A2 n2 c2) :
    ∃ r w', (execOp ρ o).run Try.prog w = .ok (.value r) w' ∧ Grow w w' ∧ Two (.slice A n c) (.slice A2 n2 c2) r w' := by
  refine ⟨.slice (some ⟨w.heap.size, 0, none⟩) 2 2, w.alloc (.cells #[.slice A n c, .slice A2 n2 c2] 30), ?_, Grow.alloc _ _, w.heap.size, rfl, by simp, ?_, ?_⟩
  · simp [execOp, ho, h1, h2, go_sem, Result.andThen]
  · rw [(BlkIs.new w 30 #[.slice A n c, .slice A2 n2 c2]).cell]; rfl
  · rw [(BlkIs.new w 30 #[.slice A n c, .slice A2 n2 c2]).cell]; rfl
set_option maxRecDepth 100000 in
set_option maxHeartbeats 4000000 in
theorem lawStrings_out (ls : List UInt8) (w : World) (A : Option Addr) (c : Nat) (l : List UInt8) (k : Int) (h : InB w w.heap.size A c l) (hs : ls.length ≤ 9223372036854775807)
    (hl : 300 < ls.length ∨ (ls.length ≤ 300 ∧ 300 < l.length) ∨ (ls.length ≤ 300 ∧ l.length ≤ 300 ∧ k < 0) ∨ (ls.length ≤ 300 ∧ l.length ≤ 300 ∧ 0 ≤ k ∧ (l.length : Int) < k)) :
    Calls Try.prog 6 #[.string (str ls), .slice A l.length c, .int .i64 k] w fun e w' => e = .returned (.bool true) ∧ Below w.heap.size w w' := by
  have hle := h.le
  have hmax := h.max
  have hsz := str_size ls
  rcases hl with hl | ⟨hl, hl2⟩ | ⟨hl, hl2, hl3⟩ | ⟨hl, hl2, hl3, hl4⟩ <;>
  · go_enter Try.func6, Try.ntmps6
    go_wp2_with (go_at_call 27; refine (works3_gives _).mono ?_; rintro e w' ⟨rfl, hB⟩)
    go_ret
    exact ⟨rfl, hB⟩

set_option maxRecDepth 100000 in
set_option maxHeartbeats 4000000 in
theorem lawStrings_walk (ls : List UInt8) (w : World) (A : Option Addr) (c : Nat) (l : List UInt8) (m : Nat) (h : InB w w.heap.size A c l) (hls : ls.length ≤ 300) (hl : l.length ≤ 300) (hm : m ≤ l.length) :
    Calls Try.prog 6 #[.string (str ls), .slice A l.length c, .int .i64 m] w fun e w' => e = .returned (.bool true) ∧ Below w.heap.size w w' := by
  have hle := h.le
  have hmax := h.max
  have hsz := str_size ls
  obtain ⟨s1, y, ex, hrd⟩ := rdSV_form l
  go_enter Try.func6, Try.ntmps6
  go_wp2_with fail
  refine (string_gives ls (by omega) _).mono ?_
  rintro e w1 ⟨v, rfl, hown, hB⟩
  obtain ⟨A1, c1, rfl, hin1⟩ := hown.inB
  have hst1 := hown.toStrs
  have hin0 := h.below hB
  have e0 : OwnB (w1.alloc (.cells #[] 5)) w1.heap.size (.slice (some ⟨w1.heap.size, 0, none⟩) 0 0) [] := World.ownsRow_lit w1 #[] 0 (Nat.le_refl _) (by unfold maxLen; omega) rfl
  have hnl := num_length ls.length
  have hsl : (strL ls).length ≤ 310 := by simp [strL]; omega
  clear hnl
  have hb1 : Below w1.heap.size w1 (w1.alloc (.cells #[] 5)) := (Below.refl _ _).alloc (Nat.le_refl _) _
  go_wp2_with (first
    | (at_builtin; refine wp_appB rfl (.tmp 39) (.tmp 40) rfl w1.heap.size _ [] rfl e0 _ A1 c1 (strL ls) rfl (hin1.below hb1) (by simp; omega) (by simp) ?_; intro v2 w2 hown2 hg2; have hb2 := e0.below hb1 hg2)
    | (at_builtin; refine wp_appB rfl (.tmp 41) (.tmp 42) rfl w1.heap.size _ ([] ++ strL ls) rfl hown2 _ A c l rfl ((hin0.more hB.size).below hb2) (by simp; omega) hb2.size ?_; intro v3 w3 hown3 hg3; have hb3 := hown2.below hb2 hg3; obtain ⟨A3, c3, rfl, hin3⟩ := hown3.inB))
  have H := readString_gives w3 A3 c3 _ hin3
  rw [List.nil_append, List.length_append, rdSV_strL ls l (by omega)] at H
  have hB3 : Below w.heap.size w w3 := hB.trans (hb3.mono hB.size)
  have hst3 : ∀ W, Below w3.heap.size w3 W → (convert 30 9 (.slice A1 (strL ls).length c1)).run Try.prog W = .ok (.string (str (strL ls))) W := fun W hW => hst1 W (hb3.trans (hW.mono hb3.size))
  clear hin0 hb1 e0 hb2 hown2 hg2 hown3 hg3 hb3 hin3 hst1 hin1 hown hB
  refine H.mono ?_
  clear H
  rintro e w4 ⟨rfl, hB4⟩
  have hB4w : Below w.heap.size w w4 := hB3.trans (hB4.mono hB3.size)
  have hlv4 := (h.below hB4w).more hB4w.size
  have H2 := readString_gives w4 A c l hlv4
  rw [hrd] at H2
  go_wp2_with fail
  refine H2.mono ?_
  clear H2
  rintro e w5 ⟨rfl, hB5⟩
  have hB5w : Below w.heap.size w w5 := hB4w.trans (hB5.mono hB4w.size)
  have hlv5 := (h.below hB5w).more hB5w.size
  have H3 := refReadString_gives w5 A c l hlv5
  rw [hrd] at H3
  have hB35 : Below w3.heap.size w3 w5 := hB4.trans (hB5.mono hB4.size)
  clear hB4 hB5 hB4w hlv4
  go_wp2_with fail
  refine H3.mono ?_
  clear H3
  rintro e w' ⟨rfl, rfl⟩
  go_wp2_with fail
  have hsum : ∀ w u, Grow w5 w → Two (.slice A (l.take m).length c) (.slice (cutA A c m) (l.drop m).length (c - m)) u w → Calls Try.prog 29 #[u] w fun e w' => ∃ v, e = .returned v ∧ Grow w w' ∧ v = .int .u32 (sumL l : Int) := by
    rintro w u hg ⟨b, rfl, hb, h0, h1⟩
    have hin := (hlv5.below hg).more hg.size
    have H := sum_two w b _ _ _ _ _ _ (hin.take m c hm (by omega) (Nat.le_refl _)) (hin.drop m hm) hb h0 h1
    rw [List.take_append_drop] at H
    exact Reg.gives_grow H
  open Reg in
  refine region_facts (by kernel_rfl) (by kernel_rfl) 114 rfl (by kernel_rfl)
    [(7, .val (.slice A1 (strL ls).length c1)), (0, .val (.string (str ls))), (8, .val (.string (str ls))), (9, .val (.int .i64 ((strL ls).length : Int))), (10, .val (.int .i64 0)), (11, .val (.string s1)), (14, .val (.string s1)), (12, .val (.int .i64 y)), (15, .val (.int .i64 y)), (13, .val (.int .i64 ex)), (16, .val (.int .i64 ex)), (1, .val (.slice A l.length c)), (2, .val (.int .i64 (m : Int)))]
    [(60, .val (.slice A1 (strL ls).length c1)), (61, .val (.string (str (strL ls)))), (62, .val (.string (str ls))), (63, .res (strL ls)), (64, .val (.string (str (strL ls)))), (65, .val (.bool true)), (66, .val (.bool true)), (67, .val (.string (str ls))), (68, .val (.string (str ls))), (69, .val (.bool true)), (70, .val (.bool true)), (71, .val (.bool true)), (72, .val (.int .i64 ((strL ls).length : Int))), (73, .val (.slice A1 (strL ls).length c1)), (74, .val (.int .i64 ((strL ls).length : Int))), (75, .val (.bool true)), (76, .val (.bool true)), (77, .val (.bool true)), (78, .val (.int .i64 0)), (79, .val (.int .i64 0)), (80, .val (.bool true)), (81, .val (.bool true)), (82, .val (.bool true)), (83, .val (.string s1)), (84, .val (.string s1)), (85, .val (.bool true)), (86, .val (.bool true)), (87, .val (.bool true)), (88, .val (.int .i64 y)), (89, .val (.int .i64 y)), (90, .val (.bool true)), (91, .val (.bool true)), (92, .val (.bool true)), (93, .val (.int .i64 ex)), (94, .val (.int .i64 ex)), (95, .val (.int .i64 ex)), (96, .val (.bool true)), (97, .val (.bool true)), (98, .val (.bool true)), (99, .val (.slice A l.length c)), (100, .val (.int .i64 (m : Int))), (101, .val (.slice A (l.take m).length c)), (102, .val (.slice A l.length c)), (103, .val (.int .i64 (m : Int))), (104, .val (.slice (cutA A c m) (l.drop m).length (c - m))), (105, .pred (Two (.slice A (l.take m).length c) (.slice (cutA A c m) (l.drop m).length (c - m))) (two_stable _ _)), (106, .val (.int .u32 (sumL l : Int))), (107, .val (.slice A l.length c)), (108, .val (.int .u32 (sumL l : Int))), (109, .val (.bool true)), (110, .val (.bool true)), (111, .val (.bool true)), (112, .val (.bool true)), (113, .val (.bool true)), (6, .val (.bool true))]
    ⟨rfl, rfl, rfl, rfl, rfl, rfl, rfl, rfl, rfl, rfl, rfl, rfl, rfl, trivial⟩ (by kernel_rfl)
    (allOk_cons (ok_none rfl (l_mvF 7 (.val (.slice A1 (strL ls).length c1)) (.inl rfl) (by kernel_rfl) (by kernel_rfl) (by kernel_rfl)))
    <| allOk_cons (ok_none rfl (l_convS (.tmp 60) _ _ (.slice A1 (strL ls).length c1) (.string (str (strL ls))) rfl (hs 60 (.slice A1 (strL ls).length c1) (by kernel_rfl) (by kernel_rfl)) (fun w hg => hst3 w (hB35.trans (hg.mono hB35.size))) (by kernel_rfl)))
    <| allOk_cons (ok_none rfl (l_mvF 0 (.val (.string (str ls))) (.inl rfl) (by kernel_rfl) (by kernel_rfl) (by kernel_rfl)))
    <| allOk_cons (ok_none rfl (l_call 35 _ _ rfl (enters_of Try.func35 (by kernel_rfl) rfl) #[.string (str ls)] (.res (strL ls)) (args1 (hs 62 (.string (str ls)) (by kernel_rfl) (by kernel_rfl))) (fun w hg => Reg.gives_res (refString_gives ls (by omega) w)) (by kernel_rfl)))
    <| allOk_cons (ok_none rfl (l_conv 63 (strL ls) rfl (by kernel_rfl) (by kernel_rfl) (by kernel_rfl)))
    <| allOk_cons (ok_none rfl (l_eqs (.tmp 61) (.tmp 64) _ _ ((str (strL ls))) rfl Try.underlying9 (hs 61 (.string (str (strL ls))) (by kernel_rfl) (by kernel_rfl)) (hs 64 (.string (str (strL ls))) (by kernel_rfl) (by kernel_rfl)) (by kernel_rfl)))
    <| allOk_cons (ok_none rfl (l_mvF 65 (.val (.bool true)) (.inl rfl) (by kernel_rfl) (by kernel_rfl) (by kernel_rfl)))
    <| allOk_cons (okg 6 true 66 rfl (by kernel_rfl) (by kernel_rfl) (by kernel_rfl) (l_mvF 8 (.val (.string (str ls))) (.inl rfl) (by kernel_rfl) (by kernel_rfl) (by kernel_rfl)))
    <| allOk_cons (okg 6 true 66 rfl (by kernel_rfl) (by kernel_rfl) (by kernel_rfl) (l_mvF 0 (.val (.string (str ls))) (.inl rfl) (by kernel_rfl) (by kernel_rfl) (by kernel_rfl)))
    <| allOk_cons (okg 6 true 66 rfl (by kernel_rfl) (by kernel_rfl) (by kernel_rfl) (l_eqs (.tmp 67) (.tmp 68) _ _ ((str ls)) rfl Try.underlying9 (hs 67 (.string (str ls)) (by kernel_rfl) (by kernel_rfl)) (hs 68 (.string (str ls)) (by kernel_rfl) (by kernel_rfl)) (by kernel_rfl)))
    <| allOk_cons (ok_none rfl (l_pick (.tmp 66) (.tmp 69) (.bool true) rfl (hs 66 (.bool true) (by kernel_rfl) (by kernel_rfl)) (hs 69 (.bool true) (by kernel_rfl) (by kernel_rfl)) (by kernel_rfl)))
    <| allOk_cons (ok_none rfl (l_mvF 70 (.val (.bool true)) (.inl rfl) (by kernel_rfl) (by kernel_rfl) (by kernel_rfl)))
    <| allOk_cons (okg 11 true 71 rfl (by kernel_rfl) (by kernel_rfl) (by kernel_rfl) (l_mvF 9 (.val (.int .i64 ((strL ls).length : Int))) (.inl rfl) (by kernel_rfl) (by kernel_rfl) (by kernel_rfl)))
    <| allOk_cons (okg 11 true 71 rfl (by kernel_rfl) (by kernel_rfl) (by kernel_rfl) (l_mvF 7 (.val (.slice A1 (strL ls).length c1)) (.inl rfl) (by kernel_rfl) (by kernel_rfl) (by kernel_rfl)))
    <| allOk_cons (okg 11 true 71 rfl (by kernel_rfl) (by kernel_rfl) (by kernel_rfl) (l_len 73 _ _ _ _ (by kernel_rfl) rfl ((hs 73 (.slice A1 (strL ls).length c1) (by kernel_rfl) (by kernel_rfl))) (by kernel_rfl)))
    <| allOk_cons (okg 11 true 71 rfl (by kernel_rfl) (by kernel_rfl) (by kernel_rfl) (l_eqi (.tmp 72) (.tmp 74) _ _ .i64 (((strL ls).length : Int)) rfl Try.underlying3 (hs 72 (.int .i64 ((strL ls).length : Int)) (by kernel_rfl) (by kernel_rfl)) (hs 74 (.int .i64 ((strL ls).length : Int)) (by kernel_rfl) (by kernel_rfl)) (by kernel_rfl)))
    <| allOk_cons (ok_none rfl (l_pick (.tmp 71) (.tmp 75) (.bool true) rfl (hs 71 (.bool true) (by kernel_rfl) (by kernel_rfl)) (hs 75 (.bool true) (by kernel_rfl) (by kernel_rfl)) (by kernel_rfl)))
    <| allOk_cons (ok_none rfl (l_mvF 76 (.val (.bool true)) (.inl rfl) (by kernel_rfl) (by kernel_rfl) (by kernel_rfl)))
    <| allOk_cons (okg 17 true 77 rfl (by kernel_rfl) (by kernel_rfl) (by kernel_rfl) (l_mvF 10 (.val (.int .i64 0)) (.inl rfl) (by kernel_rfl) (by kernel_rfl) (by kernel_rfl)))
    <| allOk_cons (okg 17 true 77 rfl (by kernel_rfl) (by kernel_rfl) (by kernel_rfl) (l_call 36 _ _ rfl (enters_of Try.func36 (by kernel_rfl) rfl) #[.int .i64 0] (.val (.int .i64 0)) (args1 (hs 78 (.int .i64 0) (by kernel_rfl) (by kernel_rfl))) (fun w hg => Reg.gives_num _ w) (by kernel_rfl)))
    <| allOk_cons (okg 17 true 77 rfl (by kernel_rfl) (by kernel_rfl) (by kernel_rfl) (l_eqi (.tmp 79) (.const (Go.Value.int Go.IntKind.i64 0)) _ _ .i64 (0) rfl Try.underlying3 (hs 79 (.int .i64 0) (by kernel_rfl) (by kernel_rfl)) (hc _) (by kernel_rfl)))
    <| allOk_cons (ok_none rfl (l_pick (.tmp 77) (.tmp 80) (.bool true) rfl (hs 77 (.bool true) (by kernel_rfl) (by kernel_rfl)) (hs 80 (.bool true) (by kernel_rfl) (by kernel_rfl)) (by kernel_rfl)))
    <| allOk_cons (ok_none rfl (l_mvF 81 (.val (.bool true)) (.inl rfl) (by kernel_rfl) (by kernel_rfl) (by kernel_rfl)))
    <| allOk_cons (okg 22 true 82 rfl (by kernel_rfl) (by kernel_rfl) (by kernel_rfl) (l_mvF 11 (.val (.string s1)) (.inl rfl) (by kernel_rfl) (by kernel_rfl) (by kernel_rfl)))
    <| allOk_cons (okg 22 true 82 rfl (by kernel_rfl) (by kernel_rfl) (by kernel_rfl) (l_mvF 14 (.val (.string s1)) (.inl rfl) (by kernel_rfl) (by kernel_rfl) (by kernel_rfl)))
    <| allOk_cons (okg 22 true 82 rfl (by kernel_rfl) (by kernel_rfl) (by kernel_rfl) (l_eqs (.tmp 83) (.tmp 84) _ _ (s1) rfl Try.underlying9 (hs 83 (.string s1) (by kernel_rfl) (by kernel_rfl)) (hs 84 (.string s1) (by kernel_rfl) (by kernel_rfl)) (by kernel_rfl)))
    <| allOk_cons (ok_none rfl (l_pick (.tmp 82) (.tmp 85) (.bool true) rfl (hs 82 (.bool true) (by kernel_rfl) (by kernel_rfl)) (hs 85 (.bool true) (by kernel_rfl) (by kernel_rfl)) (by kernel_rfl)))
    <| allOk_cons (ok_none rfl (l_mvF 86 (.val (.bool true)) (.inl rfl) (by kernel_rfl) (by kernel_rfl) (by kernel_rfl)))
    <| allOk_cons (okg 27 true 87 rfl (by kernel_rfl) (by kernel_rfl) (by kernel_rfl) (l_mvF 12 (.val (.int .i64 y)) (.inl rfl) (by kernel_rfl) (by kernel_rfl) (by kernel_rfl)))
    <| allOk_cons (okg 27 true 87 rfl (by kernel_rfl) (by kernel_rfl) (by kernel_rfl) (l_mvF 15 (.val (.int .i64 y)) (.inl rfl) (by kernel_rfl) (by kernel_rfl) (by kernel_rfl)))
    <| allOk_cons (okg 27 true 87 rfl (by kernel_rfl) (by kernel_rfl) (by kernel_rfl) (l_eqi (.tmp 88) (.tmp 89) _ _ .i64 (y) rfl Try.underlying3 (hs 88 (.int .i64 y) (by kernel_rfl) (by kernel_rfl)) (hs 89 (.int .i64 y) (by kernel_rfl) (by kernel_rfl)) (by kernel_rfl)))
    <| allOk_cons (ok_none rfl (l_pick (.tmp 87) (.tmp 90) (.bool true) rfl (hs 87 (.bool true) (by kernel_rfl) (by kernel_rfl)) (hs 90 (.bool true) (by kernel_rfl) (by kernel_rfl)) (by kernel_rfl)))
    <| allOk_cons (ok_none rfl (l_mvF 91 (.val (.bool true)) (.inl rfl) (by kernel_rfl) (by kernel_rfl) (by kernel_rfl)))
    <| allOk_cons (okg 32 true 92 rfl (by kernel_rfl) (by kernel_rfl) (by kernel_rfl) (l_mvF 13 (.val (.int .i64 ex)) (.inl rfl) (by kernel_rfl) (by kernel_rfl) (by kernel_rfl)))
    <| allOk_cons (okg 32 true 92 rfl (by kernel_rfl) (by kernel_rfl) (by kernel_rfl) (l_call 36 _ _ rfl (enters_of Try.func36 (by kernel_rfl) rfl) #[.int .i64 ex] (.val (.int .i64 ex)) (args1 (hs 93 (.int .i64 ex) (by kernel_rfl) (by kernel_rfl))) (fun w hg => Reg.gives_num _ w) (by kernel_rfl)))
    <| allOk_cons (okg 32 true 92 rfl (by kernel_rfl) (by kernel_rfl) (by kernel_rfl) (l_mvF 16 (.val (.int .i64 ex)) (.inl rfl) (by kernel_rfl) (by kernel_rfl) (by kernel_rfl)))
    <| allOk_cons (okg 32 true 92 rfl (by kernel_rfl) (by kernel_rfl) (by kernel_rfl) (l_eqi (.tmp 94) (.tmp 95) _ _ .i64 (ex) rfl Try.underlying3 (hs 94 (.int .i64 ex) (by kernel_rfl) (by kernel_rfl)) (hs 95 (.int .i64 ex) (by kernel_rfl) (by kernel_rfl)) (by kernel_rfl)))
    <| allOk_cons (ok_none rfl (l_pick (.tmp 92) (.tmp 96) (.bool true) rfl (hs 92 (.bool true) (by kernel_rfl) (by kernel_rfl)) (hs 96 (.bool true) (by kernel_rfl) (by kernel_rfl)) (by kernel_rfl)))
    <| allOk_cons (ok_none rfl (l_mvF 97 (.val (.bool true)) (.inl rfl) (by kernel_rfl) (by kernel_rfl) (by kernel_rfl)))
    <| allOk_cons (okg 38 true 98 rfl (by kernel_rfl) (by kernel_rfl) (by kernel_rfl) (l_mvF 1 (.val (.slice A l.length c)) (.inl rfl) (by kernel_rfl) (by kernel_rfl) (by kernel_rfl)))
    <| allOk_cons (okg 38 true 98 rfl (by kernel_rfl) (by kernel_rfl) (by kernel_rfl) (l_mvF 2 (.val (.int .i64 (m : Int))) (.inl rfl) (by kernel_rfl) (by kernel_rfl) (by kernel_rfl)))
    <| allOk_cons (okg 38 true 98 rfl (by kernel_rfl) (by kernel_rfl) (by kernel_rfl) (l_run2W (.tmp 99) (.tmp 100) (.val (.slice A (l.take m).length c)) (.slice A l.length c) (.int .i64 (m : Int)) (hs 99 _ (by kernel_rfl) (by kernel_rfl)) (hs 100 _ (by kernel_rfl) (by kernel_rfl)) (fun ρ w hg h1 h2 => ⟨_, w, cut_take rfl h1 h2 hm hle, Grow.refl _, rfl⟩) (by kernel_rfl)))
    <| allOk_cons (okg 38 true 98 rfl (by kernel_rfl) (by kernel_rfl) (by kernel_rfl) (l_mvF 1 (.val (.slice A l.length c)) (.inl rfl) (by kernel_rfl) (by kernel_rfl) (by kernel_rfl)))
    <| allOk_cons (okg 38 true 98 rfl (by kernel_rfl) (by kernel_rfl) (by kernel_rfl) (l_mvF 2 (.val (.int .i64 (m : Int))) (.inl rfl) (by kernel_rfl) (by kernel_rfl) (by kernel_rfl)))
    <| allOk_cons (okg 38 true 98 rfl (by kernel_rfl) (by kernel_rfl) (by kernel_rfl) (l_run2W (.tmp 102) (.tmp 103) (.val (.slice (cutA A c m) (l.drop m).length (c - m))) (.slice A l.length c) (.int .i64 (m : Int)) (hs 102 _ (by kernel_rfl) (by kernel_rfl)) (hs 103 _ (by kernel_rfl) (by kernel_rfl)) (fun ρ w hg h1 h2 => ⟨_, w, cut_drop rfl h1 h2 hm hle, Grow.refl _, rfl⟩) (by kernel_rfl)))
    <| allOk_cons (okg 38 true 98 rfl (by kernel_rfl) (by kernel_rfl) (by kernel_rfl) (l_run2W (.tmp 101) (.tmp 104) (.pred (Two (.slice A (l.take m).length c) (.slice (cutA A c m) (l.drop m).length (c - m))) (two_stable _ _)) (.slice A (l.take m).length c) (.slice (cutA A c m) (l.drop m).length (c - m)) (hs 101 _ (by kernel_rfl) (by kernel_rfl)) (hs 104 _ (by kernel_rfl) (by kernel_rfl)) (fun ρ w hg h1 h2 => build_two rfl h1 h2) (by kernel_rfl)))
    <| allOk_cons (okg 38 true 98 rfl (by kernel_rfl) (by kernel_rfl) (by kernel_rfl) (l_callP 29 105 (Two (.slice A (l.take m).length c) (.slice (cutA A c m) (l.drop m).length (c - m))) (two_stable _ _) _ rfl (enters_of Try.func29 (by kernel_rfl) rfl) (.val (.int .u32 (sumL l : Int))) (by kernel_rfl) (by kernel_rfl) (fun w u hg hu => hsum w u hg hu) (by kernel_rfl)))
    <| allOk_cons (okg 38 true 98 rfl (by kernel_rfl) (by kernel_rfl) (by kernel_rfl) (l_mvF 1 (.val (.slice A l.length c)) (.inl rfl) (by kernel_rfl) (by kernel_rfl) (by kernel_rfl)))
    <| allOk_cons (okg 38 true 98 rfl (by kernel_rfl) (by kernel_rfl) (by kernel_rfl) (l_call 37 _ _ rfl (enters_of Try.func37 (by kernel_rfl) rfl) #[.slice A l.length c] (.val (.int .u32 (sumL l : Int))) (args1 (hs 107 (.slice A l.length c) (by kernel_rfl) (by kernel_rfl))) (fun w hg => Reg.gives_same (refSum_gives w _ A c l ((hlv5.below hg).more hg.size))) (by kernel_rfl)))
    <| allOk_cons (okg 38 true 98 rfl (by kernel_rfl) (by kernel_rfl) (by kernel_rfl) (l_eqi (.tmp 106) (.tmp 108) _ _ .u32 ((sumL l : Int)) rfl Try.underlying45 (hs 106 (.int .u32 (sumL l : Int)) (by kernel_rfl) (by kernel_rfl)) (hs 108 (.int .u32 (sumL l : Int)) (by kernel_rfl) (by kernel_rfl)) (by kernel_rfl)))
    <| allOk_cons (ok_none rfl (l_pick (.tmp 98) (.tmp 109) (.bool true) rfl (hs 98 (.bool true) (by kernel_rfl) (by kernel_rfl)) (hs 109 (.bool true) (by kernel_rfl) (by kernel_rfl)) (by kernel_rfl)))
    <| allOk_cons (ok_none rfl (l_mvF 110 (.val (.bool true)) (.inl rfl) (by kernel_rfl) (by kernel_rfl) (by kernel_rfl)))
    <| allOk_cons (okg 51 true 111 rfl (by kernel_rfl) (by kernel_rfl) (by kernel_rfl) (l_call 27 _ _ rfl (enters_of Try.func27 (by kernel_rfl) rfl) #[] (.val (.bool true)) (fun _ _ _ => by simp) (fun w hg => Reg.gives_works w) (by kernel_rfl)))
    <| allOk_cons (ok_none rfl (l_pick (.tmp 111) (.tmp 112) (.bool true) rfl (hs 111 (.bool true) (by kernel_rfl) (by kernel_rfl)) (hs 112 (.bool true) (by kernel_rfl) (by kernel_rfl)) (by kernel_rfl)))
    <| allOk_cons (ok_none rfl (l_mvF 113 (.val (.bool true)) (.inr rfl) (by kernel_rfl) (by kernel_rfl) (by kernel_rfl)))
    <| allOk_nil) ?_
  intro a w6 _ hdef hG hF
  have hr : a.eval (.tmp 6) = .bool true := hF 6
  have hB6 : Below w.heap.size w w6 := hB5w.trans (hG.mono hB5w.size)
  clear hF
  simp only [Exit.then]
  refine ‹∀ (a : Act) (w : World), Code.wp Try.prog Code.ret _ a w → _› a w6 ?_
  refine Reg.ends1 6 (.bool true) rfl hr hdef ?_
  exact ⟨rfl, hB6⟩
end Go.Proofs.Ytlelckdcmlpmdaa
/- More rules for single operations of regions that draw their order. -/
namespace Go.Proofs.Ytlelckdcmlpmdaa
open Go Go.RowKit Lou
theorem cut_mid {ρ : Operand → Value} {w : World} {o : Oper} {x y z : Operand} {A : Option Addr} {c m k : Nat} {l : List UInt8} (ho : o.op = .slice 30 x (some y) (some z) none) (h1 : ρ x = .slice A l.length c) (h2 : ρ y = .int .i64 (m : Int)) (h3 : ρ z = .int .i64 (k : Int)) (hm : m ≤ k) (hk : k ≤ l.length) (hle : l.length ≤ c) :
    (execOp ρ o).run Try.prog w = .ok (.value (.slice (cutA A c m) ((l.drop m).take (k - m)).length (c - m))) w := by
  have ht : Try.prog.underlying 30 = some (.slice (Try.prog.elem 30)) := by kernel_rfl
  have e1 : ((l.drop m).take (k - m)).length = k - m := by simp; omega
  rw [e1]
  have a1 : m ≤ k := hm
  have a2 : k ≤ c := by omega
  have e2 : Try.prog.elem 30 = 5 := by kernel_rfl
  have e3 : (Try.prog.info? 5).map (·.size) = some 1 := by kernel_rfl
  unfold cutA
  by_cases hc : c = m
  · subst hc
    simp [execOp, ho, h1, h2, h3, go_sem, run_sliceAt_slice _ _ _ _ _ _ ht, Result.andThen, a1, a2]
  · have hc' : ¬ c - m = 0 := by omega
    simp [execOp, ho, h1, h2, h3, go_sem, run_sliceAt_slice _ _ _ _ _ _ ht, Result.andThen, a1, a2, hc]
namespace Reg
variable {L : List (Nat × Fact)} {ops : Array Oper} {w0 : World} {o : Oper} {P : Program}
theorem l_run3W (x y z : Operand) (g : Fact) (u v r : Value) (hx : Has ops (FSof L) o x u) (hy : Has ops (FSof L) o y v) (hz : Has ops (FSof L) o z r)
    (hrun : ∀ (ρ : Operand → Value) (w : World), Grow w0 w → ρ x = u → ρ y = v → ρ z = r → ∃ q w', (execOp ρ o).run P w = .ok (.value q) w' ∧ Grow w w' ∧ g.holds q w') (hd : FD L o.dst = g) : RunOk P ops (FSof L) w0 o := by
  intro a w K Q hG hl hK
  obtain ⟨q, w', h1, h2, h3⟩ := hrun a.eval w hG (hx a w hl) (hy a w hl) (hz a w hl)
  unfold Oper.wp
  rw [h1]
  exact hK q w' h2 (fsd hd h3)
theorem l_add (x y : Operand) (T T' : TypeId) (k : IntKind) (m n r : Int) (ho : o.op = .binOp .add T x y T') (hT : Try.prog.underlying T = some (.int k)) (hx : Has ops (FSof L) o x (.int k m)) (hy : Has ops (FSof L) o y (.int k n)) (hr : k.wrap (m + n) = r) (hd : FD L o.dst = .val (.int k r)) : RunOk Try.prog ops (FSof L) w0 o :=
  run2 x y hx hy (fun ρ w h1 h2 => by subst hr; simp [execOp, ho, h1, h2, go_sem, Result.andThen]) fun _ => fsd hd rfl
theorem l_eqI (x y : Operand) (T T' : TypeId) (k : IntKind) (m n : Int) (b : Bool) (ho : o.op = .binOp .eql T x y T') (hT : Try.prog.underlying T = some (.int k)) (hx : Has ops (FSof L) o x (.int k m)) (hy : Has ops (FSof L) o y (.int k n)) (hb : (m == n) = b) (hd : FD L o.dst = .val (.bool b)) : RunOk Try.prog ops (FSof L) w0 o :=
  run2 x y hx hy (fun ρ w h1 h2 => by subst hb; simp [execOp, ho, h1, h2, go_sem, Result.andThen]) fun _ => fsd hd rfl
theorem l_neI (x y : Operand) (T T' : TypeId) (k : IntKind) (m n : Int) (b : Bool) (ho : o.op = .binOp .neq T x y T') (hT : Try.prog.underlying T = some (.int k)) (hx : Has ops (FSof L) o x (.int k m)) (hy : Has ops (FSof L) o y (.int k n)) (hb : (m != n) = b) (hd : FD L o.dst = .val (.bool b)) : RunOk Try.prog ops (FSof L) w0 o :=
  run2 x y hx hy (fun ρ w h1 h2 => by subst hb; simp [execOp, ho, h1, h2, go_sem, Result.andThen, bne]) fun _ => fsd hd rfl
/-- The address of a slice's byte. -/
theorem l_idxS (x y : Operand) (g q n c k : Nat) (hk : k < n) (ho : o.op = .indexAddr 30 x y) (hx : Has ops (FSof L) o x (.slice (some ⟨g, q, none⟩) n c)) (hy : Has ops (FSof L) o y (.int .i64 (k : Int))) (hd : FD L o.dst = .val (.pointer (some ⟨g, q + k, none⟩))) : RunOk Try.prog ops (FSof L) w0 o := by
  refine run2 x y hx hy (fun ρ w h1 h2 => ?_) fun _ => fsd hd rfl
  have ea : (⟨g, q, none⟩ : Addr).add k = ⟨g, q + k, none⟩ := by cases k <;> simp [Addr.add]
  have k0 : (0 : Int) ≤ (k : Int) := by omega
  have k1 : (k : Int) < (n : Int) := by omega
  simp [execOp, ho, h1, h2, go_sem, hk, k0, k1, Result.andThen, ea, Try.underlying30]
/-- A load whose run is known. -/
theorem l_loadV (x : Operand) (p : Addr) (T : TypeId) (v : Value) (ho : o.op = .load T x) (hx : Has ops (FSof L) o x (.pointer (some p))) (hload : ∀ w, Grow w0 w → (loadVar T p).run P w = .ok v w) (hd : FD L o.dst = .val v) : RunOk P ops (FSof L) w0 o :=
  l_run1W x (.val v) _ hx (fun ρ w hg h => ⟨v, w, by simp only [execOp, ho, h, Instr.loadAt, Instr.sureAddr, Sem.run_bind, Sem.run_pure, Result.andThen_ok, hload w hg], Grow.refl _, rfl⟩) hd
/-- A slice of at least 64 bytes as a pointer to a sector. -/
theorem l_s2a (x : Operand) (g q n c : Nat) (hn : 64 ≤ n) (ho : o.op = .sliceToArrayPointer 236 x) (hx : Has ops (FSof L) o x (.slice (some ⟨g, q, none⟩) n c)) (hd : FD L o.dst = .val (.pointer (some ⟨g, q, none⟩))) : RunOk Try.prog ops (FSof L) w0 o := by
  refine run1 x hx (fun ρ w h => ?_) fun _ => fsd hd rfl
  have hn2 : ¬ n < 64 := by omega
  simp [execOp, ho, h, go_sem, Instr.arrayAt, run_underlying Try.underlying236, Result.andThen, hn2, hn]
theorem l_eqArr (x y : Operand) (T : TypeId) (xs ys : List UInt8) (hx1 : xs.length = 64) (hy1 : ys.length = 64) (ho : o.op = .binOp .eql 236 x y T) (hx : Has ops (FSof L) o x (.agg (xs.map b8).toArray)) (hy : Has ops (FSof L) o y (.agg (ys.map b8).toArray)) (hd : FD L o.dst = .val (.bool (xs == ys))) : RunOk Try.prog ops (FSof L) w0 o := by
  refine run2 x y hx hy (fun ρ w h1 h2 => ?_) fun _ => fsd hd rfl
  have hr : (binOp .eql 236 (.agg (xs.map b8).toArray) (.agg (ys.map b8).toArray)).run Try.prog w = .ok (.bool (xs == ys)) w :=
    run_eql_bytes w 236 5 64 Try.underlying236 Try.underlying5 (fun w => by simp [go_sem]) xs ys hx1 hy1
  have hm : Try.prog.eqGuardType Try.prog.depth 236 = false := by kernel_rfl
  simp only [execOp, ho, h1, h2, Sem.run_bind, run_eqGuard_agg w .eql 236 x y _ _ hm, Result.andThen_ok, hr, Sem.run_pure]
end Reg
end Go.Proofs.Ytlelckdcmlpmdaa
/- Regions with chains: facts on slots, stages and rules for rows of bytes and for variables. -/
namespace Go.Proofs.Ytlelckdcmlpmdaa
open Go Go.RowKit Lou
namespace Reg

inductive GFact where
  | val (v : Value)
  | any
  | gp (p : Ghost → Value → World → Prop) (h1 : ∀ g v w w', p g v w → Grow w w' → p g v w') (h2 : ∀ g k gb v w w', Lt g w → w.grownBy w' (g k) → (gb = g k ∨ ∀ b, gb = some b → w.heap.size ≤ b) → p g v w → p (upd g k gb) v w')
def GFact.toFact (g : Ghost) : GFact → Fact
  | .val v => .val v
  | .any => .any
  | .gp p h1 _ => .pred (p g) (h1 g)
def factsG (L : List (Nat × GFact)) (g : Ghost) : List (Nat × Fact) := L.map fun x => (x.1, x.2.toFact g)
theorem factsG_stage (L : List (Nat × GFact)) (g : Ghost) (k : Nat) (gb : Option Nat) (t : Tmp) (u : Value) (w w' : World) (hl : Lt g w) (hg : w.grownBy w' (g k)) (hb : gb = g k ∨ ∀ b, gb = some b → w.heap.size ≤ b) (h : FSof (factsG L g) t u w) : FSof (factsG L (upd g k gb)) t u w' := by
  unfold FSof at *
  induction L with
  | nil => trivial
  | cons x r ih =>
    obtain ⟨n, f⟩ := x
    simp only [factsG, List.map_cons, factOf] at h ⊢
    split
    · rename_i e
      rw [if_pos e] at h
      cases f with
      | val v => exact h
      | any => trivial
      | gp p h1 h2 => exact h2 g k gb u w w' hl hg hb h
    · rename_i e
      rw [if_neg e] at h
      exact ih h
theorem factsG_grow (L : List (Nat × GFact)) (g : Ghost) (t : Tmp) (v : Value) (w w' : World) (h : FSof (factsG L g) t v w) (hg : Grow w w') : FSof (factsG L g) t v w' := FSof.stable _ _ _ _ _ h hg

/-- Bytes that lie in no block that still changes. -/
def resX (l : List UInt8) (g : Ghost) (v : Value) (w : World) : Prop := ∃ A c, v = .slice A l.length c ∧ InB w w.heap.size A c l ∧ ∀ ad, A = some ad → ad.block < w.heap.size ∧ ∀ k, g k ≠ some ad.block
theorem resX_grow (l : List UInt8) : ∀ g v w w', resX l g v w → Grow w w' → resX l g v w' := by
  rintro g v w w' ⟨A, c, rfl, h, ha⟩ hg
  exact ⟨A, c, rfl, (h.below hg).more hg.size, fun ad e => ⟨Nat.lt_of_lt_of_le (ha ad e).1 hg.size, (ha ad e).2⟩⟩
theorem resX_stage (l : List UInt8) : ∀ g k gb v w w', Lt g w → w.grownBy w' (g k) → (gb = g k ∨ ∀ b, gb = some b → w.heap.size ≤ b) → resX l g v w → resX l (upd g k gb) v w' := by
  rintro g k gb v w w' hlt hg hb ⟨A, c, rfl, h, ha⟩
  refine ⟨A, c, rfl, ⟨h.le, h.max, h.nil, fun h0 => ?_⟩, fun ad e => ⟨Nat.lt_of_lt_of_le (ha ad e).1 hg.size, fun j => ?_⟩⟩
  · obtain ⟨b, o, hA, hb', hc⟩ := h.lies h0
    refine ⟨b, o, hA, Nat.lt_of_lt_of_le hb' hg.size, fun j hj => ?_⟩
    rw [← hc j hj]
    exact World.cell?_of_block (hg.block b hb' (fun e => (ha _ hA).2 k e.symm))
  · unfold upd
    split
    · rcases hb with rfl | hb
      · exact (ha ad e).2 k
      · intro e2
        have h3 := hb _ e2
        have := (ha ad e).1
        omega
    · exact (ha ad e).2 j
abbrev GFact.res (l : List UInt8) : GFact := .gp (resX l) (resX_grow l) (resX_stage l)
theorem gives_resX {P : Program} {w : World} {f : FuncId} {args : Array Value} {l : List UInt8} {g : Ghost} (hlt : Lt g w) (h : Calls P f args w (GivesB w l)) : Calls P f args w fun e w' => ∃ v, e = .returned v ∧ Grow w w' ∧ (GFact.toFact g (.res l)).holds v w' :=
  h.mono fun e w' ⟨v, he, hown, hB⟩ => ⟨v, he, hB, by
    obtain ⟨A, c, rfl, hin⟩ := hown.inB
    refine ⟨A, c, rfl, hin, fun ad e => ?_⟩
    subst e
    rcases hown.form with ⟨h1, _⟩ | ⟨b, cap, h1, hb, hbl, _⟩
    · cases h1
    · injection h1 with h1 _ _
      injection h1 with h1
      subst h1
      exact ⟨hbl, fun k e2 => by have h5 := hlt k _ e2; simp only at h5 hb; omega⟩⟩
theorem Lt.grow {g : Ghost} {w w' : World} (h : Lt g w) (hg : Grow w w') : Lt g w' := fun k b hb => Nat.lt_of_lt_of_le (h k b hb) hg.size

/-- A row of bytes, as a stage. -/
def rowSt (i : Option Nat) (s : Src) (B : Nat) (l : List UInt8) : Stage :=
  ⟨i, s, fun v w => OwnB w B v l, Value.ownBlock, fun v w w' h hb => by
    refine ⟨h.1, ?_⟩
    rcases h.2 with h | ⟨g, cap, cur, h1, h2, h3, h4⟩
    · exact .inl h
    · exact .inr ⟨g, cap, cur, h1, h2, (hb g (by rw [h1]; rfl)).trans h3, h4⟩, fun v w k h hk => (World.ownsRow.lt h k hk).2⟩
/-- A variable's block. -/
def ptrBlock : Value → Option Nat
  | .pointer (some a) => some a.block
  | _ => none
def varSt (i : Option Nat) (s : Src) (T : TypeId) (cs : Array Value) : Stage :=
  ⟨i, s, fun v w => ∃ b, v = .pointer (some ⟨b, 0, none⟩) ∧ BlkIs w b T cs, ptrBlock, fun v w w' h hb => by
    obtain ⟨b, rfl, h⟩ := h
    exact ⟨b, rfl, (hb b rfl).trans h⟩, fun v w k h hk => by
    obtain ⟨b, rfl, h⟩ := h
    injection hk with hk
    subst hk
    exact h.lt⟩
section rules
variable {ops : Array Oper} {a0 : Act} {GL : List (Nat × GFact)} {B : Nat} {w00 : World} {cs : List (List Stage)} {i : Nat} {o : Oper} {P : Program}
abbrev FSG (GL : List (Nat × GFact)) : Ghost → Tmp → Value → World → Prop := fun g => FSof (factsG GL g)
theorem fsdG {g : Ghost} {d : Tmp} {v : Value} {w : World} (hd : o.dst = some d) (hf : factOf (factsG GL g) d = .any) : FSd (FSG GL g) o.dst v w := by
  rw [hd]
  show (factOf (factsG GL g) d).holds v w
  rw [hf]
  trivial
/-- append of bytes to a row. -/
theorem s_append (hok : chainsOk ops cs = true) (k : Nat) (later : List Stage) (j : Option Nat) (sp : Src) (pre : List Stage) (l1 l2 : List UInt8) (d : Tmp) (s x : Operand) (hc : cs[k]? = some (later ++ rowSt (some i) (.slot d) B (l1 ++ l2) :: rowSt j sp B l1 :: pre))
    (hu1 : later.all (fun y => y.i != some i) = true) (hu2 : (cs.zipIdx.all fun (c, j) => j == k || c.all fun y => y.i != some i) = true) (hg : o.guard = none)
    (ho : o.op = .call { callee := .builtin .append, args := #[s, x], argTypes := #[30, 30] }) (hd : o.dst = some d) (hf : ∀ g, factOf (factsG GL g) d = .any)
    (hs : ∀ a : Act, sp.get a = a.eval s) (hx : ∀ (g : Ghost) (a : Act) (w : World), (∀ t, (o.looksAt ops).contains t = true → ahead ops o t = true → FSG GL g t (a.eval (.tmp t)) w) → Below B w00 w → ∃ A c, a.eval x = .slice A l2.length c ∧ InB w w.heap.size A c l2)
    (hlen : l1.length + l2.length ≤ 140737488355328) : Op4 Try.prog ops a0 (FSG GL) B w00 cs i o := by
  refine op4_stage hok k later _ _ hc rfl hu1 hu2 hg (factsG_stage GL) ?_
  intro g a w K Q hlt hB hBel hlook hpre hdl hK
  obtain ⟨h1, h2⟩ : OwnB w B (sp.get a) l1 ∧ g k = (sp.get a).ownBlock := hpre
  obtain ⟨A, c, e2, hin⟩ := hx g a w hlook hBel
  refine oper_appB s x ho B (sp.get a) l1 (hs a).symm h1 _ A c l2 e2 hin hlen hB ?_
  intro v' w' hown hgr hob
  have ev : (Src.slot d).get (a.put o.dst v') = v' := by rw [hd]; exact eval_put_same (hdl d hd)
  refine hK v' w' v'.ownBlock (by rw [h2]; exact hgr) (by rcases hob with h | h; exact .inl (by rw [h2]; exact h); exact .inr (fun b hb => by rw [h] at hb; injection hb with hb; omega)) ?_ ?_ (fsdG hd (hf _))
  · show OwnB w' B ((Src.slot d).get (a.put o.dst v')) (l1 ++ l2)
    rw [ev]
    exact hown
  · show v'.ownBlock = ((Src.slot d).get (a.put o.dst v')).ownBlock
    rw [ev]
/-- []byte{}. -/
theorem s_lit0 (hok : chainsOk ops cs = true) (k : Nat) (later : List Stage) (d : Tmp) (hc : cs[k]? = some (later ++ [rowSt (some i) (.slot d) B []]))
    (hu1 : later.all (fun y => y.i != some i) = true) (hu2 : (cs.zipIdx.all fun (c, j) => j == k || c.all fun y => y.i != some i) = true) (hg : o.guard = none)
    (ho : o.op = .buildSlice 30 0 #[]) (hd : o.dst = some d) (hf : ∀ g, factOf (factsG GL g) d = .any) : Op4 Try.prog ops a0 (FSG GL) B w00 cs i o := by
  refine op4_stage hok k later _ [] hc rfl hu1 hu2 hg (factsG_stage GL) ?_
  intro g a w K Q hlt hB hBel hlook hpre hdl hK
  have hgk : g k = none := hpre
  have hr : (execOp a.eval o).run Try.prog w = .ok (.value (.slice (some ⟨w.heap.size, 0, none⟩) 0 0)) (w.alloc (.cells #[] 5)) := by
    simp [execOp, ho, go_sem, Result.andThen]
  unfold Oper.wp
  rw [hr]
  have ev : (Src.slot d).get (a.put o.dst (.slice (some ⟨w.heap.size, 0, none⟩) 0 0)) = .slice (some ⟨w.heap.size, 0, none⟩) 0 0 := by rw [hd]; exact eval_put_same (hdl d hd)
  refine hK _ _ (some w.heap.size) ⟨rfl, rfl, rfl, by simp, fun j hj _ => Below.heap_alloc w _ j hj⟩ (.inr (fun b hb => by injection hb with hb; omega)) ?_ ?_ (fsdG hd (hf _))
  · show OwnB _ B ((Src.slot d).get (a.put o.dst _)) []
    rw [ev]
    exact World.ownsRow_lit w #[] 0 hB (by unfold maxLen; omega) rfl
  · show some w.heap.size = ((Src.slot d).get (a.put o.dst _)).ownBlock
    rw [ev]
    rfl
/-- A call that gives bytes of its own. -/
theorem s_call (hok : chainsOk ops cs = true) (k : Nat) (later : List Stage) (l : List UInt8) (d : Tmp) (f : FuncId) (xs : Array Operand) (ts : Array TypeId) (hc : cs[k]? = some (later ++ [rowSt (some i) (.slot d) B l]))
    (hu1 : later.all (fun y => y.i != some i) = true) (hu2 : (cs.zipIdx.all fun (c, j) => j == k || c.all fun y => y.i != some i) = true) (hg : o.guard = none)
    (ho : o.op = .call { callee := .value (.func f), args := xs, argTypes := ts }) (hent : ∀ args w, (callFunc f args).run P w = .ok (.enter f args) w) (hd : o.dst = some d) (hf : ∀ g, factOf (factsG GL g) d = .any)
    (args : Array Value) (hargs : ∀ (g : Ghost) (a : Act) (w : World), (∀ t, (o.looksAt ops).contains t = true → ahead ops o t = true → FSG GL g t (a.eval (.tmp t)) w) → xs.map a.eval = args)
    (hC : ∀ w, Below B w00 w → Calls P f args w (GivesB w l)) : Op4 P ops a0 (FSG GL) B w00 cs i o := by
  refine op4_stage hok k later _ [] hc rfl hu1 hu2 hg (factsG_stage GL) ?_
  intro g a w K Q hlt hB hBel hlook hpre hdl hK
  have hgk : g k = none := hpre
  have hr : (execOp a.eval o).run P w = .ok (.enter f args) w := by
    have ef : a.eval (.func f) = .func (.func f) #[] #[] := rfl
    have h := hent args w
    have ha := hargs g a w hlook
    simp [execOp, ho, resolve, ha, ef, Deferred.ofValue, invoke, Result.andThen, h]
  unfold Oper.wp
  rw [hr, Oper.upon_enter]
  refine (hC w hBel).mono ?_
  rintro e w' ⟨v, rfl, hown, hBw⟩
  have ev : (Src.slot d).get (a.put o.dst v) = v := by rw [hd]; exact eval_put_same (hdl d hd)
  refine hK v w' v.ownBlock ⟨hBw.os, hBw.tape, hBw.output, hBw.size, fun j hj _ => hBw.block j hj⟩ (.inr (hown.ownGe)) ?_ ?_ (fsdG hd (hf _))
  · show OwnB w' B ((Src.slot d).get (a.put o.dst v)) l
    rw [ev]
    exact hown.base hB
  · show v.ownBlock = ((Src.slot d).get (a.put o.dst v)).ownBlock
    rw [ev]
/-- A variable is laid. -/
theorem s_alloc (hok : chainsOk ops cs = true) (k : Nat) (later : List Stage) (T : TypeId) (z : Array Value) (d : Tmp) (hc : cs[k]? = some (later ++ [varSt (some i) (.slot d) T z]))
    (hu1 : later.all (fun y => y.i != some i) = true) (hu2 : (cs.zipIdx.all fun (c, j) => j == k || c.all fun y => y.i != some i) = true) (hg : o.guard = none)
    (ho : o.op = .alloc T) (hd : o.dst = some d) (hf : ∀ g, factOf (factsG GL g) d = .any) (hrun : ∀ (ρ : Operand → Value) (w : World), (execOp ρ o).run P w = .ok (.value (.pointer (some ⟨w.heap.size, 0, none⟩))) (w.alloc (.cells z T))) : Op4 P ops a0 (FSG GL) B w00 cs i o := by
  refine op4_stage hok k later _ [] hc rfl hu1 hu2 hg (factsG_stage GL) ?_
  intro g a w K Q hlt hB hBel hlook hpre hdl hK
  have hgk : g k = none := hpre
  unfold Oper.wp
  rw [hrun]
  have ev : (Src.slot d).get (a.put o.dst (.pointer (some ⟨w.heap.size, 0, none⟩))) = .pointer (some ⟨w.heap.size, 0, none⟩) := by rw [hd]; exact eval_put_same (hdl d hd)
  refine hK _ _ (some w.heap.size) ⟨rfl, rfl, rfl, by simp, fun j hj _ => Below.heap_alloc w _ j hj⟩ (.inr (fun b hb => by injection hb with hb; omega)) ?_ ?_ (fsdG hd (hf _))
  · show ∃ b, (Src.slot d).get (a.put o.dst _) = .pointer (some ⟨b, 0, none⟩) ∧ BlkIs _ b T z
    rw [ev]
    exact ⟨_, rfl, BlkIs.new w T z⟩
  · show some w.heap.size = ptrBlock ((Src.slot d).get (a.put o.dst _))
    rw [ev]
    rfl
/-- A struct or an array is stored into a variable. -/
theorem s_store (hok : chainsOk ops cs = true) (k : Nat) (later : List Stage) (j : Option Nat) (pre : List Stage) (T : TypeId) (z z' : Array Value) (d : Tmp) (y : Operand) (hc : cs[k]? = some (later ++ varSt (some i) (.slot d) T z' :: varSt j (.slot d) T z :: pre))
    (hu1 : later.all (fun y => y.i != some i) = true) (hu2 : (cs.zipIdx.all fun (c, j) => j == k || c.all fun y => y.i != some i) = true) (hg : o.guard = none)
    (ho : o.op = .store T (.tmp d) y) (hd : o.dst = none) {n : Nat} (hT : RowTy P T n) (hn : z.size = n) (hn' : z'.size = n) (h1 : ∀ v ∈ z'.toList, v.oneCell' = true)
    (hy : ∀ (g : Ghost) (a : Act) (w : World), (∀ t, (o.looksAt ops).contains t = true → ahead ops o t = true → FSG GL g t (a.eval (.tmp t)) w) → a.eval y = .agg z') : Op4 P ops a0 (FSG GL) B w00 cs i o := by
  refine op4_stage hok k later _ _ hc rfl hu1 hu2 hg (factsG_stage GL) ?_
  intro g a w K Q hlt hB hBel hlook hpre hdl hK
  obtain ⟨⟨b, e1, hb⟩, h2⟩ : (∃ b, (Src.slot d).get a = .pointer (some ⟨b, 0, none⟩) ∧ BlkIs w b T z) ∧ g k = ptrBlock ((Src.slot d).get a) := hpre
  have hgk : g k = some b := by rw [h2, e1]; rfl
  have ev : ∀ v, (Src.slot d).get (a.put o.dst v) = (Src.slot d).get a := by intro v; rw [hd]; rfl
  refine oper_storeW T (.tmp d) y ho b e1 (hy g a w hlook) hT hb hn (by omega) h1 ?_
  refine hK _ _ (g k) ⟨rfl, rfl, rfl, by simp [World.setRow], fun j _ hj => setRow_other w b j _ (fun e => hj (by rw [hgk, e]))⟩ (.inl rfl) ?_ ?_ (by rw [hd]; trivial)
  · show ∃ b, (Src.slot d).get (a.put o.dst _) = .pointer (some ⟨b, 0, none⟩) ∧ BlkIs _ b T z'
    rw [ev]
    exact ⟨b, e1, hb.setRow z'⟩
  · show g k = ptrBlock ((Src.slot d).get (a.put o.dst _))
    rw [ev]
    exact h2
/-- A call that reads a row. -/
theorem s_callRow (hok : chainsOk ops cs = true) (hi : (idx cs).contains i = false) (k : Nat) (later : List Stage) (j : Option Nat) (sp : Src) (pre : List Stage) (l : List UInt8) (hc : cs[k]? = some (later ++ rowSt j sp B l :: pre)) (hyi : behind ops i j = true)
    (hlat : ∀ listed, Closed ops listed → listed.getD i false = false → ∀ z ∈ later, z.done listed = false) (hg : o.guard = none) (f : FuncId) (x : Operand) (ts : Array TypeId)
    (ho : o.op = .call { callee := .value (.func f), args := #[x], argTypes := ts }) (hs : ∀ a : Act, sp.get a = a.eval x) (hent : ∀ args w, (callFunc f args).run P w = .ok (.enter f args) w) (gf : GFact)
    (hC : ∀ g w A c, Lt g w → InB w w.heap.size A c l → Calls P f #[.slice A l.length c] w fun e w' => ∃ v, e = .returned v ∧ Grow w w' ∧ (gf.toFact g).holds v w') (hd : ∀ g, FD (factsG GL g) o.dst = gf.toFact g) : Op4 P ops a0 (FSG GL) B w00 cs i o := by
  refine op4_read hok hi k later _ pre hc hyi hlat hg (factsG_grow GL) ?_
  intro g a w K Q hlt hB hBel hlook hp hgk hK
  obtain ⟨A, c, e1, hin⟩ := OwnB.inB (show OwnB w B (sp.get a) l from hp)
  have hr : (execOp a.eval o).run P w = .ok (.enter f #[.slice A l.length c]) w := by
    have ef : a.eval (.func f) = .func (.func f) #[] #[] := rfl
    have h := hent #[.slice A l.length c] w
    have ex : a.eval x = .slice A l.length c := by rw [← hs]; exact e1
    simp [execOp, ho, resolve, ex, ef, Deferred.ofValue, invoke, Result.andThen, h]
  unfold Oper.wp
  rw [hr, Oper.upon_enter]
  refine (hC g w A c hlt hin).mono ?_
  rintro e w' ⟨v, rfl, hg', hf⟩
  exact hK v w' hg' (fsd (hd g) hf)
/-- What stands at a region's beginning where every chain begins in it. -/
theorem WC.start {w : World} (hcs : (cs.all fun c => c.all fun x => x.i.isSome) = true) (hB : Below B w00 w) (hb : B ≤ w.heap.size) (n : Nat) (a : Act) : WC B w00 cs (fun _ => none) (Array.replicate n false) a w := by
  refine ⟨hB, hb, ?_, fun _ _ => rfl, fun _ _ _ _ h => by (cases h), fun _ _ h => by cases h⟩
  intro k c hc
  have : current (Array.replicate n false) c = none := by
    rw [List.all_eq_true] at hcs
    have h1 := hcs c (List.mem_of_getElem? hc)
    clear hc
    induction c with
    | nil => rfl
    | cons x r ih =>
      simp only [List.all_cons, Bool.and_eq_true] at h1
      have hx : x.done (Array.replicate n false) = false := by
        unfold Stage.done
        cases hxi : x.i with
        | none => rw [hxi] at h1; cases h1.1
        | some j => simp [Array.getD]
      simp only [current, hx]
      exact ih h1.2
  rw [this]
  rfl
theorem region4_facts {P : Program} {ops : Array Oper} (hm : P.follows .mixedOrders = true) (hcov : backs ops = true) {id : Nat} {a0 : Act} {w0 : World} {Q : Exit → Act → World → Prop} (n : Nat) (hn : a0.tmps.size = n) (hdst : dstsIn ops n = true) (D : List Nat) (hD : dstsAre ops D = true)
    (V W : List (Nat × GFact)) (g0 : Ghost) (hV : StartOk a0 w0.drew (factsG V g0)) (hW : (W.all fun p => written ops p.1) = true) (B : Nat) (w00 : World) (cs : List (List Stage)) (h0 : WC B w00 cs g0 (Array.replicate ops.size false) a0 w0.drew)
    (hok : AllOp4 P ops a0 (FSG (V ++ W)) B w00 cs 0 ops.toList)
    (hend : ∀ g listed a w, listed.size = ops.size → (∀ i, i < ops.size → listed.getD i true = true) → J4 ops (FSG (V ++ W)) a0 D B w00 cs g listed a w → (∀ t, FSG (V ++ W) g t (a.eval (.tmp t)) w) → Q .normal a w) :
    (Code.region id ops true).wp P Q a0 w0 := by
  refine region4 hm hcov n hn hdst D hD (FSG (V ++ W)) B w00 cs g0 ?_ h0 hok hend
  intro t ht
  have e : factsG (V ++ W) g0 = factsG V g0 ++ factsG W g0 := by simp [factsG]
  show FSof (factsG (V ++ W) g0) t _ _
  rw [e]
  refine start_fact _ _ hV ?_ t ht
  rw [List.all_eq_true] at hW ⊢
  intro p hp
  simp only [factsG, List.mem_map] at hp
  obtain ⟨q, hq, rfl⟩ := hp
  exact hW q hq
theorem valAt {t : Tmp} {g : Ghost} {a : Act} {w : World} (v : Value) (hl : ∀ t, (o.looksAt ops).contains t = true → ahead ops o t = true → FSG GL g t (a.eval (.tmp t)) w) (hc : (o.looksAt ops).contains t = true) (ha : ahead ops o t = true) (hF : factOf (factsG GL g) t = .val v) : a.eval (.tmp t) = v := by
  have h : (factOf (factsG GL g) t).holds (a.eval (.tmp t)) w := hl t hc ha
  rw [hF] at h
  exact h
end rules
/-- One of a call's results. -/
theorem l_extract {L : List (Nat × Fact)} {ops : Array Oper} {w0 : World} {o : Oper} {P : Program} (x : Operand) (n : Nat) (vs : Array Value) (v : Value) (ho : o.op = .extract x n) (hx : Has ops (FSof L) o x (.tuple vs)) (hv : vs[n]? = some v) (hd : FD L o.dst = .val v) : RunOk P ops (FSof L) w0 o :=
  run1 x hx (fun ρ w h => by simp [execOp, ho, h, go_sem, Result.andThen, hv]) fun _ => fsd hd rfl
end Reg
end Go.Proofs.Ytlelckdcmlpmdaa
/- A region whose last operations wait for all ahead of them: facts for the others, then a plain list. -/
namespace Go.Proofs.Ytlelckdcmlpmdaa
open Go Go.RowKit Lou
namespace Reg
variable {P : Program} {ops : Array Oper}

/-- From m on, each operation waits for all ahead of it. -/
def tailOk (ops : Array Oper) (m : Nat) : Bool := (List.range ops.size).all fun i => decide (i < m) || (List.range i).all fun j => edge ops i j
theorem tail_edge {m i j : Nat} (h : tailOk ops m = true) (hi : i < ops.size) (hm : m ≤ i) (hj : j < i) : edge ops i j = true := by
  unfold tailOk at h
  rw [List.all_eq_true] at h
  have := h i (by simpa using hi)
  simp only [Bool.or_eq_true, decide_eq_true_eq, List.all_eq_true] at this
  rcases this with h | h
  · omega
  · exact h j (by simpa using hj)
theorem listed_of_edge {i j : Nat} {o : Oper} {listed : Array Bool} (he : edge ops i j = true) (ho : ops[i]? = some o) (hed : ∀ e ∈ o.after.toList, Region.binds .any e = true → listed.getD e.on false = true) : listed.getD j false = true := by
  simp only [edge, ho, List.any_eq_true, Bool.and_eq_true, beq_iff_eq] at he
  obtain ⟨e, hm, hb, rfl⟩ := he
  exact hed e hm hb

/-- One operation, in whatever order, for one post. -/
def StepQ (P : Program) (ops : Array Oper) (Q : Exit → Act → World → Prop) (Inv : Array Bool → Act → World → Prop) (i : Nat) (o : Oper) : Prop :=
  ∀ (listed : Array Bool) (a : Act) (w : World) (K : Act → World → Prop), listed.size = ops.size → listed.getD i true = false → (∀ e ∈ o.after.toList, Region.binds .any e = true → listed.getD e.on false = true) →
    Inv listed a w → (∀ a' w', Inv (listed.setIfInBounds i true) a' w' → K a' w') →
    (if Region.wanted o (yielded ops a.tmps) then o.wp P a w K Q ∨ (o.asks P a w ∧ LetsOut Q) else K (a.put o.dst undef) w)
theorem region_invQ (hm : P.follows .mixedOrders = true) (hcov : backs ops = true) {id : Nat} {a0 : Act} {w0 : World} {Q : Exit → Act → World → Prop} (Inv : Array Bool → Act → World → Prop)
    (h0 : Inv (Array.replicate ops.size false) a0 w0.drew) (hstep : ∀ i o, ops[i]? = some o → StepQ P ops Q Inv i o)
    (hend : ∀ listed a w, listed.size = ops.size → (∀ i, i < ops.size → listed.getD i true = true) → Inv listed a w → Q .normal a w) :
    (Code.region id ops true).wp P Q a0 w0 := by
  refine wp_region_any hm ?_
  have key : ∀ (fuel : Nat) (listed : Array Bool) (a : Act) (w : World), listed.size = ops.size → left listed ≤ fuel → Inv listed a w → wpAny P .any ops Q fuel listed a w := by
    intro fuel
    have hdone : ∀ (listed : Array Bool) (a : Act) (w : World), listed.size = ops.size → Inv listed a w → Region.ready .any ops listed = [] → Q .normal a w := by
      intro listed a w hs hJ hr
      refine hend listed a w hs ?_ hJ
      intro i
      induction i using Nat.strongRecOn with
      | _ i ih =>
        intro hi
        cases hl : listed.getD i true with
        | true => rfl
        | false =>
          exfalso
          have : i ∈ Region.ready .any ops listed := by
            unfold Region.ready
            simp only [List.mem_filter, List.mem_range, Bool.and_eq_true, Bool.not_eq_true']
            refine ⟨hi, hl, ?_⟩
            have ho : ops[i]? = some ops[i] := Array.getElem?_eq_getElem hi
            simp only [ho, Option.map_some, Option.getD_some]
            rw [Array.all_eq_true_iff_forall_mem]
            intro e he
            have hc := backs_spec hcov ho e (Array.mem_toList_iff.2 he)
            cases hb : Region.binds .any e with
            | false => simp
            | true =>
              have hlt := hc hb
              have h1 := ih e.on hlt (by omega)
              have h2 : e.on < listed.size := by omega
              simp only [Array.getD, h2, dif_pos] at h1 ⊢
              simpa using h1
          rw [hr] at this
          cases this
    induction fuel with
    | zero =>
      intro listed a w hs hf hJ
      have hr : Region.ready .any ops listed = [] := by
        rcases hr : Region.ready .any ops listed with _ | ⟨i, r⟩
        · rfl
        · exfalso
          obtain ⟨o, ho, hl, _⟩ := ready_mem (ops := ops) (listed := listed) (i := i) (by rw [hr]; simp)
          have hi : i < listed.size := by rw [hs]; exact (Array.getElem?_eq_some_iff.1 ho).1
          have hmem : listed[i] ∈ listed.toList.filter (! ·) := by
            rw [List.mem_filter]
            refine ⟨by simp, ?_⟩
            have hl' : listed[i] = false := by simpa [Array.getD, hi] using hl
            simp [hl']
          have : 0 < left listed := List.length_pos_of_mem hmem
          omega
      exact ⟨hr, hdone listed a w hs hJ hr⟩
    | succ fuel ih =>
      intro listed a w hs hf hJ
      refine ⟨hdone listed a w hs hJ, fun i hi => ?_⟩
      obtain ⟨o, ho, hl, hedges⟩ := ready_mem hi
      have hisz : i < listed.size := by rw [hs]; exact (Array.getElem?_eq_some_iff.1 ho).1
      have hnext : ∀ a' w', Inv (listed.setIfInBounds i true) a' w' → wpAny P .any ops Q fuel (listed.setIfInBounds i true) a' w' := by
        intro a' w' hv
        refine ih _ _ _ (by simpa using hs) ?_ hv
        have hl' : listed[i] = false := by simpa [Array.getD, hisz] using hl
        have : left (listed.setIfInBounds i true) < left listed := by
          unfold left
          rw [Array.toList_setIfInBounds]
          have e1 : listed.toList = listed.toList.take i ++ false :: listed.toList.drop (i + 1) := by
            have h3 : listed.toList[i]'(by simpa using hisz) = false := by simpa using hl'
            conv => lhs; rw [← List.take_append_drop i listed.toList, List.drop_eq_getElem_cons (by simpa using hisz), h3]
          rw [List.set_eq_take_append_cons_drop, if_pos (by simpa using hisz)]
          conv => rhs; rw [e1]
          simp
        omega
      have := hstep i o ho listed a w (fun a' w' => wpAny P .any ops Q fuel (listed.setIfInBounds i true) a' w') hs hl hedges hJ hnext
      unfold wpOp
      simp only [ho]
      exact this
  refine key ops.size _ a0 _ (by simp) ?_ h0
  unfold left
  simp
/-- What is left of a list of operations, one behind the other. -/
def Rest (P : Program) (ops : Array Oper) (Q : Exit → Act → World → Prop) (i : Nat) (a : Act) (w : World) : Prop := wpList P ops Q (ops.toList.drop i) a w

theorem region_tail (hm : P.follows .mixedOrders = true) (hcov : backs ops = true) {id : Nat} {a0 : Act} {w0 : World} {Q : Exit → Act → World → Prop} (n : Nat) (hn : a0.tmps.size = n) (hdst : dstsIn ops n = true) (m : Nat) (hmt : m ≤ ops.size) (ht : tailOk ops m = true) (hgd : ((ops.toList.drop m).all fun o => o.guard.isNone) = true) (D : List Nat) (hD : dstsAre (ops.extract 0 m) D = true)
    (FS : Tmp → Value → World → Prop) (hstab : ∀ t v w w', FS t v w → Grow w w' → FS t v w') (hah : (ops.toList.take m).all (fun o => (o.looksAt ops).all (ahead ops o)) = true)
    (hstart : ∀ t, (∀ o ∈ ops.toList.take m, o.dst ≠ some t) → FS t (a0.eval (.tmp t)) w0) (hok : AllOk P ops FS w0 (ops.toList.take m))
    (hend : ∀ a w, a.tmps.size = n → a.defers = a0.defers → Grow w0 w → (∀ t, FS t (a.eval (.tmp t)) w) → (∀ t, D.contains t = false → a.eval (.tmp t) = a0.eval (.tmp t)) → Rest P ops Q m a w) :
    (Code.region id ops true).wp P Q a0 w0 := by
  have hdst' : ∀ o ∈ ops.toList, ∀ d, o.dst = some d → d < n := by
    intro o ho d hd
    unfold dstsIn at hdst
    rw [List.all_eq_true] at hdst
    have := hdst o ho
    simpa [hd] using this
  have hD' : ∀ (i : Nat) (o : Oper), i < m → ops[i]? = some o → ∀ d, o.dst = some d → D.contains d = true := by
    intro i o him ho d hd
    unfold dstsAre at hD
    rw [List.all_eq_true] at hD
    have hmem : o ∈ (ops.extract 0 m).toList := by
      simp only [Array.toList_extract, List.extract_eq_take_drop, List.drop_zero, Nat.sub_zero]
      have : (ops.toList.take m)[i]? = some o := by
        rw [List.getElem?_take, if_pos him]
        simpa using ho
      exact List.mem_of_getElem? this
    have := hD o hmem
    simpa [hd] using this
  let J1 : Array Bool → Act → World → Prop := fun listed a w => a.tmps.size = n ∧ a.defers = a0.defers ∧ Grow w0 w ∧ (∀ t, (∀ (j : Nat) (p : Oper), j < m → ops[j]? = some p → p.dst = some t → listed.getD j true = true) → FS t (a.eval (.tmp t)) w) ∧ (∀ t, D.contains t = false → a.eval (.tmp t) = a0.eval (.tmp t))
  let Inv : Array Bool → Act → World → Prop := fun listed a w => ((∀ j, m ≤ j → j < ops.size → listed.getD j true = false) ∧ J1 listed a w) ∨ ∃ i, m < i ∧ i ≤ ops.size ∧ (∀ j, j < i → listed.getD j true = true) ∧ (∀ j, i ≤ j → j < ops.size → listed.getD j true = false) ∧ Rest P ops Q i a w
  have hrest : ∀ listed a w, (∀ j, j < m → listed.getD j true = true) → J1 listed a w → Rest P ops Q m a w := by
    rintro listed a w hall ⟨h1, h2, h3, h4, h5⟩
    exact hend a w h1 h2 h3 (fun t => h4 t fun j p hj _ _ => hall j hj) h5
  refine region_invQ hm hcov Inv ?_ ?_ ?_
  · left
    refine ⟨fun j _ hj => by simp [Array.getD, hj], hn, rfl, Grow.drew w0, ?_, fun _ _ => rfl⟩
    intro t ht
    refine hstab t _ w0 _ (hstart t ?_) (Grow.drew w0)
    intro o ho hd
    obtain ⟨i, hi, rfl⟩ := List.getElem_of_mem ho
    have hi' : i < m ∧ i < ops.size := by simp at hi; omega
    have := ht i ops[i] hi'.1 (Array.getElem?_eq_getElem hi'.2) (by simpa using hd)
    simp [Array.getD, hi'.2] at this
  · intro i o ho listed a w K hs hl hedges hInv hK
    have hisz0 : i < ops.size := (Array.getElem?_eq_some_iff.1 ho).1
    have hisz : i < listed.size := by omega
    have hom : o ∈ ops.toList := List.mem_of_getElem? (by simpa using ho)
    have hff : ∀ j, j < ops.size → (listed.getD j true = true ↔ listed.getD j false = true) := by
      intro j hj
      have : j < listed.size := by omega
      simp [Array.getD, this]
    have hset : ∀ j, j < ops.size → j ≠ i → (listed.setIfInBounds i true).getD j true = listed.getD j true := by
      intro j _ hji
      simp [Array.getD_eq_getD_getElem?, Array.getElem?_setIfInBounds, Ne.symm hji]
    have hseti : (listed.setIfInBounds i true).getD i true = true := by
      simp [Array.getD_eq_getD_getElem?, Array.getElem?_setIfInBounds, hisz]
    by_cases him : i < m
    · rcases hInv with ⟨hno, h1, h2, h3, h4, h5⟩ | ⟨q, hq, _, hall, _⟩
      · have hlook : ∀ t, (o.looksAt ops).contains t = true → FS t (a.eval (.tmp t)) w := by
          intro t htl
          refine h4 t ?_
          intro j p hj hp hd
          have hmem : o ∈ ops.toList.take m := by
            have : (ops.toList.take m)[i]? = some o := by
              rw [List.getElem?_take, if_pos him]
              simpa using ho
            exact List.mem_of_getElem? this
          rw [List.all_eq_true] at hah
          have h6 := hah o hmem
          rw [List.all_eq_true] at h6
          obtain ⟨e, he, hb, rfl⟩ := ahead_spec (h6 t (by simpa using htl)) hp hd
          rw [hff _ (Array.getElem?_eq_some_iff.1 hp).1]
          exact hedges e he hb
        have hmem : o ∈ ops.toList.take m := by
          have : (ops.toList.take m)[i]? = some o := by
            rw [List.getElem?_take, if_pos him]
            simpa using ho
          exact List.mem_of_getElem? this
        refine AllOk.get hok o hmem a w K Q h3 hlook ?_
        intro v w' hg hv
        refine hK _ w' (.inl ⟨?_, ?_, ?_, h3.trans hg, ?_, ?_⟩)
        · intro j hmj hj
          rw [hset j hj (by omega)]
          exact hno j hmj hj
        · cases hd : o.dst with
          | none => simpa [Act.put] using h1
          | some d => simpa [Act.put] using h1
        · cases hd : o.dst with
          | none => simpa [Act.put] using h2
          | some d => simpa [Act.put] using h2
        · intro t htk
          by_cases hdt : o.dst = some t
          · rw [hdt] at hv ⊢
            rw [eval_put_same (by rw [h1]; exact hdst' o hom t hdt)]
            exact hv
          · have := hstab t _ w w' (h4 t fun j p hj hp hd => by
              have h7 := htk j p hj hp hd
              have hji : j ≠ i := by
                intro e
                subst e
                rw [ho] at hp
                injection hp with hp
                subst hp
                exact hdt hd
              rw [hset j (Array.getElem?_eq_some_iff.1 hp).1 hji] at h7
              exact h7) hg
            cases hd : o.dst with
            | none => simpa [Act.put] using this
            | some d =>
              rw [eval_put_other (by intro e; subst e; exact hdt hd)]
              exact this
        · intro t htD
          cases hd : o.dst with
          | none => simpa [Act.put] using h5 t htD
          | some d =>
            rw [eval_put_other (by intro e; subst e; rw [hD' i o him ho t hd] at htD; cases htD)]
            exact h5 t htD
      · exfalso
        rw [hall i (by omega)] at hl
        cases hl
    · have hm' : m ≤ i := by omega
      have hbefore : ∀ j, j < i → listed.getD j true = true := by
        intro j hj
        rw [hff j (by omega)]
        exact listed_of_edge (tail_edge ht hisz0 hm' hj) ho hedges
      have hR : Rest P ops Q i a w ∧ (∀ j, i ≤ j → j < ops.size → listed.getD j true = false) := by
        rcases hInv with ⟨hno, hJ⟩ | ⟨q, hq, hqs, hall, hnone, hR⟩
        · have : i = m := by
            rcases Nat.lt_or_ge m i with h | h
            · have h8 := hbefore m h
              rw [hno m (Nat.le_refl _) (by omega)] at h8
              cases h8
            · omega
          subst this
          exact ⟨hrest listed a w hbefore hJ, hno⟩
        · have : i = q := by
            rcases Nat.lt_trichotomy i q with h | h | h
            · rw [hall i h] at hl; cases hl
            · exact h
            · have h8 := hbefore q h
              rw [hnone q (Nat.le_refl _) (by omega)] at h8
              cases h8
          subst this
          exact ⟨hR, hnone⟩
      obtain ⟨hR, hnone⟩ := hR
      have hdrop : ops.toList.drop i = o :: ops.toList.drop (i + 1) := by
        have hi2 : i < ops.toList.length := by simpa using hisz0
        rw [List.drop_eq_getElem_cons hi2]
        congr 1
        have : ops.toList[i]? = some o := by simpa using ho
        rw [List.getElem?_eq_getElem hi2] at this
        injection this
      unfold Rest at hR
      rw [hdrop] at hR
      have hgn : o.guard = none := by
        rw [List.all_eq_true] at hgd
        have hmem : o ∈ ops.toList.drop m := by
          have : (ops.toList.drop m)[i - m]? = some o := by
            rw [List.getElem?_drop, show m + (i - m) = i from by omega]
            simpa using ho
          exact List.mem_of_getElem? this
        have := hgd o hmem
        cases hg : o.guard with
        | none => rfl
        | some x => rw [hg] at this; cases this
      have hw : Region.wanted o (yielded ops a.tmps) = true := by simp [Region.wanted, hgn]
      simp only [wpList, hw, if_true] at hR
      rw [if_pos hw]
      refine Or.imp ?_ (fun x => x) hR
      refine Oper.wp_mono ?_
      intro a' w' h9
      refine hK a' w' (.inr ⟨i + 1, by omega, by omega, ?_, ?_, h9⟩)
      · intro j hj
        by_cases e : j = i
        · subst e
          exact hseti
        · rw [hset j (by omega) e]
          exact hbefore j (by omega)
      · intro j hj hjs
        rw [hset j hjs (by omega)]
        exact hnone j (by omega) hjs
  · rintro listed a w hs hall (⟨hno, hJ⟩ | ⟨q, hq, hqs, hallq, hnone, hR⟩)
    · have hR := hrest listed a w (fun j hj => hall j (by omega)) hJ
      rcases Nat.lt_or_ge m ops.size with h | h
      · have := hall m h
        rw [hno m (Nat.le_refl _) h] at this
        cases this
      · unfold Rest at hR
        rw [List.drop_of_length_le (by simpa using h)] at hR
        exact hR
    · rcases Nat.lt_or_ge q ops.size with h | h
      · have := hall q h
        rw [hnone q (Nat.le_refl _) h] at this
        cases this
      · unfold Rest at hR
        rw [List.drop_of_length_le (by simpa using h)] at hR
        exact hR
/-- region_tail by two lists of facts. -/
theorem region_tail_facts (hm : P.follows .mixedOrders = true) (hcov : backs ops = true) {id : Nat} {a0 : Act} {w0 : World} {Q : Exit → Act → World → Prop} (n : Nat) (hn : a0.tmps.size = n) (hdst : dstsIn ops n = true) (m : Nat) (hmt : m ≤ ops.size) (ht : tailOk ops m = true) (hgd : ((ops.toList.drop m).all fun o => o.guard.isNone) = true) (D : List Nat) (hD : dstsAre (ops.extract 0 m) D = true)
    (V W : List (Nat × Fact)) (hV : StartOk a0 w0 V) (hW : (W.all fun p => written (ops.extract 0 m) p.1) = true) (hah : (ops.toList.take m).all (fun o => (o.looksAt ops).all (ahead ops o)) = true) (hok : AllOk P ops (FSof (V ++ W)) w0 (ops.toList.take m))
    (hend : ∀ a w, a.tmps.size = n → a.defers = a0.defers → Grow w0 w → (∀ t, FSof (V ++ W) t (a.eval (.tmp t)) w) → (∀ t, D.contains t = false → a.eval (.tmp t) = a0.eval (.tmp t)) → Rest P ops Q m a w) :
    (Code.region id ops true).wp P Q a0 w0 := by
  refine region_tail hm hcov n hn hdst m hmt ht hgd D hD (FSof (V ++ W)) (FSof.stable _) hah ?_ hok hend
  intro t h
  refine start_fact (ops := ops.extract 0 m) V W hV hW t ?_
  intro o ho
  refine h o ?_
  simpa [Array.toList_extract, List.extract_eq_take_drop] using ho
end Reg
end Go.Proofs.Ytlelckdcmlpmdaa
/- Regions that draw their order, walked by hand: loads may be taken first of cells that only the last operation (number fin), which waits for them, writes. -/
namespace Go.Proofs.Ytlelckdcmlpmdaa
open Go Go.RowKit Lou
namespace RegF
section
variable {P : Program} {ops : Array Oper} {Q : Exit → Act → World → Prop} {md : Region.Mode} {S : World → Prop} {fin : Nat}

def wpAnyF (P : Program) (md : Region.Mode) (ops : Array Oper) (Q : Exit → Act → World → Prop) (S : World → Prop) (fin : Nat) : Nat → Array Bool → Act → World → Prop
  | 0, listed, a, w => Region.ready md ops listed = [] ∧ Q .normal a w
  | fuel + 1, listed, a, w =>
    (Region.ready md ops listed = [] → Q .normal a w) ∧
    ∀ i ∈ Region.ready md ops listed, wpOp P ops Q i (fun a' w' => (i ≠ fin → S w') ∧ wpAnyF P md ops Q S fin fuel (listed.setIfInBounds i true) a' w') a w
theorem to_any : ∀ (fuel : Nat) (listed : Array Bool) (a : Act) (w : World), wpAnyF P md ops Q S fin fuel listed a w → wpAny P md ops Q fuel listed a w
  | 0, _, _, _, h => h
  | fuel + 1, _, _, _, h => ⟨h.1, fun i hi => wpOp_mono (fun a' w' h' => to_any fuel _ a' w' h'.2) (h.2 i hi)⟩
/-- i waits for j. -/
def waitsFor (md : Region.Mode) (ops : Array Oper) (i j : Nat) : Bool := match ops[i]? with | some o => o.after.toList.any fun e => Region.binds md e && e.on == j | none => false
theorem waits_spec {i j : Nat} {o : Oper} (h : waitsFor md ops i j = true) (ho : ops[i]? = some o) : ∃ e ∈ o.after, Region.binds md e = true ∧ e.on = j := by
  simp only [waitsFor, ho, List.any_eq_true, Bool.and_eq_true, beq_iff_eq] at h
  obtain ⟨e, hm, hb, he⟩ := h
  exact ⟨e, Array.mem_toList_iff.1 hm, hb, he⟩
theorem first {i : Nat} {oi : Oper} {v : Value} (hi : ops[i]? = some oi) (hsel : ∀ (j : Nat) (o : Oper) cs b, ops[j]? = some o → o.op ≠ .select cs b)
    (hQ : ∀ c a w, Q (.panic c) (a.put oi.dst v) w → Q (.panic c) a w) (hfin : waitsFor md ops fin i = true) :
    ∀ (fuel : Nat) (listed : Array Bool) (a : Act) (w : World),
      (∀ j oj, ops[j]? = some oj → j ≠ i → listed.getD j true = false → (∀ e ∈ oj.after, Region.binds md e = true → e.on ≠ i) → oi.apart ops oj = true) →
      i ∈ Region.ready md ops listed → YieldsIf P ops S oi v a → S w →
      wpAnyF P md ops Q S fin fuel (listed.setIfInBounds i true) (a.put oi.dst v) w → wpAnyF P md ops Q S fin (fuel + 1) listed a w := by
  intro fuel
  induction fuel with
  | zero =>
    intro listed a w _ hr hy hS H
    refine ⟨fun h => (by rw [h] at hr; cases hr), fun j hj => ?_⟩
    by_cases hji : j = i
    · subst hji; exact hy.wpOp hi hS ⟨fun _ => hS, H⟩
    · have := ready_mono hj hji
      rw [H.1] at this
      cases this
  | succ fuel ih =>
    intro listed a w hfree hr hy hS H
    refine ⟨fun h => (by rw [h] at hr; cases hr), fun j hj => ?_⟩
    by_cases hji : j = i
    · subst hji; exact hy.wpOp hi hS ⟨fun _ => hS, H⟩
    · have h1 := H.2 j (ready_mono hj hji)
      obtain ⟨hjun, oj, hoj, hall⟩ := mem_ready.1 hj
      have hnot : ∀ e ∈ oj.after, Region.binds md e = true → e.on ≠ i := fun e he hb heq => by
        have h1 := hall e he hb
        have h0 := (mem_ready.1 hr).1
        rw [heq] at h1
        rcases Nat.lt_or_ge i listed.size with h' | h'
        · simp [h'] at h0 h1; rw [h0] at h1; cases h1
        · simp [Array.getElem?_eq_none h'] at h1
      have hjf : j ≠ fin := fun e => by
        subst e
        obtain ⟨e, he, hb, hon⟩ := waits_spec hfin hoj
        exact hnot e he hb hon
      have h2 := wpOp_putIf hoj (hfree j oj hoj hji hjun hnot) (fun cs b => hsel i oi cs b hi) (fun cs b => hsel j oj cs b hoj) hQ hy h1
      have hfree' : ∀ k ok, ops[k]? = some ok → k ≠ i → (listed.setIfInBounds j true).getD k true = false →
          (∀ e ∈ ok.after, Region.binds md e = true → e.on ≠ i) → oi.apart ops ok = true := fun k ok hk hki hun hno => by
        refine hfree k ok hk hki ?_ hno
        by_cases hjk : j = k
        · subst hjk; exact hjun
        · rw [getD_set_ne true hjk] at hun; exact hun
      refine wpOp_mono (fun a' w' h3 => ⟨h3.2.1, ih (listed.setIfInBounds j true) a' w' hfree' (ready_mono hr (Ne.symm hji)) h3.1 (h3.2.1 hjf) ?_⟩) h2
      rw [Array.setIfInBounds_comm _ _ hji]
      exact h3.2.2
theorem take {fuel : Nat} {listed : Array Bool} {a : Act} {w : World} (i : Nat) {oi : Oper} (v : Value) (hi : ops[i]? = some oi)
    (hs : Region.noSelect ops = true) (hf : Region.free md ops listed i = true) (hr : (Region.ready md ops listed).contains i = true) (hfin : waitsFor md ops fin i = true)
    (hQ : ∀ c a w, Q (.panic c) (a.put oi.dst v) w → Q (.panic c) a w) (hS : S w) (hy : YieldsIf P ops S oi v a)
    (h : wpAnyF P md ops Q S fin fuel (listed.setIfInBounds i true) (a.put oi.dst v) w) : wpAnyF P md ops Q S fin (fuel + 1) listed a w :=
  first hi (Region.noSelect_spec hs) hQ hfin fuel listed a w (Region.free_spec hi hf) (by simpa using hr) hy hS h
theorem yld {o : Oper} {v : Value} {a : Act} (hg : o.guard = none) (h : ∀ w, S w → (execOp a.eval o).run P w = .ok (.value v) w) : YieldsIf P ops S o v a := .inl ⟨by simp [Region.wanted, hg], h⟩
theorem one {fuel : Nat} {listed : Array Bool} {a : Act} {w : World} (i : Nat) (hr : Region.ready md ops listed = [i])
    (h : wpOp P ops Q i (fun a' w' => (i ≠ fin → S w') ∧ wpAnyF P md ops Q S fin fuel (listed.setIfInBounds i true) a' w') a w) : wpAnyF P md ops Q S fin (fuel + 1) listed a w :=
  ⟨fun h0 => (by rw [hr] at h0; cases h0), fun j hj => by
    rw [hr] at hj
    obtain rfl : j = i := by simpa using hj
    exact h⟩
theorem two {fuel : Nat} {listed : Array Bool} {a : Act} {w : World} (i j : Nat) (hr : Region.ready md ops listed = [i, j])
    (h1 : wpOp P ops Q i (fun a' w' => (i ≠ fin → S w') ∧ wpAnyF P md ops Q S fin fuel (listed.setIfInBounds i true) a' w') a w)
    (h2 : wpOp P ops Q j (fun a' w' => (j ≠ fin → S w') ∧ wpAnyF P md ops Q S fin fuel (listed.setIfInBounds j true) a' w') a w) : wpAnyF P md ops Q S fin (fuel + 1) listed a w :=
  ⟨fun h0 => (by rw [hr] at h0; cases h0), fun k hk => by
    rw [hr] at hk
    rcases List.mem_cons.1 hk with rfl | hk
    · exact h1
    · obtain rfl : k = j := by simpa using hk
      exact h2⟩
theorem done {fuel : Nat} {listed : Array Bool} {a : Act} {w : World} (hr : Region.ready md ops listed = []) (h : Q .normal a w) : wpAnyF P md ops Q S fin fuel listed a w := by
  cases fuel with
  | zero => exact ⟨hr, h⟩
  | succ n => exact ⟨fun _ => h, by rw [hr]; simp⟩
theorem start {id : Nat} {a : Act} {w : World} (S : World → Prop) (fin : Nat) (hm : P.follows .mixedOrders = true) (h : wpAnyF P .any ops Q S fin ops.size (Array.replicate ops.size false) a w.drew) : (Code.region id ops true).wp P Q a w :=
  wp_region_any hm (to_any _ _ _ _ h)
/-- One operation carried out: it yields. -/
theorem opV {i : Nat} {o : Oper} {K : Act → World → Prop} {a : Act} {w w' : World} (v : Value) (ho : ops[i]? = some o) (hg : o.guard = none) (hr : (execOp a.eval o).run P w = .ok (.value v) w') (h : K (a.put o.dst v) w') : wpOp P ops Q i K a w := by
  unfold wpOp
  simp only [ho]
  rw [if_pos (by simp [Region.wanted, hg])]
  left
  unfold Oper.wp
  rw [hr]
  exact h
theorem opS {i : Nat} {o : Oper} {K : Act → World → Prop} {a : Act} {w w' : World} (ho : ops[i]? = some o) (hg : o.guard = none) (hr : (execOp a.eval o).run P w = .ok .skip w') (h : K (a.put o.dst undef) w') : wpOp P ops Q i K a w := by
  unfold wpOp
  simp only [ho]
  rw [if_pos (by simp [Region.wanted, hg])]
  left
  unfold Oper.wp
  rw [hr]
  exact h
theorem opC {i : Nat} {o : Oper} {K : Act → World → Prop} {a : Act} {w : World} (f : FuncId) (xs : Array Operand) (ts : Array TypeId) (ho : ops[i]? = some o) (hg : o.guard = none) (hc : o.op = .call { callee := .value (.func f), args := xs, argTypes := ts })
    (hent : ∀ args w, (callFunc f args).run P w = .ok (.enter f args) w) (args : Array Value) (ha : xs.map a.eval = args) (h : Calls P f args w fun e w' => ∃ v, e = .returned v ∧ K (a.put o.dst v) w') : wpOp P ops Q i K a w := by
  unfold wpOp
  simp only [ho]
  rw [if_pos (by simp [Region.wanted, hg])]
  left
  have hr : (execOp a.eval o).run P w = .ok (.enter f args) w := by
    have ef : a.eval (.func f) = .func (.func f) #[] #[] := rfl
    simp [execOp, hc, resolve, ha, ef, Deferred.ofValue, invoke, Result.andThen, hent args w]
  unfold Oper.wp
  rw [hr, Oper.upon_enter]
  refine h.mono ?_
  rintro e w' ⟨v, rfl, hK⟩
  exact hK
end
end RegF
end Go.Proofs.Ytlelckdcmlpmdaa
