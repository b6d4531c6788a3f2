/- loupelaw05: num, works. -/
import Derived.Test.YtlelckdcmlpmdaaFrEnc
import Derived.Test.YtlelckdcmlpmdaaFrAt
import Derived.Test.YtlelckdcmlpmdaaActs2
namespace Go.Proofs.Ytlelckdcmlpmdaa
open Go Go.RowKit Lou

theorem rowPlan : RowTy Try.prog 90 2 := ⟨⟨_, Try.underlying90, rfl⟩, by kernel_rfl⟩
theorem num5_gives (e : Int) (w : World) : Calls Try.prog 60 #[.int .i64 e] w fun x w' => x = .returned (.int .i64 e) ∧ w = w' := by
  go_enter Try.func60, Try.ntmps60
  go_wp2
  go_ret
  exact ⟨rfl, rfl⟩
theorem Reg.gives_num5 (m : Int) (w : World) : Calls Try.prog 60 #[.int .i64 m] w fun e w' => ∃ v, e = .returned v ∧ Grow w w' ∧ v = .int .i64 m :=
  (num5_gives m w).mono (by rintro e w' ⟨rfl, rfl⟩; exact ⟨_, rfl, Grow.refl _, rfl⟩)
def head12 : List UInt8 := [0, 0, 0, 0, 0, 0, 0, 1, 0, 0, 0, 0, 0, 0, 0, 2, 0, 0, 0, 0, 0, 0, 0, 0]
theorem headB12 : headB 1 2 0 0 = head12 := by decide +kernel
set_option maxRecDepth 100000 in
set_option maxHeartbeats 4000000 in
theorem works5_gives (w : World) : Calls Try.prog 62 #[] w fun e w' => e = .returned (.bool true) ∧ Below w.heap.size w w' := by
  have H1 : ∀ W, Calls Try.prog 56 #[.agg #[.int .i64 3, .int .i64 4]] W fun e w' => e = .returned (.tuple #[.int .i64 61, .int .i64 0]) ∧ Below W.heap.size W w' := fun W => sectors_gives 3 4 W
  have H2 : ∀ W, Calls Try.prog 57 #[.agg #[.int .i64 3, .int .i64 4], .int .i64 2] W fun e w' => e = .returned (.tuple #[.int .i64 20, .int .i64 0]) ∧ Below W.heap.size W w' := fun W => frameAt_gives 3 4 2 W
  have H3 : ∀ W, Calls Try.prog 58 #[.agg #[.int .i64 3, .int .i64 4], .int .i64 0] W fun e w' => e = .returned (.tuple #[.int .i64 29, .int .i64 0]) ∧ Below W.heap.size W w' := fun W => pageAt_gives 3 4 0 W
  have H4 : ∀ W, Calls Try.prog 58 #[.agg #[.int .i64 3, .int .i64 4], .int .i64 4] W fun e w' => e = .returned (.tuple #[.int .i64 0, .int .i64 4]) ∧ Below W.heap.size W w' := fun W => pageAt_gives 3 4 4 W
  have H5 : ∀ W, Calls Try.prog 70 #[.agg #[.int .u64 1, .int .u64 2, .int .i64 0, .int .i64 0]] W (GivesBE W (twiceB head12) 0) := fun W => by
    have h := encodeHead_gives 1 2 0 0 W
    have e1 : hEnc 1 2 0 0 = twiceB head12 := by
      rw [← headB12]
      rfl
    rw [e1] at h
    exact h
  have hb0 := BlkIs.new w 90 #[.int .i64 3, .int .i64 4]
  go_enter Try.func62, Try.ntmps62
  go_wp2_with fail
  refine (H1 _).mono ?_
  rintro x W1 ⟨rfl, hB⟩
  have hB1 : Below w.heap.size w W1 := ((Below.refl _ w).alloc (Nat.le_refl _) _).trans (hB.mono (by simp))
  have hb1 := hb0.below hB hb0.lt
  clear hB hb0 H1
  go_wp2_with (first
    | (refine wp_loadW rfl 90 (.tmp 1) rfl w.heap.size rfl rowPlan (by assumption) (by rfl) ?_)
    | (go_at_call 57; refine (H2 _).mono ?_; rintro x W2 ⟨rfl, hB⟩; have hB2 := hB1.trans (hB.mono hB1.size); have hb2 := hb1.below hB hb1.lt; clear hB)
    | (go_at_call 58; (with_reducible refine (H3 _).mono ?_); rintro x W3 ⟨rfl, hB⟩; have hB3 := hB2.trans (hB.mono hB2.size); have hb3 := hb2.below hB hb2.lt; clear hB)
    | (go_at_call 58; (with_reducible refine (H4 _).mono ?_); rintro x W4 ⟨rfl, hB⟩; have hB4 := hB3.trans (hB.mono hB3.size); clear hB)
    | (go_at_call 70; (with_reducible refine (H5 _).mono ?_); rintro x W5 ⟨A, c, rfl, hin, hB⟩; have hB5 := hB4.trans (hB.mono hB4.size); clear hB))
  have hle := hin.le
  have hd : (twiceB head12).length = 64 := by rw [twiceB_length]; rfl
  have hd7 : ∀ h, ((twiceB head12)[7]'h) = 1 := by decide +kernel
  have hd15 : ∀ h, ((twiceB head12)[15]'h) = 2 := by decide +kernel
  have hd24 : (twiceB head12).take 24 = head12 := twiceB_take head12
  have hd28 : ((twiceB head12).drop 24).take (28 - 24) = fixL 4 (sumL head12) := by decide +kernel
  clear H2 H3 H4 H5 hb1 hb2 hb3 hB1 hB2 hB3 hB4
  generalize twiceB head12 = D at *
  obtain ⟨g, o, rfl, hg, hc⟩ := hin.lies (by omega)
  have hk7 : 7 < D.length := by omega
  have hk15 : 15 < D.length := by omega
  have hk24 : 24 ≤ D.length := by omega
  have hk28 : 28 ≤ D.length := by omega
  have hc7 : ∀ w', Grow W5 w' → w'.cell? ⟨g, o + 7, none⟩ = some (.int .u8 1) := fun w' hG => (hG.cell (p := ⟨g, o + 7, none⟩) hg).trans (by rw [hc 7 hk7, hd7]; rfl)
  have hc15 : ∀ w', Grow W5 w' → w'.cell? ⟨g, o + 15, none⟩ = some (.int .u8 2) := fun w' hG => (hG.cell (p := ⟨g, o + 15, none⟩) hg).trans (by rw [hc 15 hk15, hd15]; rfl)
  have hS32 := sumL_lt head12
  have hsum : ∀ w', Grow W5 w' → Calls Try.prog 37 #[.slice (some ⟨g, o, none⟩) (D.take 24).length c] w' fun e w2 => e = .returned (.int .u32 (sumL head12 : Int)) ∧ w' = w2 := fun w' hG => by
    have h := refSum_gives w' _ _ _ _ ((hin.below hG).take 24 c hk24 (by omega) (Nat.le_refl _))
    rw [hd24] at h ⊢
    exact h
  have hfix : ∀ w', Calls Try.prog 44 #[.int .u64 (sumL head12 : Int), .int .i64 4] w' (GivesB w' (fixL 4 (sumL head12))) := fun w' => refFixed_gives 4 (sumL head12) (by omega) (by omega) w'
  have hstr : ∀ w', Grow W5 w' → (convert 30 9 (.slice (cutA (some ⟨g, o, none⟩) c 24) ((D.drop 24).take (28 - 24)).length (c - 24))).run Try.prog w' = .ok (.string (str (fixL 4 (sumL head12)))) w' := fun w' hG => by
    have h := (((hin.below hG).drop 24 hk24).take (28 - 24) (c - 24) (by simp; omega) (by omega) (Nat.le_refl _)).string
    rw [hd28] at h ⊢
    exact h
  have hlen64 : ∀ {ρ : Operand → Value} {w : World} {o2 : Oper} {t : Tmp} {gg oo : Nat}, o2.op = .call { callee := .builtin .len, args := #[.tmp t], argTypes := #[30] } → ρ (.tmp t) = .slice (some ⟨gg, oo, none⟩) D.length c → (execOp ρ o2).run Try.prog w = .ok (.value (.int .i64 64)) w := fun ho h => by
    have hT : Try.prog.underlying 30 = some (.slice (Try.prog.elem 30)) := by kernel_rfl
    rw [hd] at h
    simp [execOp, ho, h, go_sem, resolve, invoke, run_len_slice _ _ _ _ _ _ hT]
  generalize sumL head12 = S at *
  clear hd hd7 hd15 hd24 hd28 hc
  open Reg in
  refine region_facts (by kernel_rfl) (by kernel_rfl) 96 rfl (by kernel_rfl)
    [(2, .val (.int .i64 61)), (3, .val (.int .i64 0)), (4, .val (.int .i64 20)), (5, .val (.int .i64 0)), (6, .val (.int .i64 29)), (7, .val (.int .i64 0)), (9, .val (.int .i64 4)), (10, .val (.slice (some ⟨g, o, none⟩) D.length c)), (11, .val (.int .i64 0))]
    [(38, .val (.int .i64 0)), (39, .val (.int .i64 0)), (40, .val (.int .i64 0)), (41, .val (.int .i64 0)), (42, .val (.int .i64 0)), (43, .val (.int .i64 0)), (44, .val (.int .i64 0)), (45, .val (.int .i64 0)), (46, .val (.int .i64 0)), (47, .val (.int .i64 0)), (48, .val (.int .i64 0)), (49, .val (.bool true)), (50, .val (.bool true)), (51, .val (.int .i64 61)), (52, .val (.bool true)), (53, .val (.bool true)), (54, .val (.bool true)), (55, .val (.int .i64 20)), (56, .val (.bool true)), (57, .val (.bool true)), (58, .val (.bool true)), (59, .val (.int .i64 29)), (60, .val (.bool true)), (61, .val (.bool true)), (62, .val (.bool true)), (63, .val (.int .i64 4)), (64, .val (.int .i64 4)), (65, .val (.bool true)), (66, .val (.bool true)), (67, .val (.bool true)), (68, .val (.slice (some ⟨g, o, none⟩) D.length c)), (69, .val (.int .i64 64)), (70, .val (.bool true)), (71, .val (.bool true)), (72, .val (.bool true)), (73, .val (.slice (some ⟨g, o, none⟩) D.length c)), (74, .val (.pointer (some ⟨g, o + 7, none⟩))), (75, .val (.int .u8 1)), (76, .val (.bool true)), (77, .val (.bool true)), (78, .val (.bool true)), (79, .val (.slice (some ⟨g, o, none⟩) D.length c)), (80, .val (.pointer (some ⟨g, o + 15, none⟩))), (81, .val (.int .u8 2)), (82, .val (.bool true)), (83, .val (.bool true)), (84, .val (.bool true)), (85, .val (.slice (some ⟨g, o, none⟩) D.length c)), (86, .val (.slice (cutA (some ⟨g, o, none⟩) c 24) ((D.drop 24).take (28 - 24)).length (c - 24))), (87, .val (.string (str (fixL 4 S)))), (88, .val (.slice (some ⟨g, o, none⟩) D.length c)), (89, .val (.slice (some ⟨g, o, none⟩) (D.take 24).length c)), (90, .val (.int .u32 (S : Int))), (91, .val (.int .u64 (S : Int))), (92, .res (fixL 4 S)), (93, .val (.string (str (fixL 4 S)))), (94, .val (.bool true)), (95, .val (.bool true)), (0, .val (.bool true))]
    ⟨rfl, rfl, rfl, rfl, rfl, rfl, rfl, rfl, rfl, trivial⟩ (by kernel_rfl)
    (allOk_cons (ok_none rfl (l_mvF 3 (.val (.int .i64 0)) (.inl rfl) (by kernel_rfl) (by kernel_rfl) (by kernel_rfl)))
    <| allOk_cons (ok_none rfl (l_call 60 _ _ rfl (enters_of Try.func60 (by kernel_rfl) rfl) #[.int .i64 0] (.val (.int .i64 0)) (args1 (hs 38 (.int .i64 0) (by kernel_rfl) (by kernel_rfl))) (fun w hg => gives_num5 _ w) (by kernel_rfl)))
    <| allOk_cons (ok_none rfl (l_mvF 5 (.val (.int .i64 0)) (.inl rfl) (by kernel_rfl) (by kernel_rfl) (by kernel_rfl)))
    <| allOk_cons (ok_none rfl (l_call 60 _ _ rfl (enters_of Try.func60 (by kernel_rfl) rfl) #[.int .i64 0] (.val (.int .i64 0)) (args1 (hs 40 (.int .i64 0) (by kernel_rfl) (by kernel_rfl))) (fun w hg => gives_num5 _ w) (by kernel_rfl)))
    <| allOk_cons (ok_none rfl (l_add (.tmp 39) (.tmp 41) _ _ .i64 0 0 0 rfl Try.underlying3 (hs 39 (.int .i64 0) (by kernel_rfl) (by kernel_rfl)) (hs 41 (.int .i64 0) (by kernel_rfl) (by kernel_rfl)) (by decide) (by kernel_rfl)))
    <| allOk_cons (ok_none rfl (l_mvF 7 (.val (.int .i64 0)) (.inl rfl) (by kernel_rfl) (by kernel_rfl) (by kernel_rfl)))
    <| allOk_cons (ok_none rfl (l_call 60 _ _ rfl (enters_of Try.func60 (by kernel_rfl) rfl) #[.int .i64 0] (.val (.int .i64 0)) (args1 (hs 43 (.int .i64 0) (by kernel_rfl) (by kernel_rfl))) (fun w hg => gives_num5 _ w) (by kernel_rfl)))
    <| allOk_cons (ok_none rfl (l_add (.tmp 42) (.tmp 44) _ _ .i64 0 0 0 rfl Try.underlying3 (hs 42 (.int .i64 0) (by kernel_rfl) (by kernel_rfl)) (hs 44 (.int .i64 0) (by kernel_rfl) (by kernel_rfl)) (by decide) (by kernel_rfl)))
    <| allOk_cons (ok_none rfl (l_mvF 11 (.val (.int .i64 0)) (.inl rfl) (by kernel_rfl) (by kernel_rfl) (by kernel_rfl)))
    <| allOk_cons (ok_none rfl (l_call 60 _ _ rfl (enters_of Try.func60 (by kernel_rfl) rfl) #[.int .i64 0] (.val (.int .i64 0)) (args1 (hs 46 (.int .i64 0) (by kernel_rfl) (by kernel_rfl))) (fun w hg => gives_num5 _ w) (by kernel_rfl)))
    <| allOk_cons (ok_none rfl (l_add (.tmp 45) (.tmp 47) _ _ .i64 0 0 0 rfl Try.underlying3 (hs 45 (.int .i64 0) (by kernel_rfl) (by kernel_rfl)) (hs 47 (.int .i64 0) (by kernel_rfl) (by kernel_rfl)) (by decide) (by kernel_rfl)))
    <| allOk_cons (ok_none rfl (l_eqi (.tmp 48) (.const (Go.Value.int Go.IntKind.i64 0)) _ _ .i64 (0) rfl Try.underlying3 (hs 48 (.int .i64 0) (by kernel_rfl) (by kernel_rfl)) (hc _) (by kernel_rfl)))
    <| allOk_cons (ok_none rfl (l_mvF 49 (.val (.bool true)) (.inl rfl) (by kernel_rfl) (by kernel_rfl) (by kernel_rfl)))
    <| allOk_cons (okg 12 true 50 rfl (by kernel_rfl) (by kernel_rfl) (by kernel_rfl) (l_mvF 2 (.val (.int .i64 61)) (.inl rfl) (by kernel_rfl) (by kernel_rfl) (by kernel_rfl)))
    <| allOk_cons (okg 12 true 50 rfl (by kernel_rfl) (by kernel_rfl) (by kernel_rfl) (l_eqi (.tmp 51) (.const (Go.Value.int Go.IntKind.i64 61)) _ _ .i64 (61) rfl Try.underlying3 (hs 51 (.int .i64 61) (by kernel_rfl) (by kernel_rfl)) (hc _) (by kernel_rfl)))
    <| allOk_cons (ok_none rfl (l_pick (.tmp 50) (.tmp 52) (.bool true) rfl (hs 50 (.bool true) (by kernel_rfl) (by kernel_rfl)) (hs 52 (.bool true) (by kernel_rfl) (by kernel_rfl)) (by kernel_rfl)))
    <| allOk_cons (ok_none rfl (l_mvF 53 (.val (.bool true)) (.inl rfl) (by kernel_rfl) (by kernel_rfl) (by kernel_rfl)))
    <| allOk_cons (okg 16 true 54 rfl (by kernel_rfl) (by kernel_rfl) (by kernel_rfl) (l_mvF 4 (.val (.int .i64 20)) (.inl rfl) (by kernel_rfl) (by kernel_rfl) (by kernel_rfl)))
    <| allOk_cons (okg 16 true 54 rfl (by kernel_rfl) (by kernel_rfl) (by kernel_rfl) (l_eqi (.tmp 55) (.const (Go.Value.int Go.IntKind.i64 20)) _ _ .i64 (20) rfl Try.underlying3 (hs 55 (.int .i64 20) (by kernel_rfl) (by kernel_rfl)) (hc _) (by kernel_rfl)))
    <| allOk_cons (ok_none rfl (l_pick (.tmp 54) (.tmp 56) (.bool true) rfl (hs 54 (.bool true) (by kernel_rfl) (by kernel_rfl)) (hs 56 (.bool true) (by kernel_rfl) (by kernel_rfl)) (by kernel_rfl)))
    <| allOk_cons (ok_none rfl (l_mvF 57 (.val (.bool true)) (.inl rfl) (by kernel_rfl) (by kernel_rfl) (by kernel_rfl)))
    <| allOk_cons (okg 20 true 58 rfl (by kernel_rfl) (by kernel_rfl) (by kernel_rfl) (l_mvF 6 (.val (.int .i64 29)) (.inl rfl) (by kernel_rfl) (by kernel_rfl) (by kernel_rfl)))
    <| allOk_cons (okg 20 true 58 rfl (by kernel_rfl) (by kernel_rfl) (by kernel_rfl) (l_eqi (.tmp 59) (.const (Go.Value.int Go.IntKind.i64 29)) _ _ .i64 (29) rfl Try.underlying3 (hs 59 (.int .i64 29) (by kernel_rfl) (by kernel_rfl)) (hc _) (by kernel_rfl)))
    <| allOk_cons (ok_none rfl (l_pick (.tmp 58) (.tmp 60) (.bool true) rfl (hs 58 (.bool true) (by kernel_rfl) (by kernel_rfl)) (hs 60 (.bool true) (by kernel_rfl) (by kernel_rfl)) (by kernel_rfl)))
    <| allOk_cons (ok_none rfl (l_mvF 61 (.val (.bool true)) (.inl rfl) (by kernel_rfl) (by kernel_rfl) (by kernel_rfl)))
    <| allOk_cons (okg 24 true 62 rfl (by kernel_rfl) (by kernel_rfl) (by kernel_rfl) (l_mvF 9 (.val (.int .i64 4)) (.inl rfl) (by kernel_rfl) (by kernel_rfl) (by kernel_rfl)))
    <| allOk_cons (okg 24 true 62 rfl (by kernel_rfl) (by kernel_rfl) (by kernel_rfl) (l_call 60 _ _ rfl (enters_of Try.func60 (by kernel_rfl) rfl) #[.int .i64 4] (.val (.int .i64 4)) (args1 (hs 63 (.int .i64 4) (by kernel_rfl) (by kernel_rfl))) (fun w hg => gives_num5 _ w) (by kernel_rfl)))
    <| allOk_cons (okg 24 true 62 rfl (by kernel_rfl) (by kernel_rfl) (by kernel_rfl) (l_eqi (.tmp 64) (.const (Go.Value.int Go.IntKind.i64 4)) _ _ .i64 (4) rfl Try.underlying3 (hs 64 (.int .i64 4) (by kernel_rfl) (by kernel_rfl)) (hc _) (by kernel_rfl)))
    <| allOk_cons (ok_none rfl (l_pick (.tmp 62) (.tmp 65) (.bool true) rfl (hs 62 (.bool true) (by kernel_rfl) (by kernel_rfl)) (hs 65 (.bool true) (by kernel_rfl) (by kernel_rfl)) (by kernel_rfl)))
    <| allOk_cons (ok_none rfl (l_mvF 66 (.val (.bool true)) (.inl rfl) (by kernel_rfl) (by kernel_rfl) (by kernel_rfl)))
    <| allOk_cons (okg 29 true 67 rfl (by kernel_rfl) (by kernel_rfl) (by kernel_rfl) (l_mvF 10 (.val (.slice (some ⟨g, o, none⟩) D.length c)) (.inl rfl) (by kernel_rfl) (by kernel_rfl) (by kernel_rfl)))
    <| allOk_cons (okg 29 true 67 rfl (by kernel_rfl) (by kernel_rfl) (by kernel_rfl) (l_run1W (.tmp 68) (.val (.int .i64 64)) (.slice (some ⟨g, o, none⟩) D.length c) (hs 68 _ (by kernel_rfl) (by kernel_rfl)) (fun ρ w hg h => ⟨_, w, hlen64 rfl h, Grow.refl _, rfl⟩) (by kernel_rfl)))
    <| allOk_cons (okg 29 true 67 rfl (by kernel_rfl) (by kernel_rfl) (by kernel_rfl) (l_eqi (.tmp 69) (.const (Go.Value.int Go.IntKind.i64 64)) _ _ .i64 (64) rfl Try.underlying3 (hs 69 (.int .i64 64) (by kernel_rfl) (by kernel_rfl)) (hc _) (by kernel_rfl)))
    <| allOk_cons (ok_none rfl (l_pick (.tmp 67) (.tmp 70) (.bool true) rfl (hs 67 (.bool true) (by kernel_rfl) (by kernel_rfl)) (hs 70 (.bool true) (by kernel_rfl) (by kernel_rfl)) (by kernel_rfl)))
    <| allOk_cons (ok_none rfl (l_mvF 71 (.val (.bool true)) (.inl rfl) (by kernel_rfl) (by kernel_rfl) (by kernel_rfl)))
    <| allOk_cons (okg 34 true 72 rfl (by kernel_rfl) (by kernel_rfl) (by kernel_rfl) (l_mvF 10 (.val (.slice (some ⟨g, o, none⟩) D.length c)) (.inl rfl) (by kernel_rfl) (by kernel_rfl) (by kernel_rfl)))
    <| allOk_cons (okg 34 true 72 rfl (by kernel_rfl) (by kernel_rfl) (by kernel_rfl) (l_idxS (.tmp 73) (.const (Go.Value.int Go.IntKind.i64 7)) g o D.length c 7 hk7 rfl (hs 73 (.slice (some ⟨g, o, none⟩) D.length c) (by kernel_rfl) (by kernel_rfl)) (hc _) (by kernel_rfl)))
    <| allOk_cons (okg 34 true 72 rfl (by kernel_rfl) (by kernel_rfl) (by kernel_rfl) (l_load (.tmp 74) (⟨g, o + 7, none⟩) _ (.int .u8 1) (by intro w; simp [go_sem, Try.underlying5]) rfl (hs 74 (.pointer (some ⟨g, o + 7, none⟩)) (by kernel_rfl) (by kernel_rfl)) (fun w hg => hc7 w hg) (by kernel_rfl)))
    <| allOk_cons (okg 34 true 72 rfl (by kernel_rfl) (by kernel_rfl) (by kernel_rfl) (l_eqi (.tmp 75) (.const (Go.Value.int Go.IntKind.u8 1)) _ _ .u8 (1) rfl Try.underlying5 (hs 75 (.int .u8 1) (by kernel_rfl) (by kernel_rfl)) (hc _) (by kernel_rfl)))
    <| allOk_cons (ok_none rfl (l_pick (.tmp 72) (.tmp 76) (.bool true) rfl (hs 72 (.bool true) (by kernel_rfl) (by kernel_rfl)) (hs 76 (.bool true) (by kernel_rfl) (by kernel_rfl)) (by kernel_rfl)))
    <| allOk_cons (ok_none rfl (l_mvF 77 (.val (.bool true)) (.inl rfl) (by kernel_rfl) (by kernel_rfl) (by kernel_rfl)))
    <| allOk_cons (okg 40 true 78 rfl (by kernel_rfl) (by kernel_rfl) (by kernel_rfl) (l_mvF 10 (.val (.slice (some ⟨g, o, none⟩) D.length c)) (.inl rfl) (by kernel_rfl) (by kernel_rfl) (by kernel_rfl)))
    <| allOk_cons (okg 40 true 78 rfl (by kernel_rfl) (by kernel_rfl) (by kernel_rfl) (l_idxS (.tmp 79) (.const (Go.Value.int Go.IntKind.i64 15)) g o D.length c 15 hk15 rfl (hs 79 (.slice (some ⟨g, o, none⟩) D.length c) (by kernel_rfl) (by kernel_rfl)) (hc _) (by kernel_rfl)))
    <| allOk_cons (okg 40 true 78 rfl (by kernel_rfl) (by kernel_rfl) (by kernel_rfl) (l_load (.tmp 80) (⟨g, o + 15, none⟩) _ (.int .u8 2) (by intro w; simp [go_sem, Try.underlying5]) rfl (hs 80 (.pointer (some ⟨g, o + 15, none⟩)) (by kernel_rfl) (by kernel_rfl)) (fun w hg => hc15 w hg) (by kernel_rfl)))
    <| allOk_cons (okg 40 true 78 rfl (by kernel_rfl) (by kernel_rfl) (by kernel_rfl) (l_eqi (.tmp 81) (.const (Go.Value.int Go.IntKind.u8 2)) _ _ .u8 (2) rfl Try.underlying5 (hs 81 (.int .u8 2) (by kernel_rfl) (by kernel_rfl)) (hc _) (by kernel_rfl)))
    <| allOk_cons (ok_none rfl (l_pick (.tmp 78) (.tmp 82) (.bool true) rfl (hs 78 (.bool true) (by kernel_rfl) (by kernel_rfl)) (hs 82 (.bool true) (by kernel_rfl) (by kernel_rfl)) (by kernel_rfl)))
    <| allOk_cons (ok_none rfl (l_mvF 83 (.val (.bool true)) (.inl rfl) (by kernel_rfl) (by kernel_rfl) (by kernel_rfl)))
    <| allOk_cons (okg 46 true 84 rfl (by kernel_rfl) (by kernel_rfl) (by kernel_rfl) (l_mvF 10 (.val (.slice (some ⟨g, o, none⟩) D.length c)) (.inl rfl) (by kernel_rfl) (by kernel_rfl) (by kernel_rfl)))
    <| allOk_cons (okg 46 true 84 rfl (by kernel_rfl) (by kernel_rfl) (by kernel_rfl) (l_run3W (.tmp 85) (.const (.int .i64 24)) (.const (.int .i64 28)) (.val (.slice (cutA (some ⟨g, o, none⟩) c 24) ((D.drop 24).take (28 - 24)).length (c - 24))) (.slice (some ⟨g, o, none⟩) D.length c) (.int .i64 ((24 : Nat) : Int)) (.int .i64 ((28 : Nat) : Int)) (hs 85 _ (by kernel_rfl) (by kernel_rfl)) (hc _) (hc _) (fun ρ w hg h1 h2 h3 => ⟨_, w, cut_mid rfl h1 h2 h3 (by decide) hk28 hle, Grow.refl _, rfl⟩) (by kernel_rfl)))
    <| allOk_cons (okg 46 true 84 rfl (by kernel_rfl) (by kernel_rfl) (by kernel_rfl) (l_convS (.tmp 86) _ _ (.slice (cutA (some ⟨g, o, none⟩) c 24) ((D.drop 24).take (28 - 24)).length (c - 24)) (.string (str (fixL 4 S))) rfl (hs 86 (.slice (cutA (some ⟨g, o, none⟩) c 24) ((D.drop 24).take (28 - 24)).length (c - 24)) (by kernel_rfl) (by kernel_rfl)) (fun w hg => hstr w hg) (by kernel_rfl)))
    <| allOk_cons (okg 46 true 84 rfl (by kernel_rfl) (by kernel_rfl) (by kernel_rfl) (l_mvF 10 (.val (.slice (some ⟨g, o, none⟩) D.length c)) (.inl rfl) (by kernel_rfl) (by kernel_rfl) (by kernel_rfl)))
    <| allOk_cons (okg 46 true 84 rfl (by kernel_rfl) (by kernel_rfl) (by kernel_rfl) (l_run2W (.tmp 88) (.const (.int .i64 24)) (.val (.slice (some ⟨g, o, none⟩) (D.take 24).length c)) (.slice (some ⟨g, o, none⟩) D.length c) (.int .i64 ((24 : Nat) : Int)) (hs 88 _ (by kernel_rfl) (by kernel_rfl)) (hc _) (fun ρ w hg h1 h2 => ⟨_, w, cut_take rfl h1 h2 hk24 hle, Grow.refl _, rfl⟩) (by kernel_rfl)))
    <| allOk_cons (okg 46 true 84 rfl (by kernel_rfl) (by kernel_rfl) (by kernel_rfl) (l_call 37 _ _ rfl (enters_of Try.func37 (by kernel_rfl) rfl) #[.slice (some ⟨g, o, none⟩) (D.take 24).length c] (.val (.int .u32 (S : Int))) (args1 (hs 89 (.slice (some ⟨g, o, none⟩) (D.take 24).length c) (by kernel_rfl) (by kernel_rfl))) (fun w hg => gives_same (hsum w hg)) (by kernel_rfl)))
    <| allOk_cons (okg 46 true 84 rfl (by kernel_rfl) (by kernel_rfl) (by kernel_rfl) (l_convS (.tmp 90) _ _ (.int .u32 (S : Int)) (.int .u64 (S : Int)) rfl (hs 90 (.int .u32 (S : Int)) (by kernel_rfl) (by kernel_rfl)) (fun w hg => conv_45_41 S hS32 w) (by kernel_rfl)))
    <| allOk_cons (okg 46 true 84 rfl (by kernel_rfl) (by kernel_rfl) (by kernel_rfl) (l_call 44 _ _ rfl (enters_of Try.func44 (by kernel_rfl) rfl) #[.int .u64 (S : Int), (Go.Value.int Go.IntKind.i64 4)] (.res (fixL 4 S)) (args2 (hs 91 (.int .u64 (S : Int)) (by kernel_rfl) (by kernel_rfl)) (hc _)) (fun w hg => gives_res (hfix w)) (by kernel_rfl)))
    <| allOk_cons (okg 46 true 84 rfl (by kernel_rfl) (by kernel_rfl) (by kernel_rfl) (l_conv 92 (fixL 4 S) rfl (by kernel_rfl) (by kernel_rfl) (by kernel_rfl)))
    <| allOk_cons (okg 46 true 84 rfl (by kernel_rfl) (by kernel_rfl) (by kernel_rfl) (l_eqs (.tmp 87) (.tmp 93) _ _ ((str (fixL 4 S))) rfl Try.underlying9 (hs 87 (.string (str (fixL 4 S))) (by kernel_rfl) (by kernel_rfl)) (hs 93 (.string (str (fixL 4 S))) (by kernel_rfl) (by kernel_rfl)) (by kernel_rfl)))
    <| allOk_cons (ok_none rfl (l_pick (.tmp 84) (.tmp 94) (.bool true) rfl (hs 84 (.bool true) (by kernel_rfl) (by kernel_rfl)) (hs 94 (.bool true) (by kernel_rfl) (by kernel_rfl)) (by kernel_rfl)))
    <| allOk_cons (ok_none rfl (l_mvF 95 (.val (.bool true)) (.inr rfl) (by kernel_rfl) (by kernel_rfl) (by kernel_rfl)))
    <| allOk_nil) ?_
  intro a w6 _ hdef hG hF
  have hr : a.eval (.tmp 0) = .bool true := hF 0
  have hB6 : Below w.heap.size w w6 := hB5.trans (hG.mono hB5.size)
  clear hF
  simp only [Exit.then]
  refine ‹∀ (a : Act) (w : World), Code.wp Try.prog Code.ret _ a w → _› a w6 ?_
  refine Reg.ends1 0 (.bool true) rfl hr hdef ?_
  exact ⟨rfl, hB6⟩
end Go.Proofs.Ytlelckdcmlpmdaa
