/- frame.head: a head's sector. -/
import Derived.Test.YtlelckdcmlpmdaaLists
import Derived.Test.YtlelckdcmlpmdaaFrFits
import Derived.Test.YtlelckdcmlpmdaaRepeat
import Derived.Test.YtlelckdcmlpmdaaOctFix
import Derived.Test.YtlelckdcmlpmdaaFrMath
import Derived.Test.YtlelckdcmlpmdaaSteps
import Derived.Test.YtlelckdcmlpmdaaWhole
namespace Go.Proofs.Ytlelckdcmlpmdaa
open Go Go.RowKit Lou

theorem conv_3_45 (r : Nat) (h : r < 4294967296) (w : World) : (convert 3 45 (.int .i64 r)).run Try.prog w = .ok (.int .u32 r) w := by
  have e : IntKind.u32.wrap (r : Int) = r := by
    show (r : Int) % 4294967296 = r
    omega
  have k : Try.prog.intKind 45 = .u32 := by kernel_rfl
  have h := run_convert_int (P := Try.prog) (w := w) 3 45 .i64 r (by kernel_rfl) (by kernel_rfl)
  rw [k, e] at h
  exact h

set_option maxRecDepth 100000 in
set_option maxHeartbeats 4000000 in
theorem head_gives (s e z c : Nat) (hz : z ≤ 2000) (hc : c ≤ 2000) (w : World) :
    Calls Try.prog 137 #[.agg #[.int .u64 (s : Int), .int .u64 (e : Int), .int .i64 (z : Int), .int .i64 (c : Int)]] w fun x w' => x = .returned (.agg ((headW s e z c).map b8).toArray) ∧ Below w.heap.size w w' := by
  have hz32 := conv_3_45 z (by omega)
  have hc32 := conv_3_45 c (by omega)
  have hcat : ∀ w u, Lists [fixL 8 s, fixL 8 e, fixL 4 z, fixL 4 c] u w → Calls Try.prog 142 #[u] w fun e' w' => ∃ v, e' = .returned v ∧ Grow w w' ∧ (Fact.res (headB s e z c)).holds v w' := fun w u hu =>
    Reg.gives_res (concatL_gives hu (by simp) (by have := headB_length s e z c; unfold headB at this; omega))
  have hBw : Below w.heap.size w ((w.alloc (.cells #[.int .u64 (s : Int), .int .u64 (e : Int), .int .i64 (z : Int), .int .i64 (c : Int)] 109)).alloc (.cells #[.int .u8 0, .int .u8 0, .int .u8 0, .int .u8 0, .int .u8 0, .int .u8 0, .int .u8 0, .int .u8 0, .int .u8 0, .int .u8 0, .int .u8 0, .int .u8 0, .int .u8 0, .int .u8 0, .int .u8 0, .int .u8 0, .int .u8 0, .int .u8 0, .int .u8 0, .int .u8 0, .int .u8 0, .int .u8 0, .int .u8 0, .int .u8 0, .int .u8 0, .int .u8 0, .int .u8 0, .int .u8 0, .int .u8 0, .int .u8 0, .int .u8 0, .int .u8 0, .int .u8 0, .int .u8 0, .int .u8 0, .int .u8 0, .int .u8 0, .int .u8 0, .int .u8 0, .int .u8 0, .int .u8 0, .int .u8 0, .int .u8 0, .int .u8 0, .int .u8 0, .int .u8 0, .int .u8 0, .int .u8 0, .int .u8 0, .int .u8 0, .int .u8 0, .int .u8 0, .int .u8 0, .int .u8 0, .int .u8 0, .int .u8 0, .int .u8 0, .int .u8 0, .int .u8 0, .int .u8 0, .int .u8 0, .int .u8 0, .int .u8 0, .int .u8 0] 236)) := ((Below.refl _ w).alloc (Nat.le_refl _) _).alloc (by simp) _
  have hbh : BlkIs ((w.alloc (.cells #[.int .u64 (s : Int), .int .u64 (e : Int), .int .i64 (z : Int), .int .i64 (c : Int)] 109)).alloc (.cells #[.int .u8 0, .int .u8 0, .int .u8 0, .int .u8 0, .int .u8 0, .int .u8 0, .int .u8 0, .int .u8 0, .int .u8 0, .int .u8 0, .int .u8 0, .int .u8 0, .int .u8 0, .int .u8 0, .int .u8 0, .int .u8 0, .int .u8 0, .int .u8 0, .int .u8 0, .int .u8 0, .int .u8 0, .int .u8 0, .int .u8 0, .int .u8 0, .int .u8 0, .int .u8 0, .int .u8 0, .int .u8 0, .int .u8 0, .int .u8 0, .int .u8 0, .int .u8 0, .int .u8 0, .int .u8 0, .int .u8 0, .int .u8 0, .int .u8 0, .int .u8 0, .int .u8 0, .int .u8 0, .int .u8 0, .int .u8 0, .int .u8 0, .int .u8 0, .int .u8 0, .int .u8 0, .int .u8 0, .int .u8 0, .int .u8 0, .int .u8 0, .int .u8 0, .int .u8 0, .int .u8 0, .int .u8 0, .int .u8 0, .int .u8 0, .int .u8 0, .int .u8 0, .int .u8 0, .int .u8 0, .int .u8 0, .int .u8 0, .int .u8 0, .int .u8 0] 236)) w.heap.size 109 #[.int .u64 (s : Int), .int .u64 (e : Int), .int .i64 (z : Int), .int .i64 (c : Int)] := (BlkIs.new w 109 _).alloc _
  have hbs : BlkIs ((w.alloc (.cells #[.int .u64 (s : Int), .int .u64 (e : Int), .int .i64 (z : Int), .int .i64 (c : Int)] 109)).alloc (.cells #[.int .u8 0, .int .u8 0, .int .u8 0, .int .u8 0, .int .u8 0, .int .u8 0, .int .u8 0, .int .u8 0, .int .u8 0, .int .u8 0, .int .u8 0, .int .u8 0, .int .u8 0, .int .u8 0, .int .u8 0, .int .u8 0, .int .u8 0, .int .u8 0, .int .u8 0, .int .u8 0, .int .u8 0, .int .u8 0, .int .u8 0, .int .u8 0, .int .u8 0, .int .u8 0, .int .u8 0, .int .u8 0, .int .u8 0, .int .u8 0, .int .u8 0, .int .u8 0, .int .u8 0, .int .u8 0, .int .u8 0, .int .u8 0, .int .u8 0, .int .u8 0, .int .u8 0, .int .u8 0, .int .u8 0, .int .u8 0, .int .u8 0, .int .u8 0, .int .u8 0, .int .u8 0, .int .u8 0, .int .u8 0, .int .u8 0, .int .u8 0, .int .u8 0, .int .u8 0, .int .u8 0, .int .u8 0, .int .u8 0, .int .u8 0, .int .u8 0, .int .u8 0, .int .u8 0, .int .u8 0, .int .u8 0, .int .u8 0, .int .u8 0, .int .u8 0] 236)) (w.heap.size + 1) 236 ((List.replicate 64 (0 : UInt8)).map b8).toArray := by
    have h := BlkIs.new (w.alloc (.cells #[.int .u64 (s : Int), .int .u64 (e : Int), .int .i64 (z : Int), .int .i64 (c : Int)] 109)) 236 #[.int .u8 0, .int .u8 0, .int .u8 0, .int .u8 0, .int .u8 0, .int .u8 0, .int .u8 0, .int .u8 0, .int .u8 0, .int .u8 0, .int .u8 0, .int .u8 0, .int .u8 0, .int .u8 0, .int .u8 0, .int .u8 0, .int .u8 0, .int .u8 0, .int .u8 0, .int .u8 0, .int .u8 0, .int .u8 0, .int .u8 0, .int .u8 0, .int .u8 0, .int .u8 0, .int .u8 0, .int .u8 0, .int .u8 0, .int .u8 0, .int .u8 0, .int .u8 0, .int .u8 0, .int .u8 0, .int .u8 0, .int .u8 0, .int .u8 0, .int .u8 0, .int .u8 0, .int .u8 0, .int .u8 0, .int .u8 0, .int .u8 0, .int .u8 0, .int .u8 0, .int .u8 0, .int .u8 0, .int .u8 0, .int .u8 0, .int .u8 0, .int .u8 0, .int .u8 0, .int .u8 0, .int .u8 0, .int .u8 0, .int .u8 0, .int .u8 0, .int .u8 0, .int .u8 0, .int .u8 0, .int .u8 0, .int .u8 0, .int .u8 0, .int .u8 0]
    rw [World.size_alloc] at h
    exact h
  go_enter Try.func137, Try.ntmps137
  go_wp2_with fail
  generalize (w.alloc (.cells #[.int .u64 (s : Int), .int .u64 (e : Int), .int .i64 (z : Int), .int .i64 (c : Int)] 109)).alloc (.cells #[.int .u8 0, .int .u8 0, .int .u8 0, .int .u8 0, .int .u8 0, .int .u8 0, .int .u8 0, .int .u8 0, .int .u8 0, .int .u8 0, .int .u8 0, .int .u8 0, .int .u8 0, .int .u8 0, .int .u8 0, .int .u8 0, .int .u8 0, .int .u8 0, .int .u8 0, .int .u8 0, .int .u8 0, .int .u8 0, .int .u8 0, .int .u8 0, .int .u8 0, .int .u8 0, .int .u8 0, .int .u8 0, .int .u8 0, .int .u8 0, .int .u8 0, .int .u8 0, .int .u8 0, .int .u8 0, .int .u8 0, .int .u8 0, .int .u8 0, .int .u8 0, .int .u8 0, .int .u8 0, .int .u8 0, .int .u8 0, .int .u8 0, .int .u8 0, .int .u8 0, .int .u8 0, .int .u8 0, .int .u8 0, .int .u8 0, .int .u8 0, .int .u8 0, .int .u8 0, .int .u8 0, .int .u8 0, .int .u8 0, .int .u8 0, .int .u8 0, .int .u8 0, .int .u8 0, .int .u8 0, .int .u8 0, .int .u8 0, .int .u8 0, .int .u8 0] 236) = w1 at *
  have hc0 : ∀ w', Grow w1 w' → w'.cell? ⟨w.heap.size, 0, none⟩ = some (.int .u64 s) := fun w' hg => (hg.cell (p := ⟨w.heap.size, 0, none⟩) hbh.lt).trans (by rw [hbh.cell]; rfl)
  have hc1 : ∀ w', Grow w1 w' → w'.cell? ⟨w.heap.size, 1, none⟩ = some (.int .u64 e) := fun w' hg => (hg.cell (p := ⟨w.heap.size, 1, none⟩) hbh.lt).trans (by rw [hbh.cell]; rfl)
  have hc2 : ∀ w', Grow w1 w' → w'.cell? ⟨w.heap.size, 2, none⟩ = some (.int .i64 z) := fun w' hg => (hg.cell (p := ⟨w.heap.size, 2, none⟩) hbh.lt).trans (by rw [hbh.cell]; rfl)
  have hc3 : ∀ w', Grow w1 w' → w'.cell? ⟨w.heap.size, 3, none⟩ = some (.int .i64 c) := fun w' hg => (hg.cell (p := ⟨w.heap.size, 3, none⟩) hbh.lt).trans (by rw [hbh.cell]; rfl)
  open Reg in
  refine region_acts (by kernel_rfl) (by kernel_rfl) 33 rfl (by kernel_rfl) [5, 6, 7, 8, 9, 10, 11, 12, 13, 14, 15, 16, 17, 18, 19, 20, 3] (by kernel_rfl)
    [(1, .val (.pointer (some ⟨w.heap.size, 0, none⟩)))]
    [(5, .val (.pointer (some ⟨w.heap.size, 0, none⟩))), (6, .val (.int .u64 (s : Int))), (7, .res (fixL 8 s)), (8, .val (.pointer (some ⟨w.heap.size, 1, none⟩))), (9, .val (.int .u64 (e : Int))), (10, .res (fixL 8 e)), (11, .val (.pointer (some ⟨w.heap.size, 2, none⟩))), (12, .val (.int .i64 (z : Int))), (13, .val (.int .u32 (z : Int))), (14, .res (fixL 4 z)), (15, .val (.pointer (some ⟨w.heap.size, 3, none⟩))), (16, .val (.int .i64 (c : Int))), (17, .val (.int .u32 (c : Int))), (18, .res (fixL 4 c)), (19, .pred (Lists [fixL 8 s, fixL 8 e, fixL 4 z, fixL 4 c]) (lists_stable _)), (20, .res (headB s e z c)), (3, .res (headB s e z c))]
    ⟨rfl, trivial⟩ (by kernel_rfl)
    (allOk_cons (ok_none rfl (l_run1 (.tmp 1) (.pointer (some ⟨w.heap.size, 0, none⟩)) (.pointer (some ⟨w.heap.size, 0, none⟩)) (hs 1 _ (by kernel_rfl) (by kernel_rfl)) (fun ρ w h => by simp [execOp, h, go_sem, Result.andThen]) (by kernel_rfl)))
    <| allOk_cons (ok_none rfl (l_load (.tmp 5) (⟨w.heap.size, 0, none⟩) _ (.int .u64 (s : Int)) (by intro w; simp [go_sem, Try.underlying41]) rfl (hs 5 (.pointer (some ⟨w.heap.size, 0, none⟩)) (by kernel_rfl) (by kernel_rfl)) (fun w hg => hc0 w hg) (by kernel_rfl)))
    <| allOk_cons (ok_none rfl (l_call 45 _ _ rfl (enters_of Try.func45 (by kernel_rfl) rfl) #[.int .u64 (s : Int)] (.res (fixL 8 s)) (args1 (hs 6 (.int .u64 (s : Int)) (by kernel_rfl) (by kernel_rfl))) (fun w hg => gives_res (eight_gives s w)) (by kernel_rfl)))
    <| allOk_cons (ok_none rfl (l_run1 (.tmp 1) (.pointer (some ⟨w.heap.size, 0, none⟩)) (.pointer (some ⟨w.heap.size, 1, none⟩)) (hs 1 _ (by kernel_rfl) (by kernel_rfl)) (fun ρ w h => by simp [execOp, h, go_sem, Result.andThen]) (by kernel_rfl)))
    <| allOk_cons (ok_none rfl (l_load (.tmp 8) (⟨w.heap.size, 1, none⟩) _ (.int .u64 (e : Int)) (by intro w; simp [go_sem, Try.underlying41]) rfl (hs 8 (.pointer (some ⟨w.heap.size, 1, none⟩)) (by kernel_rfl) (by kernel_rfl)) (fun w hg => hc1 w hg) (by kernel_rfl)))
    <| allOk_cons (ok_none rfl (l_call 45 _ _ rfl (enters_of Try.func45 (by kernel_rfl) rfl) #[.int .u64 (e : Int)] (.res (fixL 8 e)) (args1 (hs 9 (.int .u64 (e : Int)) (by kernel_rfl) (by kernel_rfl))) (fun w hg => gives_res (eight_gives e w)) (by kernel_rfl)))
    <| allOk_cons (ok_none rfl (l_run1 (.tmp 1) (.pointer (some ⟨w.heap.size, 0, none⟩)) (.pointer (some ⟨w.heap.size, 2, none⟩)) (hs 1 _ (by kernel_rfl) (by kernel_rfl)) (fun ρ w h => by simp [execOp, h, go_sem, Result.andThen]) (by kernel_rfl)))
    <| allOk_cons (ok_none rfl (l_load (.tmp 11) (⟨w.heap.size, 2, none⟩) _ (.int .i64 (z : Int)) (by intro w; simp [go_sem, Try.underlying3]) rfl (hs 11 (.pointer (some ⟨w.heap.size, 2, none⟩)) (by kernel_rfl) (by kernel_rfl)) (fun w hg => hc2 w hg) (by kernel_rfl)))
    <| allOk_cons (ok_none rfl (l_convS (.tmp 12) _ _ (.int .i64 (z : Int)) (.int .u32 (z : Int)) rfl (hs 12 (.int .i64 (z : Int)) (by kernel_rfl) (by kernel_rfl)) (fun w hg => hz32 w) (by kernel_rfl)))
    <| allOk_cons (ok_none rfl (l_call 43 _ _ rfl (enters_of Try.func43 (by kernel_rfl) rfl) #[.int .u32 (z : Int)] (.res (fixL 4 z)) (args1 (hs 13 (.int .u32 (z : Int)) (by kernel_rfl) (by kernel_rfl))) (fun w hg => gives_res (four_gives z w)) (by kernel_rfl)))
    <| allOk_cons (ok_none rfl (l_run1 (.tmp 1) (.pointer (some ⟨w.heap.size, 0, none⟩)) (.pointer (some ⟨w.heap.size, 3, none⟩)) (hs 1 _ (by kernel_rfl) (by kernel_rfl)) (fun ρ w h => by simp [execOp, h, go_sem, Result.andThen]) (by kernel_rfl)))
    <| allOk_cons (ok_none rfl (l_load (.tmp 15) (⟨w.heap.size, 3, none⟩) _ (.int .i64 (c : Int)) (by intro w; simp [go_sem, Try.underlying3]) rfl (hs 15 (.pointer (some ⟨w.heap.size, 3, none⟩)) (by kernel_rfl) (by kernel_rfl)) (fun w hg => hc3 w hg) (by kernel_rfl)))
    <| allOk_cons (ok_none rfl (l_convS (.tmp 16) _ _ (.int .i64 (c : Int)) (.int .u32 (c : Int)) rfl (hs 16 (.int .i64 (c : Int)) (by kernel_rfl) (by kernel_rfl)) (fun w hg => hc32 w) (by kernel_rfl)))
    <| allOk_cons (ok_none rfl (l_call 43 _ _ rfl (enters_of Try.func43 (by kernel_rfl) rfl) #[.int .u32 (c : Int)] (.res (fixL 4 c)) (args1 (hs 17 (.int .u32 (c : Int)) (by kernel_rfl) (by kernel_rfl))) (fun w hg => gives_res (four_gives c w)) (by kernel_rfl)))
    <| allOk_cons (ok_none rfl (l_build4 7 10 14 18 (fixL 8 s) (fixL 8 e) (fixL 4 z) (fixL 4 c) rfl (by kernel_rfl) (by kernel_rfl) (by kernel_rfl) (by kernel_rfl) (by kernel_rfl) (by kernel_rfl) (by kernel_rfl) (by kernel_rfl) (by kernel_rfl)))
    <| allOk_cons (ok_none rfl (l_callP 142 19 (Lists [fixL 8 s, fixL 8 e, fixL 4 z, fixL 4 c]) (lists_stable _) _ rfl (enters_of Try.func142 (by kernel_rfl) rfl) (.res (headB s e z c)) (by kernel_rfl) (by kernel_rfl) (fun w u hg hu => hcat w u hu) (by kernel_rfl)))
    <| allOk_cons (ok_none rfl (l_mvF 20 (.res (headB s e z c)) (.inr rfl) (by kernel_rfl) (by kernel_rfl) (by kernel_rfl)))
    <| allOk_nil) ?_
  intro a w3 hsz hdef hGw3 hF hU
  obtain ⟨A3, c3, e3, hin3⟩ := hF 3
  have ha := Reg.acts_eq [5, 6, 7, 8, 9, 10, 11, 12, 13, 14, 15, 16, 17, 18, 19, 20, 3] hsz hdef hU
  clear hF hU hdef
  simp only [List.foldl_cons, List.foldl_nil, e3] at ha
  clear e3 hsz
  generalize a.eval (.tmp 5) = v5 at *
  generalize a.eval (.tmp 6) = v6 at *
  generalize a.eval (.tmp 7) = v7 at *
  generalize a.eval (.tmp 8) = v8 at *
  generalize a.eval (.tmp 9) = v9 at *
  generalize a.eval (.tmp 10) = v10 at *
  generalize a.eval (.tmp 11) = v11 at *
  generalize a.eval (.tmp 12) = v12 at *
  generalize a.eval (.tmp 13) = v13 at *
  generalize a.eval (.tmp 14) = v14 at *
  generalize a.eval (.tmp 15) = v15 at *
  generalize a.eval (.tmp 16) = v16 at *
  generalize a.eval (.tmp 17) = v17 at *
  generalize a.eval (.tmp 18) = v18 at *
  generalize a.eval (.tmp 19) = v19 at *
  generalize a.eval (.tmp 20) = v20 at *
  simp only [Act.put, List.setIfInBounds_toArray, List.set_cons_succ, List.set_cons_zero] at ha
  subst ha
  simp only [Exit.then]
  refine ‹∀ (a : Act) (w : World), Code.wp Try.prog _ _ a w → _› _ w3 ?_
  have hs3 := hbs.below hGw3 hbs.lt
  have hB3 : Below w.heap.size w w3 := hBw.trans (hGw3.mono hBw.size)
  have hl24 := headB_length s e z c
  generalize hbd : headB s e z c = b at *
  have HB := Lib.hid hbd
  clear hbd
  have HL := Lib.hid hl24
  clear hl24 hcat hz32 hc32 hc0 hc1 hc2 hc3 hbh hbs
  go_wp2_with fail
  refine (sum1_gives w3 A3 c3 b hin3).mono ?_
  rintro e4 w4 ⟨rfl, hB4⟩
  have hin4 := (hin3.below hB4).more hB4.size
  have hs4 := hs3.below hB4 hs3.lt
  go_wp2_with fail
  refine (four_gives _ _).mono ?_
  rintro e5 w5 ⟨v, rfl, hown5, hB5⟩
  obtain ⟨A5, k5, rfl, hin5⟩ := hown5.inB
  have hc2 := concat2_gives w5 A3 A5 c3 k5 b _ ((hin4.below hB5).more hB5.size) hin5 (by have := HL.out; simp [fixL_length]; omega)
  rw [fixL_length] at hc2
  have hs5 := hs4.below hB5 hs4.lt
  have hB45 : Below w.heap.size w w5 := (hB3.trans (hB4.mono hB3.size)).trans (hB5.mono (hB3.trans (hB4.mono hB3.size)).size)
  rw [fixL_length]
  go_wp2_with fail
  refine hc2.mono ?_
  rintro e6 w6 ⟨v6, rfl, hown6, hB6⟩
  obtain ⟨A6, k6, rfl, hin6⟩ := hown6.inB
  have hs6 := hs5.below hB6 hs5.lt
  have hB06 : Below w.heap.size w w6 := hB45.trans (hB6.mono hB45.size)
  have honce : b ++ fixL 4 (sumL b) = onceB b := rfl
  rw [honce] at hin6 ⊢
  have hol : (onceB b).length = 28 := by rw [onceB_length, HL.out]
  have HO := Lib.hid hol
  clear hol honce hs3 hs4 hs5 hB3 hB4 hB5 hB45 hin3 hin4 hin5 hown5 hown6 hc2 hB6
  go_wp2_with fail
  have HR := repeat2_gives w6.drew A6 k6 (onceB b) hin6.drew (by have := HO.out; omega) (by have := HO.out; omega)
  obtain ⟨d, hd⟩ : ∃ d, onceB b ++ onceB b = d := ⟨_, rfl⟩
  rw [hd] at HR
  have HD := Lib.hid hd
  clear hd
  go_region_held3 (fun _ => True) (trivial) (first
    | (go_at_call 181; refine HR.mono ?_; rintro e7 w7 ⟨v7, rfl, hown7, hB7⟩; obtain ⟨A7, k7, rfl, hin7⟩ := hown7.inB; have hs7 := hs6.drew.below hB7 hs6.lt)
    | (refine step_copyB (by rfl) (.tmp 28) (.tmp 30) (by rfl) (w.heap.size + 1) 0 (List.replicate 64 0) d A7 k7 _ 64 64 (by rfl) (by rfl) hs7 hin7 (by simp) ?_))
  have hsp : spliceB (List.replicate 64 0) 0 64 d = twiceB b := by
    have := HO.out
    rw [← HD.out]
    simp only [spliceB, twiceB, List.take_zero, List.nil_append, Nat.zero_add, List.drop_replicate, List.length_append]
    rw [List.take_of_length_le (by simp; omega), Nat.min_eq_left (by omega), this]
  rw [hsp]
  have hs8 := hs7.setRow ((twiceB b).map b8).toArray
  have hB8 : Below w.heap.size w (w7.setRow (w.heap.size + 1) ((twiceB b).map b8).toArray) := below_setRow (hB06.drew.trans (hB7.mono hB06.size)) (by omega) _
  generalize w7.setRow (w.heap.size + 1) ((twiceB b).map b8).toArray = w8 at *
  clear hs7 hB7 hin7 hown7 HR hsp
  have h64 : ((twiceB b).map b8).toArray.size = 64 := by
    have := HL.out
    simp [twiceB_length]; omega
  have hRow : RowTy Try.prog 236 ((twiceB b).map b8).toArray.size := by rw [h64]; exact rowSector
  clear h64
  go_wp2_with (first
    | (refine wp_loadW rfl 236 (.tmp 2) rfl (w.heap.size + 1) rfl hRow hs8 rfl ?_)
    | (refine wp_storeW rfl 236 (.tmp 2) (.tmp 32) rfl (w.heap.size + 1) rfl rfl hRow hs8 rfl rfl (b8_one _) ?_))
  have hself : w8.setRow (w.heap.size + 1) ((twiceB b).map b8).toArray = w8 := setRow_self w8 _ _ _ _ hs8
  rw [hself]
  refine bodyPost_ret_by (results_cellW 2 rfl rfl hRow hs8 rfl) rfl ⟨?_, hB8⟩
  unfold headW
  rw [HB.out]
end Go.Proofs.Ytlelckdcmlpmdaa
