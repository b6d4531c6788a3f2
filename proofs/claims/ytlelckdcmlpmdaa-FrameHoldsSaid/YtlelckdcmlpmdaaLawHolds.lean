/- loupelaw03.OctetHolds: the walk. -/
import Derived.Test.YtlelckdcmlpmdaaLawStr
import Derived.Test.YtlelckdcmlpmdaaActs
namespace Go.Proofs.Ytlelckdcmlpmdaa
open Go Go.RowKit Lou

theorem wrap_i64_id (n : Int) (h0 : -9223372036854775808 ≤ n) (h1 : n < 9223372036854775808) : IntKind.i64.wrap n = n := by
  simp [IntKind.wrap, IntKind.bits, IntKind.signed]
  split <;> omega
theorem OwnB.inB' {w : World} {base g n cap : Nat} {l : List UInt8} (h : OwnB w base (.slice (some ⟨g, 0, none⟩) n cap) l) : InB w w.heap.size (some ⟨g, 0, none⟩) cap l := by
  obtain ⟨A, c, e, hin⟩ := h.inB
  injection e with e1 e2 e3
  subst e1 e2 e3
  exact hin
theorem str_toList (l : List UInt8) : (str l).toList = l := by
  have : (str l).toList = (str l).data.toList := by rw [ByteArray.toList_eq]
  rw [this, str_data]

theorem xor_bit (b : UInt8) (r : Nat) (hr : r < 8) : ∃ y : Nat, bits .xor .u8 (b.toNat : Int) (2 ^ r % 256) = (y : Int) ∧ y < 256 ∧ b ≠ UInt8.ofNat y := by
  have hb : b.toNat < 256 := UInt8.toNat_lt b
  have key : ∀ r : Nat, r < 8 → ∀ n : Nat, n < 256 → bits .xor .u8 (n : Int) (2 ^ r % 256) = ((n ^^^ 2 ^ r : Nat) : Int) ∧ n ^^^ 2 ^ r < 256 ∧ n ≠ n ^^^ 2 ^ r := by decide +kernel
  obtain ⟨h1, h2, h3⟩ := key r hr b.toNat hb
  refine ⟨_, h1, h2, fun e => h3 ?_⟩
  have := congrArg UInt8.toNat e
  rw [UInt8.toNat_ofNat'] at this
  omega

set_option maxRecDepth 100000 in
set_option maxHeartbeats 4000000 in
theorem lawHolds_out (x0 x1 : Int) (w : World) (A : Option Addr) (c : Nat) (l : List UInt8) (k : Int) (h : InB w w.heap.size A c l)
    (hl : 300 < l.length ∨ (l.length ≤ 300 ∧ k < 0) ∨ (l.length ≤ 300 ∧ 0 ≤ k ∧ 8 * (l.length : Int) ≤ k)) :
    Calls Try.prog 4 #[.agg #[.int .u64 x0, .int .u64 x1], .slice A l.length c, .int .i64 k] w fun e w' => e = .returned (.bool true) ∧ Below w.heap.size w w' := by
  have hle := h.le
  have hmax := h.max
  have hb1 : ∀ o, Below w.heap.size w (w.alloc o) := fun o => (Below.refl _ _).alloc (Nat.le_refl _) _
  rcases hl with hl | ⟨hl, hl2⟩ | ⟨hl, hl2, hl3⟩
  · go_enter Try.func4, Try.ntmps4
    go_wp2_with (go_at_call 27; refine (works3_gives _).mono ?_; rintro e w' ⟨rfl, hB⟩)
    go_ret
    exact ⟨rfl, (hb1 _).trans (hB.mono (hb1 _).size)⟩
  · go_enter Try.func4, Try.ntmps4
    go_wp2_with (go_at_call 27; refine (works3_gives _).mono ?_; rintro e w' ⟨rfl, hB⟩)
    go_ret
    exact ⟨rfl, (hb1 _).trans (hB.mono (hb1 _).size)⟩
  · have h8 : IntKind.i64.wrap (8 * (l.length : Int)) = 8 * (l.length : Int) := wrap_i64_id _ (by omega) (by omega)
    go_enter Try.func4, Try.ntmps4
    go_wp2_with (go_at_call 27; refine (works3_gives _).mono ?_; rintro e w' ⟨rfl, hB⟩)
    go_ret
    exact ⟨rfl, (hb1 _).trans (hB.mono (hb1 _).size)⟩

set_option maxRecDepth 100000 in
set_option maxHeartbeats 4000000 in
theorem lawHolds_walk (x0 x1 : Nat) (hn0 : x0 < 2 ^ 64) (hn1 : x1 < 2 ^ 64) (w : World) (A : Option Addr) (c : Nat) (l : List UInt8) (m : Nat) (h : InB w w.heap.size A c l) (hl : l.length ≤ 300) (hm : m < 8 * l.length) :
    Calls Try.prog 4 #[.agg #[.int .u64 x0, .int .u64 x1], .slice A l.length c, .int .i64 m] w fun e w' => e = .returned (.bool true) ∧ Below w.heap.size w w' := by
  have hle := h.le
  have hmax := h.max
  have hx0 := Lib.hid hn0
  have hx1 := Lib.hid hn1
  clear hn0 hn1
  have h8 : IntKind.i64.wrap (8 * (l.length : Int)) = 8 * (l.length : Int) := wrap_i64_id _ (by omega) (by omega)
  have hlt : ¬ 8 * (l.length : Int) ≤ (m : Int) := by omega
  have hb1 : Below w.heap.size w (w.alloc (.cells #[.int .u64 x0, .int .u64 x1] 42)) := (Below.refl _ _).alloc (Nat.le_refl _) _
  have hbk := BlkIs.new w 42 #[.int .u64 x0, .int .u64 x1]
  have hc0 : ∀ w', Grow (w.alloc (.cells #[.int .u64 x0, .int .u64 x1] 42)) w' → w'.cell? ⟨w.heap.size, 0, none⟩ = some (.int .u64 x0) := fun w' hg => (hg.cell (p := ⟨w.heap.size, 0, none⟩) (by simp)).trans (by rw [hbk.cell]; rfl)
  have hc1 : ∀ w', Grow (w.alloc (.cells #[.int .u64 x0, .int .u64 x1] 42)) w' → w'.cell? ⟨w.heap.size, 1, none⟩ = some (.int .u64 x1) := fun w' hg => (hg.cell (p := ⟨w.heap.size, 1, none⟩) (by simp)).trans (by rw [hbk.cell]; rfl)
  go_enter Try.func4, Try.ntmps4
  go_wp2_with fail
  open Reg in
  refine region_acts (by kernel_rfl) (by kernel_rfl) 83 rfl (by kernel_rfl) [26, 27, 28, 29, 30, 31, 7, 8] (by kernel_rfl)
    [(3, .val (.pointer (some ⟨w.heap.size, 0, none⟩)))]
    [(26, .val (.pointer (some ⟨w.heap.size, 0, none⟩))), (27, .val (.int .u64 (x0 : Int))), (28, .res (num x0)), (29, .val (.pointer (some ⟨w.heap.size, 1, none⟩))), (30, .val (.int .u64 (x1 : Int))), (31, .res (num x1)), (7, .res (num x0)), (8, .res (num x1))]
    ⟨rfl, trivial⟩ (by kernel_rfl)
    (allOk_cons (ok_none rfl (l_idx (.tmp 3) (.const (Go.Value.int Go.IntKind.i64 0)) ⟨w.heap.size, 0, none⟩ _ _ 2 0 Try.underlying42 (by decide) (by intro w; simp [go_sem]) rfl (hs 3 (.pointer (some ⟨w.heap.size, 0, none⟩)) (by kernel_rfl) (by kernel_rfl)) (hc _) (by kernel_rfl)))
    <| allOk_cons (ok_none rfl (l_load (.tmp 26) (⟨w.heap.size, 0, none⟩) _ (.int .u64 (x0 : Int)) (by intro w; simp [go_sem, Try.underlying41]) rfl (hs 26 (.pointer (some ⟨w.heap.size, 0, none⟩)) (by kernel_rfl) (by kernel_rfl)) (fun w hg => hc0 w hg) (by kernel_rfl)))
    <| allOk_cons (ok_none rfl (l_call 28 _ _ rfl (enters_of Try.func28 (by kernel_rfl) rfl) #[.int .u64 (x0 : Int)] (.res (num x0)) (args1 (hs 27 (.int .u64 (x0 : Int)) (by kernel_rfl) (by kernel_rfl))) (fun w hg => Reg.gives_res (number_gives x0 hx0.out w)) (by kernel_rfl)))
    <| allOk_cons (ok_none rfl (l_idx (.tmp 3) (.const (Go.Value.int Go.IntKind.i64 1)) ⟨w.heap.size, 0, none⟩ _ _ 2 1 Try.underlying42 (by decide) (by intro w; simp [go_sem]) rfl (hs 3 (.pointer (some ⟨w.heap.size, 0, none⟩)) (by kernel_rfl) (by kernel_rfl)) (hc _) (by kernel_rfl)))
    <| allOk_cons (ok_none rfl (l_load (.tmp 29) (⟨w.heap.size, 1, none⟩) _ (.int .u64 (x1 : Int)) (by intro w; simp [go_sem, Try.underlying41]) rfl (hs 29 (.pointer (some ⟨w.heap.size, 1, none⟩)) (by kernel_rfl) (by kernel_rfl)) (fun w hg => hc1 w hg) (by kernel_rfl)))
    <| allOk_cons (ok_none rfl (l_call 28 _ _ rfl (enters_of Try.func28 (by kernel_rfl) rfl) #[.int .u64 (x1 : Int)] (.res (num x1)) (args1 (hs 30 (.int .u64 (x1 : Int)) (by kernel_rfl) (by kernel_rfl))) (fun w hg => Reg.gives_res (number_gives x1 hx1.out w)) (by kernel_rfl)))
    <| allOk_cons (ok_none rfl (l_mvF 28 (.res (num x0)) (.inr rfl) (by kernel_rfl) (by kernel_rfl) (by kernel_rfl)))
    <| allOk_cons (ok_none rfl (l_mvF 31 (.res (num x1)) (.inr rfl) (by kernel_rfl) (by kernel_rfl) (by kernel_rfl)))
    <| allOk_nil) ?_
  intro a w3 hsz hdef hG hF hU
  obtain ⟨Aa, ca, ea, hina⟩ := hF 7
  obtain ⟨Ab, cb, eb, hinb⟩ := hF 8
  have ha := Reg.acts_eq [26, 27, 28, 29, 30, 31, 7, 8] hsz hdef hU
  clear hF hU hdef
  rw [List.foldl_cons, List.foldl_cons, List.foldl_cons, List.foldl_cons, List.foldl_cons, List.foldl_cons, List.foldl_cons, List.foldl_cons, List.foldl_nil, ea, eb] at ha
  simp only [Exit.then]
  refine ‹∀ (a : Act) (w : World), Code.wp Try.prog _ _ a w → _› a w3 ?_
  clear ea eb hsz
  generalize a.eval (.tmp 26) = v26 at ha
  generalize a.eval (.tmp 27) = v27 at ha
  generalize a.eval (.tmp 28) = v28 at ha
  generalize a.eval (.tmp 29) = v29 at ha
  generalize a.eval (.tmp 30) = v30 at ha
  generalize a.eval (.tmp 31) = v31 at ha
  simp only [Act.put, List.setIfInBounds_toArray, List.set_cons_succ, List.set_cons_zero] at ha
  subst ha
  go_wp2_with fail
  refine Reg.by_stop [32, 33, 34, 35, 36, 37, 38, 39, 40, 41, 42, 43, 44, 45, 46, 9] (fun a w => a.eval (.tmp 9) = .bool ((x0 : Int) == (x1 : Int))) ?_ ?_
  · intro Q' hQ
    by_cases hab : (num x0).length ≤ (num x1).length
    · have hq : ((str ((num x1).take (num x0).length)).toList == (str (num x0)).toList) = ((x0 : Int) == (x1 : Int)) := by
        rw [str_toList, str_toList]
        have h1 := num_prefix x0 x1 hx0.out hx1.out
        have h2 : (num x1).take (num x0).length = num x0 ↔ num x0 <+: num x1 := by rw [List.prefix_iff_eq_take]; exact eq_comm
        rw [Bool.eq_iff_iff, beq_iff_eq, beq_iff_eq, h2, h1]
        omega
      open Reg in
      refine region_acts (by kernel_rfl) (by kernel_rfl) 83 rfl (by kernel_rfl) [32, 33, 34, 35, 36, 37, 38, 39, 40, 41, 42, 43, 44, 45, 46, 9] (by kernel_rfl)
        [(7, .val (.slice Aa (num x0).length ca)), (8, .val (.slice Ab (num x1).length cb))]
        [(32, .val (.slice Aa (num x0).length ca)), (33, .val (.int .i64 ((num x0).length : Int))), (34, .val (.slice Ab (num x1).length cb)), (35, .val (.int .i64 ((num x1).length : Int))), (36, .val (.bool true)), (37, .val (.bool true)), (38, .val (.slice Ab (num x1).length cb)), (39, .val (.slice Aa (num x0).length ca)), (40, .val (.int .i64 ((num x0).length : Int))), (41, .val (.slice Ab ((num x1).take (num x0).length).length cb)), (42, .val (.string (str ((num x1).take (num x0).length)))), (43, .val (.slice Aa (num x0).length ca)), (44, .val (.string (str (num x0)))), (45, .val (.bool ((str ((num x1).take (num x0).length)).toList == (str (num x0)).toList))), (46, .val (.bool ((str ((num x1).take (num x0).length)).toList == (str (num x0)).toList))), (9, .val (.bool ((str ((num x1).take (num x0).length)).toList == (str (num x0)).toList)))]
        ⟨rfl, rfl, trivial⟩ (by kernel_rfl)
        (allOk_cons (ok_none rfl (l_mvF 7 (.val (.slice Aa (num x0).length ca)) (.inl rfl) (by kernel_rfl) (by kernel_rfl) (by kernel_rfl)))
        <| allOk_cons (ok_none rfl (l_len 32 _ _ _ _ (by kernel_rfl) rfl ((hs 32 (.slice Aa (num x0).length ca) (by kernel_rfl) (by kernel_rfl))) (by kernel_rfl)))
        <| allOk_cons (ok_none rfl (l_mvF 8 (.val (.slice Ab (num x1).length cb)) (.inl rfl) (by kernel_rfl) (by kernel_rfl) (by kernel_rfl)))
        <| allOk_cons (ok_none rfl (l_len 34 _ _ _ _ (by kernel_rfl) rfl ((hs 34 (.slice Ab (num x1).length cb) (by kernel_rfl) (by kernel_rfl))) (by kernel_rfl)))
        <| allOk_cons (ok_none rfl (l_leq (.tmp 33) (.tmp 35) _ _ .i64 ((num x0).length : Int) ((num x1).length : Int) rfl (hs 33 _ (by kernel_rfl) (by kernel_rfl)) (hs 35 _ (by kernel_rfl) (by kernel_rfl)) true (by simp; omega) (by kernel_rfl)))
        <| allOk_cons (ok_none rfl (l_mvF 36 (.val (.bool true)) (.inl rfl) (by kernel_rfl) (by kernel_rfl) (by kernel_rfl)))
        <| allOk_cons (okg 5 true 37 rfl (by kernel_rfl) (by kernel_rfl) (by kernel_rfl) (l_mvF 8 (.val (.slice Ab (num x1).length cb)) (.inl rfl) (by kernel_rfl) (by kernel_rfl) (by kernel_rfl)))
        <| allOk_cons (okg 5 true 37 rfl (by kernel_rfl) (by kernel_rfl) (by kernel_rfl) (l_mvF 7 (.val (.slice Aa (num x0).length ca)) (.inl rfl) (by kernel_rfl) (by kernel_rfl) (by kernel_rfl)))
        <| allOk_cons (okg 5 true 37 rfl (by kernel_rfl) (by kernel_rfl) (by kernel_rfl) (l_len 39 _ _ _ _ (by kernel_rfl) rfl ((hs 39 (.slice Aa (num x0).length ca) (by kernel_rfl) (by kernel_rfl))) (by kernel_rfl)))
        <| allOk_cons (okg 5 true 37 rfl (by kernel_rfl) (by kernel_rfl) (by kernel_rfl) (l_run2W (.tmp 38) (.tmp 40) (.val (.slice Ab ((num x1).take (num x0).length).length cb)) (.slice Ab (num x1).length cb) (.int .i64 ((num x0).length : Int)) (hs 38 _ (by kernel_rfl) (by kernel_rfl)) (hs 40 _ (by kernel_rfl) (by kernel_rfl)) (fun ρ w hg h1 h2 => ⟨_, w, cut_take rfl h1 h2 hab hinb.le, Grow.refl _, rfl⟩) (by kernel_rfl)))
        <| allOk_cons (okg 5 true 37 rfl (by kernel_rfl) (by kernel_rfl) (by kernel_rfl) (l_convS (.tmp 41) _ _ (.slice Ab ((num x1).take (num x0).length).length cb) (.string (str ((num x1).take (num x0).length))) rfl (hs 41 (.slice Ab ((num x1).take (num x0).length).length cb) (by kernel_rfl) (by kernel_rfl)) (fun w hg => ((hinb.below hg).take _ cb hab (Nat.le_trans hab hinb.le) (Nat.le_refl _)).string) (by kernel_rfl)))
        <| allOk_cons (okg 5 true 37 rfl (by kernel_rfl) (by kernel_rfl) (by kernel_rfl) (l_mvF 7 (.val (.slice Aa (num x0).length ca)) (.inl rfl) (by kernel_rfl) (by kernel_rfl) (by kernel_rfl)))
        <| allOk_cons (okg 5 true 37 rfl (by kernel_rfl) (by kernel_rfl) (by kernel_rfl) (l_convS (.tmp 43) _ _ (.slice Aa (num x0).length ca) (.string (str (num x0))) rfl (hs 43 (.slice Aa (num x0).length ca) (by kernel_rfl) (by kernel_rfl)) (fun w hg => (hina.below hg).string) (by kernel_rfl)))
        <| allOk_cons (okg 5 true 37 rfl (by kernel_rfl) (by kernel_rfl) (by kernel_rfl) (l_eqsG (.tmp 42) (.tmp 44) _ _ (str ((num x1).take (num x0).length)) (str (num x0)) rfl (hs 42 _ (by kernel_rfl) (by kernel_rfl)) (hs 44 _ (by kernel_rfl) (by kernel_rfl)) (by kernel_rfl)))
        <| allOk_cons (ok_none rfl (l_pickT (.tmp 37) (.tmp 45) (.const (Go.Value.bool false)) (.bool ((str ((num x1).take (num x0).length)).toList == (str (num x0)).toList)) rfl (hs 37 (.bool true) (by kernel_rfl) (by kernel_rfl)) (hs 45 (.bool ((str ((num x1).take (num x0).length)).toList == (str (num x0)).toList)) (by kernel_rfl) (by kernel_rfl)) (by kernel_rfl)))
        <| allOk_cons (ok_none rfl (l_mvF 46 (.val (.bool ((str ((num x1).take (num x0).length)).toList == (str (num x0)).toList))) (.inr rfl) (by kernel_rfl) (by kernel_rfl) (by kernel_rfl)))
        <| allOk_nil) ?_
      intro a w4 hsz hdef hG hF hU
      refine hQ a w4 ⟨hsz, hdef, hG, ?_, hU⟩
      rw [← hq]
      exact hF 9
    · have hq : ((x0 : Int) == (x1 : Int)) = false := by
        by_cases e : x0 = x1
        · subst e; omega
        · simp; omega
      open Reg in
      refine region_acts (by kernel_rfl) (by kernel_rfl) 83 rfl (by kernel_rfl) [32, 33, 34, 35, 36, 37, 38, 39, 40, 41, 42, 43, 44, 45, 46, 9] (by kernel_rfl)
        [(7, .val (.slice Aa (num x0).length ca)), (8, .val (.slice Ab (num x1).length cb))]
        [(32, .val (.slice Aa (num x0).length ca)), (33, .val (.int .i64 ((num x0).length : Int))), (34, .val (.slice Ab (num x1).length cb)), (35, .val (.int .i64 ((num x1).length : Int))), (36, .val (.bool false)), (37, .val (.bool false)), (38, .any), (39, .any), (40, .any), (41, .any), (42, .any), (43, .any), (44, .any), (45, .any), (46, .val ((Go.Value.bool false))), (9, .val ((Go.Value.bool false)))]
        ⟨rfl, rfl, trivial⟩ (by kernel_rfl)
        (allOk_cons (ok_none rfl (l_mvF 7 (.val (.slice Aa (num x0).length ca)) (.inl rfl) (by kernel_rfl) (by kernel_rfl) (by kernel_rfl)))
        <| allOk_cons (ok_none rfl (l_len 32 _ _ _ _ (by kernel_rfl) rfl ((hs 32 (.slice Aa (num x0).length ca) (by kernel_rfl) (by kernel_rfl))) (by kernel_rfl)))
        <| allOk_cons (ok_none rfl (l_mvF 8 (.val (.slice Ab (num x1).length cb)) (.inl rfl) (by kernel_rfl) (by kernel_rfl) (by kernel_rfl)))
        <| allOk_cons (ok_none rfl (l_len 34 _ _ _ _ (by kernel_rfl) rfl ((hs 34 (.slice Ab (num x1).length cb) (by kernel_rfl) (by kernel_rfl))) (by kernel_rfl)))
        <| allOk_cons (ok_none rfl (l_leq (.tmp 33) (.tmp 35) _ _ .i64 ((num x0).length : Int) ((num x1).length : Int) rfl (hs 33 _ (by kernel_rfl) (by kernel_rfl)) (hs 35 _ (by kernel_rfl) (by kernel_rfl)) false (by simp; omega) (by kernel_rfl)))
        <| allOk_cons (ok_none rfl (l_mvF 36 (.val (.bool false)) (.inl rfl) (by kernel_rfl) (by kernel_rfl) (by kernel_rfl)))
        <| allOk_cons (okg_not 5 true 37 rfl (by kernel_rfl) (by kernel_rfl) (by kernel_rfl) (by kernel_rfl))
        <| allOk_cons (okg_not 5 true 37 rfl (by kernel_rfl) (by kernel_rfl) (by kernel_rfl) (by kernel_rfl))
        <| allOk_cons (okg_not 5 true 37 rfl (by kernel_rfl) (by kernel_rfl) (by kernel_rfl) (by kernel_rfl))
        <| allOk_cons (okg_not 5 true 37 rfl (by kernel_rfl) (by kernel_rfl) (by kernel_rfl) (by kernel_rfl))
        <| allOk_cons (okg_not 5 true 37 rfl (by kernel_rfl) (by kernel_rfl) (by kernel_rfl) (by kernel_rfl))
        <| allOk_cons (okg_not 5 true 37 rfl (by kernel_rfl) (by kernel_rfl) (by kernel_rfl) (by kernel_rfl))
        <| allOk_cons (okg_not 5 true 37 rfl (by kernel_rfl) (by kernel_rfl) (by kernel_rfl) (by kernel_rfl))
        <| allOk_cons (okg_not 5 true 37 rfl (by kernel_rfl) (by kernel_rfl) (by kernel_rfl) (by kernel_rfl))
        <| allOk_cons (ok_none rfl (l_pickF (.tmp 37) (.tmp 45) (.const (Go.Value.bool false)) ((Go.Value.bool false)) rfl (hs 37 (.bool false) (by kernel_rfl) (by kernel_rfl)) (hc _) (by kernel_rfl)))
        <| allOk_cons (ok_none rfl (l_mvF 46 (.val ((Go.Value.bool false))) (.inr rfl) (by kernel_rfl) (by kernel_rfl) (by kernel_rfl)))
        <| allOk_nil) ?_
      intro a w4 hsz hdef hG hF hU
      refine hQ a w4 ⟨hsz, hdef, hG, ?_, hU⟩
      rw [hq]
      exact hF 9
  rintro a w4 ⟨hsz, hdef, hG4, hr9, hU⟩
  have ha := Reg.acts_eq [32, 33, 34, 35, 36, 37, 38, 39, 40, 41, 42, 43, 44, 45, 46, 9] hsz hdef hU
  clear hU hdef
  simp only [List.foldl_cons, List.foldl_nil, hr9] at ha
  simp only [Exit.then]
  refine ‹∀ (a : Act) (w : World), Code.wp Try.prog _ _ a w → _› a w4 ?_
  clear hr9 hsz
  generalize a.eval (.tmp 32) = v32 at ha
  generalize a.eval (.tmp 33) = v33 at ha
  generalize a.eval (.tmp 34) = v34 at ha
  generalize a.eval (.tmp 35) = v35 at ha
  generalize a.eval (.tmp 36) = v36 at ha
  generalize a.eval (.tmp 37) = v37 at ha
  generalize a.eval (.tmp 38) = v38 at ha
  generalize a.eval (.tmp 39) = v39 at ha
  generalize a.eval (.tmp 40) = v40 at ha
  generalize a.eval (.tmp 41) = v41 at ha
  generalize a.eval (.tmp 42) = v42 at ha
  generalize a.eval (.tmp 43) = v43 at ha
  generalize a.eval (.tmp 44) = v44 at ha
  generalize a.eval (.tmp 45) = v45 at ha
  generalize a.eval (.tmp 46) = v46 at ha
  simp only [Act.put, List.setIfInBounds_toArray, List.set_cons_succ, List.set_cons_zero] at ha
  subst ha
  obtain ⟨q, hqm⟩ : ∃ q, q = m / 8 := ⟨_, rfl⟩
  obtain ⟨r, hrm⟩ : ∃ r, r = m % 8 := ⟨_, rfl⟩
  have hq : (m : Int) / 8 = (q : Int) := by omega
  have hr : (m : Int) % 8 = (r : Int) := by omega
  have hql : q < l.length := by omega
  have hr8 : r < 8 := by omega
  obtain ⟨y, hy, hy256, hyne⟩ := xor_bit l[q] r hr8
  have HQ := Lib.hid hqm
  have HR := Lib.hid hrm
  clear hqm hrm
  have hB3 : Below w.heap.size w w3 := hb1.trans (hG.mono hb1.size)
  have hB4 : Below w.heap.size w w4 := hB3.trans (hG4.mono hB3.size)
  have hin4 := (h.below hB4).more hB4.size
  have hG04 := hG.trans hG4
  have hd0 := hc0 w4 hG04
  have hd1 := hc1 w4 hG04
  have e0 : OwnB (w4.alloc (.cells #[] 5)) w4.heap.size (.slice (some ⟨w4.heap.size, 0, none⟩) 0 0) [] := World.ownsRow_lit w4 #[] 0 (Nat.le_refl _) (by unfold maxLen; omega) rfl
  have hbe : Below w4.heap.size w4 (w4.alloc (.cells #[] 5)) := (Below.refl _ _).alloc (Nat.le_refl _) _
  go_wp2_with (at_builtin; refine wp_appB rfl (.tmp 47) (.tmp 48) rfl w4.heap.size _ [] rfl e0 _ A c l rfl (hin4.below hbe) (by simp; omega) (by simp) ?_; intro v5 w5 hown5 hg5; have hb5 := e0.below hbe hg5; obtain ⟨g, cap, rfl, hgb, hgl, hcap⟩ := hown5.at_ (by simp; omega); have hcell := hown5.cell q (by simp; omega); have hfree := hown5.free q; simp only [List.nil_append] at hcell hown5; have hd0 := hc0 w5 (hG04.trans hb5); have hd1 := hc1 w5 (hG04.trans hb5); have hne : ¬ g = w.heap.size := (by have := hB4.size; have := hG.size; simp at this; have := hG4.size; omega))
  have hs6 : (w5.setCell ⟨g, q, none⟩ (.int .u8 (y : Int))).heap.size = w5.heap.size := by simp
  have hown6 := hown5.set q y hy256
  have hns := sumL_set l q hql (UInt8.ofNat y) hyne
  have hB6 : Below w.heap.size w (w5.setCell ⟨g, q, none⟩ (.int .u8 (y : Int))) := (hB4.trans (hb5.mono hB4.size)).setCell (p := ⟨g, q, none⟩) (by have := hB4.size; simp; omega) _
  rw [← hs6]
  generalize w5.setCell ⟨g, q, none⟩ (.int .u8 (y : Int)) = w6 at *
  refine (sum1_gives w6 A c l ((h.below hB6).more hB6.size)).mono ?_
  rintro e w7 ⟨rfl, hB7⟩
  have hin7 := (hown6.inB' |>.below hB7).more hB7.size
  have H := sum1_gives w7 _ _ _ hin7
  rw [List.length_set] at H
  have hB7w := hB6.trans (hB7.mono hB6.size)
  clear hcell hown5 hown6 hfree hin7
  generalize l.set q (UInt8.ofNat y) = out at *
  go_wp2_with fail
  refine H.mono ?_
  clear H
  rintro e w8 ⟨rfl, hB8⟩
  have hB8w := hB7w.trans (hB8.mono hB7w.size)
  go_wp2_with (go_at_call 27; refine (works3_gives _).mono ?_; rintro e w' ⟨rfl, hB⟩)
  go_ret
  have hbn : ((sumL l : Int) != (sumL out : Int)) = true := by simpa using fun e => hns (by omega)
  exact ⟨congrArg (fun b => Ending.returned (.bool b)) hbn, hB8w.trans (hB.mono hB8w.size)⟩
end Go.Proofs.Ytlelckdcmlpmdaa
