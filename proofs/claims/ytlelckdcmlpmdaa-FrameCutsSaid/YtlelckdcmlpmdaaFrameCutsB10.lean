/- Texts that the proof of FrameCuts leans on, part 10. -/
import Derived.Test.YtlelckdcmlpmdaaFrameCutsB9
/- loupelaw05.FrameCuts: the walk. -/
namespace Go.Proofs.Ytlelckdcmlpmdaa
open Go Go.RowKit Lou Go.Shelf
attribute [local go_sem] Oper.semAt_some

@[local go_sem] theorem run_eql_func_nil5 (w : World) (f : Fn) (xs ys : Array Value) : (binOp .eql 106 (.func f xs ys) .nilFunc).run Try.prog w = .ok (.bool false) w := by
  have h := run_equalIn_func_nil (P := Try.prog) 9999 106 w f xs ys Try.underlying106
  have e : binOp .eql 106 (.func f xs ys) .nilFunc = (do pure (.bool (← Op.equalIn (9999 + 1) 106 (.func f xs ys) .nilFunc))) := rfl
  rw [e]
  simp only [Sem.run_bind, h, Result.andThen, Sem.run_pure]
section
variable {ρ : Operand → Value} {w : World} {o : Oper} {x y : Operand}
theorem r_neI {m : Int} (ho : o.op = .binOp .neq 3 x y 3) (h1 : ρ x = .int .i64 m) (h2 : ρ y = .int .i64 m) : (execOp ρ o).run Try.prog w = .ok (.value (.bool false)) w := by
  simp [execOp, ho, h1, h2, go_sem, Result.andThen, bne]
theorem r_geq {m n : Int} (ho : o.op = .binOp .geq 3 x y 3) (h1 : ρ x = .int .i64 m) (h2 : ρ y = .int .i64 n) (hlt : m < n) : (execOp ρ o).run Try.prog w = .ok (.value (.bool false)) w := by
  have h3 : ¬ n ≤ m := by omega
  simp [execOp, ho, h1, h2, go_sem, Result.andThen, h3]
theorem r_mul64 {m : Int} (ho : o.op = .binOp .mul 3 x y 3) (h1 : ρ x = .int .i64 64) (h2 : ρ y = .int .i64 m) (hw : IntKind.i64.wrap (64 * m) = 64 * m) : (execOp ρ o).run Try.prog w = .ok (.value (.int .i64 (64 * m))) w := by
  simp [execOp, ho, h1, h2, go_sem, Result.andThen, hw]
theorem r_add {m n : Int} (ho : o.op = .binOp .add 3 x y 3) (h1 : ρ x = .int .i64 m) (h2 : ρ y = .int .i64 n) (hw : IntKind.i64.wrap (m + n) = m + n) : (execOp ρ o).run Try.prog w = .ok (.value (.int .i64 (m + n))) w := by
  simp [execOp, ho, h1, h2, go_sem, Result.andThen, hw]
theorem r_len {A : Option Addr} {n c : Nat} (ho : o.op = .call { callee := .builtin .len, args := #[x], argTypes := #[30] }) (h1 : ρ x = .slice A n c) : (execOp ρ o).run Try.prog w = .ok (.value (.int .i64 (n : Int))) w := by
  have hT : Try.prog.underlying 30 = some (.slice (Try.prog.elem 30)) := by kernel_rfl
  simp [execOp, ho, h1, go_sem, resolve, invoke, run_len_slice _ _ _ _ _ _ hT]
theorem r_min {m n : Int} {e : Nat} (ho : o.op = .call { callee := .builtin .min, args := #[x, y], argTypes := #[3, 3] }) (h1 : ρ x = .int .i64 m) (h2 : ρ y = .int .i64 n) (he : (if n < m then n else m) = (e : Int)) : (execOp ρ o).run Try.prog w = .ok (.value (.int .i64 (e : Int))) w := by
  simp [execOp, ho, h1, h2, go_sem, resolve, invoke, he, Result.andThen]
theorem r_neS {s : ByteArray} (ho : o.op = .binOp .neq 9 x y 9) (h1 : ρ x = .string s) (h2 : ρ y = .string s) : (execOp ρ o).run Try.prog w = .ok (.value (.bool false)) w := by
  simp [execOp, ho, h1, h2, go_sem, Result.andThen, bne]
end

/-- The law's own blocks. -/
structure Ct (s r q : Nat) (vb : Value) (many all i k : Int) (W : World) : Prop where
  b : BlkIs W s 30 #[vb]
  m : BlkIs W (s + 1) 3 #[.int .i64 many]
  o : BlkIs W (s + 1 + 1) 4 #[.bool false]
  a : BlkIs W (s + 1 + 1 + 1) 3 #[.int .i64 all]
  r : BlkIs W r 3 #[.int .i64 i]
  k : BlkIs W q 3 #[.int .i64 k]
theorem Ct.abNew {s r q B : Nat} {vb : Value} {many all i k : Int} {W W' : World} {row : Option Nat} (h : Ct s r q vb many all i k W) (h1 : s + 1 + 1 + 1 < B) (h2 : r < B) (h3 : q < B) (hg : W.grownBy W' row) (hr : ∀ r, row = some r → B ≤ r) : Ct s r q vb many all i k W' :=
  ⟨h.b.abNew (by omega) hg hr, h.m.abNew (by omega) hg hr, h.o.abNew (by omega) hg hr, h.a.abNew h1 hg hr, h.r.abNew h2 hg hr, h.k.abNew h3 hg hr⟩
theorem Ct.grow {s r q : Nat} {vb : Value} {many all i k : Int} {W W' : World} (h : Ct s r q vb many all i k W) (hg : Below W.heap.size W W') : Ct s r q vb many all i k W' :=
  ⟨h.b.below hg h.b.lt, h.m.below hg h.m.lt, h.o.below hg h.o.lt, h.a.below hg h.a.lt, h.r.below hg h.r.lt, h.k.below hg h.k.lt⟩
theorem Ct.step {s r q : Nat} {vb : Value} {many all i k : Int} {W : World} (h : Ct s r q vb many all i k W) (h1 : s + 1 + 1 + 1 < q) (h2 : r ≠ q) (k' : Int) : Ct s r q vb many all i k' (W.setCell ⟨q, 0, none⟩ (.int .i64 k')) :=
  ⟨h.b.other (by simp; omega) _, h.m.other (by simp; omega) _, h.o.other (by simp; omega) _, h.a.other (by simp; omega) _, h.r.other (by simpa using h2) _, h.k.set 0 _⟩

set_option maxRecDepth 100000 in
set_option maxHeartbeats 4000000 in
theorem lawCuts_long (w : World) (A : Option Addr) (c : Nat) (b : List UInt8) (many : Int) (h : InB w w.heap.size A c b) (hl : 400 < b.length) :
    Calls Try.prog 12 #[.slice A b.length c, .int .i64 many] w fun e w' => e = .returned (.bool true) ∧ Below w.heap.size w w' := by
  have hle := h.le
  have hmax := h.max
  go_enter Try.func12, Try.ntmps12
  have b2 : BlkIs (((w.alloc (.cells #[.slice A b.length c] 30)).alloc (.cells #[.int .i64 many] 3)).alloc (.cells #[.bool false] 4)) (w.heap.size + 1 + 1) 4 #[.bool false] := by
    have := BlkIs.new ((w.alloc (.cells #[.slice A b.length c] 30)).alloc (.cells #[.int .i64 many] 3)) 4 #[.bool false]
    rwa [World.size_alloc, World.size_alloc] at this
  have hB0 : Below w.heap.size w (((w.alloc (.cells #[.slice A b.length c] 30)).alloc (.cells #[.int .i64 many] 3)).alloc (.cells #[.bool false] 4)) :=
    (((Below.refl _ w).alloc (Nat.le_refl _) _).alloc (by simp) _).alloc (by simp; omega) _
  go_wp2_with (go_at_call 62; refine (works5_gives _).mono ?_; rintro e w' ⟨rfl, hB⟩; have b3 := b2.below hB (by simp); have hcb := b3.boxed; have hfb := b3.free 0)
  refine bodyPost_ret_by (results_cell1 (p := ⟨w.heap.size + 1 + 1, 0, none⟩) (v := .bool true) 4 rfl rfl ?_ ?_) rfl ⟨rfl, ?_⟩
  · simp [go_sem]
  · exact (b3.set 0 (.bool true)).boxed
  · exact (hB0.trans (hB.mono hB0.size)).setCell (p := ⟨w.heap.size + 1 + 1, 0, none⟩) (by simp; omega) _

set_option maxRecDepth 100000 in
set_option maxHeartbeats 8000000 in
theorem lawCuts_in (n : Nat) (hn : 8 ≤ n) (w : World) (A : Option Addr) (c : Nat) (b : List UInt8) (many : Int) (h : InB w w.heap.size A c b) (hl : b.length ≤ 400) :
    CallsIn Fence.wide n Try.prog 12 #[.slice A b.length c, .int .i64 many] w fun e w' => e = .returned (.bool true) ∧ Below w.heap.size w w' := by
  have hle := h.le
  have hmax := h.max
  have h1 : 1 ≤ n := by omega
  refine callsIn_of_wp_marks Try.func12 rfl trivial ?_ rfl
  simp only [Try.ntmps12, List.size_toArray, List.length_cons, List.length_nil, Nat.reduceAdd, Nat.reduceSub, Array.replicate_succ, Array.replicate_zero, List.push_toArray, List.append_toArray, List.nil_append, List.cons_append]
  have hall : ((b.length : Int) + 63) / 64 = (chAll b.length : Int) := by unfold chAll; omega
  have hwa : IntKind.i64.wrap (chAll b.length : Int) = (chAll b.length : Int) := wrap_i64_id' _ (by omega) (by unfold chAll; omega)
  have hwb : IntKind.i64.wrap ((b.length : Int) + 63) = (b.length : Int) + 63 := wrap_i64_id' _ (by omega) (by omega)
  have hl4 : ¬ (400 : Int) < (b.length : Int) := by omega
  have hB4 : Below w.heap.size w ((((w.alloc (.cells #[.slice A b.length c] 30)).alloc (.cells #[.int .i64 many] 3)).alloc (.cells #[.bool false] 4)).alloc (.cells #[.int .i64 (chAll b.length : Int)] 3)) :=
    ((((Below.refl _ w).alloc (Nat.le_refl _) _).alloc (by simp) _).alloc (by simp; omega) _).alloc (by simp; omega) _
  have h4 := (h.below hB4).more hB4.size
  have CG := cut_gives _ A c b h4 (by omega)
  gi_wp2_with (refine ⟨trivial, ?_⟩; gi_at_call 69; refine (callsIn_wide.2 CG).mono ?_; rintro e W1 ⟨gB, A2, c2, rfl, hgb, hin2, hG1⟩)
  have b0 := (((BlkIs.new w 30 #[.slice A b.length c]).alloc (.cells #[.int .i64 many] 3)).alloc (.cells #[.bool false] 4)).alloc (.cells #[.int .i64 (chAll b.length : Int)] 3)
  have b1 := ((BlkIs.new (w.alloc (.cells #[.slice A b.length c] 30)) 3 #[.int .i64 many]).alloc (.cells #[.bool false] 4)).alloc (.cells #[.int .i64 (chAll b.length : Int)] 3)
  have b2 := (BlkIs.new ((w.alloc (.cells #[.slice A b.length c] 30)).alloc (.cells #[.int .i64 many] 3)) 4 #[.bool false]).alloc (.cells #[.int .i64 (chAll b.length : Int)] 3)
  have b3 := BlkIs.new (((w.alloc (.cells #[.slice A b.length c] 30)).alloc (.cells #[.int .i64 many] 3)).alloc (.cells #[.bool false] 4)) 3 #[.int .i64 (chAll b.length : Int)]
  rw [World.size_alloc] at b1
  rw [World.size_alloc, World.size_alloc] at b2
  rw [World.size_alloc, World.size_alloc, World.size_alloc] at b3
  have s4 : ((((w.alloc (.cells #[.slice A b.length c] 30)).alloc (.cells #[.int .i64 many] 3)).alloc (.cells #[.bool false] 4)).alloc (.cells #[.int .i64 (chAll b.length : Int)] 3)).heap.size = w.heap.size + 1 + 1 + 1 + 1 := by simp
  replace b0 := b0.below hG1 b0.lt
  replace b1 := b1.below hG1 b1.lt
  replace b2 := b2.below hG1 b2.lt
  replace b3 := b3.below hG1 b3.lt
  have hBw1 := hB4.trans (hG1.mono hB4.size)
  have hs1 := hG1.size
  rw [s4] at hs1
  clear CG h4 hG1 s4 hB4
  obtain ⟨n0, hn0⟩ : ∃ n0, n0 = W1.heap.size := ⟨_, rfl⟩
  have hgb0 : gB < n0 := by rw [hn0]; exact hgb.lt
  have HN := Lib.hid hn0
  have hna : n0 ≤ W1.heap.size := by omega
  have hnb : W1.heap.size ≤ n0 := by omega
  clear hn0
  refine wpIn_loop_rounds 3 ?_
  rw [roundsIn_succ]
  gi_wp2
  obtain ⟨Y0, hY0⟩ : ∃ Y0, Y0 = (W1.alloc (.cells #[.int .i64 0] 3)).alloc (.cells #[.int .i64 0] 3) := ⟨_, rfl⟩
  have hBg0 : Below W1.heap.size W1 Y0 := by rw [hY0]; exact ((Below.refl _ _).alloc (Nat.le_refl _) _).alloc (by simp) _
  have hsz0 : n0 + 2 ≤ Y0.heap.size := by rw [hY0, HN.out]; simp
  have hsz0' : Y0.heap.size ≤ n0 + 2 := by rw [hY0, HN.out]; simp
  have hr0 : BlkIs Y0 W1.heap.size 3 #[.int .i64 0] := by rw [hY0]; exact (BlkIs.new W1 _ _).alloc _
  have hq0 : BlkIs Y0 (W1.heap.size + 1) 3 #[.int .i64 0] := by
    have := BlkIs.new (W1.alloc (.cells #[.int .i64 0] 3)) 3 #[.int .i64 0]
    rw [World.size_alloc] at this
    rw [hY0]
    exact this
  have hcg0 : Y0.cell? ⟨gB, 0, none⟩ = some (.slice A2 b.length c2) := (hgb.below hBg0 hgb.lt).boxed
  have hin0 : InB Y0 n0 A2 c2 b := by rw [HN.out]; exact hin2.below hBg0
  have hBy0 : Below n0 W1 Y0 := by rw [HN.out]; exact hBg0
  have hw0 : w.heap.size ≤ n0 := by have := hBw1.size; omega
  have hCt0 : Ct w.heap.size W1.heap.size (W1.heap.size + 1) (.slice A b.length c) many (chAll b.length : Int) 0 (([] : List (Nat × (Option Addr × Nat))).length : Int) Y0 :=
    ⟨b0.below hBg0 b0.lt, b1.below hBg0 b1.lt, b2.below hBg0 b2.lt, b3.below hBg0 b3.lt, hr0, hq0⟩
  rw [← hY0]
  clear hY0 hr0 hq0 hBg0 b0 b1 b2 b3
  -- ROUND 0 BEGINS
  refine wpIn_by_stopB (fun a0 a W => ∃ (D k : Nat), a = { a0 with defers := { target := .collected D, args := #[] } :: a0.defers } ∧ W.heap[D]? = some (.deferred (some [])) ∧ Y0.heap.size ≤ D ∧ (k : Int) = min (chAll b.length : Int) (max 1 many) ∧
    Ct w.heap.size W1.heap.size (W1.heap.size + 1) (.slice A b.length c) many (chAll b.length : Int) 0 (k : Int) W ∧ Below n0 W1 W) ?_ ?_
  · intro Q' hQ hQ2
    refine wpIn_rangeFunc_R rfl h1 (gf := 134) (lb := #[.pointer (some ⟨gB, 0, none⟩)]) rfl trivial (enters_of Try.func134 (by kernel_rfl) rfl)
      (cut1_seq (n₀ := n0) (n - 1) (by omega) gB A2 c2 b (by omega) (fun k => k = (W1.heap.size + 1)) (fun g hg => by omega) Y0 hgb0 (by omega) hcg0 hin0) (Below.refl _ _) (fun _ => rfl)
      (fun pre V => Ct w.heap.size W1.heap.size (W1.heap.size + 1) (.slice A b.length c) many (chAll b.length : Int) 0 (pre.length : Int) V ∧ Below n0 W1 V ∧ ((pre.length : Int) = 0 ∨ (pre.length : Int) < many))
      (fun cd pre V => cd = .exit 2 ∧ Ct w.heap.size W1.heap.size (W1.heap.size + 1) (.slice A b.length c) many (chAll b.length : Int) 0 (pre.length : Int) V ∧ Below n0 W1 V ∧ (pre.length : Int) = max 1 many)
      ?own0 ?own20 ?ownR0 ?start0 ?act0 ?assign0 ?body0 ?done0 ?stop0
    case own0 =>
      rintro pre X Y row ⟨h1, h2, h3⟩ hgr hr
      exact ⟨h1.abNew (by omega) (by omega) (by omega) hgr hr, below_abNew (B := Y0.heap.size) (by omega) (by have := h2.size; omega) h2 hgr hr, h3⟩
    case own20 =>
      rintro cd pre X Y row ⟨e, h1, h2, h3⟩ hgr hr
      exact ⟨e, h1.abNew (by omega) (by omega) (by omega) hgr hr, below_abNew (B := Y0.heap.size) (by omega) (by have := h2.size; omega) h2 hgr hr, h3⟩
    case ownR0 =>
      rintro pre x _ X Y row ⟨e1, e2, e3⟩ hgr hr
      exact ⟨e1, e2, InB.ownFrom (B := Y0.heap.size) _ _ _ () X Y row e3 hgr hr⟩
    case start0 => exact ⟨hCt0, hBy0, .inl rfl⟩
    case assign0 =>
      intro l1 x V K hK
      simp only [cutEnc]
      gi_wp2
      exact hK
    case body0 =>
      rintro l1 pre ⟨x1, x2, x3⟩ V ⟨hC, hBV, hcd⟩ ⟨hx, hkl, hinx⟩
      simp only at hx hkl hinx
      have hBVw : Below w.heap.size w V := hBw1.trans (hBV.mono hw0)
      subst hx
      have hcn : ∀ w', Grow V w' → w'.cell? ⟨W1.heap.size + 1, 0, none⟩ = some (.int .i64 (pre.length : Int)) := fun w' hg => (hC.grow hg).k.boxed
      have hca : ∀ w', Grow V w' → w'.cell? ⟨w.heap.size + 1 + 1 + 1, 0, none⟩ = some (.int .i64 (chAll b.length : Int)) := fun w' hg => (hC.grow hg).a.boxed
      have hcb : ∀ w', Grow V w' → w'.cell? ⟨w.heap.size, 0, none⟩ = some (.slice A b.length c) := fun w' hg => (hC.grow hg).b.boxed
      have hst1 : ∀ w', Grow V w' → (convert 30 9 (.slice x2 (chLen b.length pre.length) x3)).run Try.prog w' = .ok (.string (str (chunkB b pre.length))) w' := fun w' hg => by
        have := (hinx.below hg).string
        rw [chunkB_length] at this
        exact this
      obtain ⟨e64, he64⟩ : ∃ e : Nat, e = min b.length (64 * pre.length + 64) := ⟨_, rfl⟩
      have hmin : (if 64 * (pre.length : Int) + 64 < (b.length : Int) then 64 * (pre.length : Int) + 64 else (b.length : Int)) = (e64 : Int) := by rw [he64]; split <;> omega
      have hm1 : 64 * pre.length ≤ e64 := by omega
      have hm2 : e64 ≤ b.length := by omega
      have hch : (b.drop (64 * pre.length)).take (e64 - 64 * pre.length) = chunkB b pre.length := by
        unfold chunkB
        rw [he64]
        by_cases h64 : 64 * pre.length + 64 ≤ b.length
        · congr 1; omega
        · rw [List.take_of_length_le (by simp; omega), List.take_of_length_le (by simp; omega)]
      have hst2 : ∀ w', Grow V w' → (convert 30 9 (.slice (cutA A c (64 * pre.length)) ((b.drop (64 * pre.length)).take (e64 - 64 * pre.length)).length (c - 64 * pre.length))).run Try.prog w' = .ok (.string (str (chunkB b pre.length))) w' := fun w' hg => by
        have := (((h.below (hBVw.trans (hg.mono hBVw.size))).drop (64 * pre.length) (by omega)).take (e64 - 64 * pre.length) (c - 64 * pre.length) (by simp; omega) (by omega) (Nat.le_refl _)).string
        rw [hch] at this ⊢
        exact this
      have hlt : (pre.length : Int) < (chAll b.length : Int) := by unfold chAll; omega
      have hw1 : IntKind.i64.wrap (64 * (pre.length : Int)) = 64 * (pre.length : Int) := wrap_i64_id' _ (by omega) (by omega)
      have hw2 : IntKind.i64.wrap (64 * (pre.length : Int) + 64) = 64 * (pre.length : Int) + 64 := wrap_i64_id' _ (by omega) (by omega)
      have hwk : IntKind.i64.wrap ((pre.length : Int) + 1) = (pre.length : Int) + 1 := wrap_i64_id' _ (by omega) (by omega)
      gi_wp2
      open Reg in
      refine region_actsR (by kernel_rfl) (by kernel_rfl) (by kernel_rfl) 84 rfl (by kernel_rfl) [30, 31, 32, 33, 34, 35, 36, 37, 38, 39, 40, 41, 42, 43, 44, 45, 46, 47, 48, 49, 50, 51, 52, 53] (by kernel_rfl)
        [(8, .val (.pointer (some ⟨W1.heap.size + 1, 0, none⟩))), (9, .val (.int .i64 (pre.length : Int))), (10, .val (.slice x2 (chLen b.length pre.length) x3)), (2, .val (.pointer (some ⟨w.heap.size, 0, none⟩))), (5, .val (.pointer (some ⟨w.heap.size + 1 + 1 + 1, 0, none⟩)))]
        [(30, .val (.int .i64 (pre.length : Int))), (31, .val (.int .i64 (pre.length : Int))), (32, .val (.bool false)), (33, .val (.bool false)), (34, .val (.int .i64 (pre.length : Int))), (35, .val (.int .i64 (chAll b.length : Int))), (36, .val (.bool false)), (37, .val (.bool false)), (38, .val (.bool false)), (39, .val (.slice x2 (chLen b.length pre.length) x3)), (40, .val (.string (str (chunkB b pre.length)))), (41, .val (.slice A b.length c)), (42, .val (.int .i64 (pre.length : Int))), (43, .val (.int .i64 (64 * (pre.length : Int)))), (44, .val (.slice A b.length c)), (45, .val (.int .i64 (b.length : Int))), (46, .val (.int .i64 (pre.length : Int))), (47, .val (.int .i64 (64 * (pre.length : Int)))), (48, .val (.int .i64 (64 * (pre.length : Int) + 64))), (49, .val (.int .i64 (e64 : Int))), (50, .val (.slice (cutA A c (64 * pre.length)) ((b.drop (64 * pre.length)).take (e64 - 64 * pre.length)).length (c - 64 * pre.length))), (51, .val (.string (str (chunkB b pre.length)))), (52, .val (.bool false)), (53, .val (.bool false))]
        ⟨rfl, rfl, rfl, rfl, rfl, trivial⟩ (by kernel_rfl)
        (allOk_cons (ok_none rfl (l_mvF 9 (.val (.int .i64 (pre.length : Int))) (.inl rfl) (by kernel_rfl) (by kernel_rfl) (by kernel_rfl)))
        <| allOk_cons (ok_none rfl (l_load (.tmp 8) (⟨W1.heap.size + 1, 0, none⟩) _ (.int .i64 (pre.length : Int)) (by intro w; simp [go_sem, Try.underlying3]) rfl (hs 8 (.pointer (some ⟨W1.heap.size + 1, 0, none⟩)) (by kernel_rfl) (by kernel_rfl)) (fun w hg => hcn w hg) (by kernel_rfl)))
        <| allOk_cons (ok_none rfl (l_run2W (.tmp 30) (.tmp 31) (.val (.bool false)) (.int .i64 (pre.length : Int)) (.int .i64 (pre.length : Int)) (hs 30 _ (by kernel_rfl) (by kernel_rfl)) (hs 31 _ (by kernel_rfl) (by kernel_rfl)) (fun ρ w hg h1 h2 => ⟨_, w, r_neI rfl h1 h2, Grow.refl _, rfl⟩) (by kernel_rfl)))
        <| allOk_cons (ok_none rfl (l_mvF 32 (.val (.bool false)) (.inl rfl) (by kernel_rfl) (by kernel_rfl) (by kernel_rfl)))
        <| allOk_cons (okg 3 false 33 rfl (by kernel_rfl) (by kernel_rfl) (by kernel_rfl) (l_load (.tmp 8) (⟨W1.heap.size + 1, 0, none⟩) _ (.int .i64 (pre.length : Int)) (by intro w; simp [go_sem, Try.underlying3]) rfl (hs 8 (.pointer (some ⟨W1.heap.size + 1, 0, none⟩)) (by kernel_rfl) (by kernel_rfl)) (fun w hg => hcn w hg) (by kernel_rfl)))
        <| allOk_cons (okg 3 false 33 rfl (by kernel_rfl) (by kernel_rfl) (by kernel_rfl) (l_load (.tmp 5) (⟨w.heap.size + 1 + 1 + 1, 0, none⟩) _ (.int .i64 (chAll b.length : Int)) (by intro w; simp [go_sem, Try.underlying3]) rfl (hs 5 (.pointer (some ⟨w.heap.size + 1 + 1 + 1, 0, none⟩)) (by kernel_rfl) (by kernel_rfl)) (fun w hg => hca w hg) (by kernel_rfl)))
        <| allOk_cons (okg 3 false 33 rfl (by kernel_rfl) (by kernel_rfl) (by kernel_rfl) (l_run2W (.tmp 34) (.tmp 35) (.val (.bool false)) (.int .i64 (pre.length : Int)) (.int .i64 (chAll b.length : Int)) (hs 34 _ (by kernel_rfl) (by kernel_rfl)) (hs 35 _ (by kernel_rfl) (by kernel_rfl)) (fun ρ w hg h1 h2 => ⟨_, w, r_geq rfl h1 h2 hlt, Grow.refl _, rfl⟩) (by kernel_rfl)))
        <| allOk_cons (ok_none rfl (l_pickF (.tmp 33) _ (.tmp 36) (.bool false) rfl (hs 33 _ (by kernel_rfl) (by kernel_rfl)) (hs 36 _ (by kernel_rfl) (by kernel_rfl)) (by kernel_rfl)))
        <| allOk_cons (ok_none rfl (l_mvF 37 (.val (.bool false)) (.inl rfl) (by kernel_rfl) (by kernel_rfl) (by kernel_rfl)))
        <| allOk_cons (okg 8 false 38 rfl (by kernel_rfl) (by kernel_rfl) (by kernel_rfl) (l_mvF 10 (.val (.slice x2 (chLen b.length pre.length) x3)) (.inl rfl) (by kernel_rfl) (by kernel_rfl) (by kernel_rfl)))
        <| allOk_cons (okg 8 false 38 rfl (by kernel_rfl) (by kernel_rfl) (by kernel_rfl) (l_convS (.tmp 39) _ _ (.slice x2 (chLen b.length pre.length) x3) (.string (str (chunkB b pre.length))) rfl (hs 39 (.slice x2 (chLen b.length pre.length) x3) (by kernel_rfl) (by kernel_rfl)) (fun w hg => hst1 w hg) (by kernel_rfl)))
        <| allOk_cons (okg 8 false 38 rfl (by kernel_rfl) (by kernel_rfl) (by kernel_rfl) (l_load (.tmp 2) (⟨w.heap.size, 0, none⟩) _ (.slice A b.length c) (by intro w; simp [go_sem, Try.underlying30]) rfl (hs 2 (.pointer (some ⟨w.heap.size, 0, none⟩)) (by kernel_rfl) (by kernel_rfl)) (fun w hg => hcb w hg) (by kernel_rfl)))
        <| allOk_cons (okg 8 false 38 rfl (by kernel_rfl) (by kernel_rfl) (by kernel_rfl) (l_load (.tmp 8) (⟨W1.heap.size + 1, 0, none⟩) _ (.int .i64 (pre.length : Int)) (by intro w; simp [go_sem, Try.underlying3]) rfl (hs 8 (.pointer (some ⟨W1.heap.size + 1, 0, none⟩)) (by kernel_rfl) (by kernel_rfl)) (fun w hg => hcn w hg) (by kernel_rfl)))
        <| allOk_cons (okg 8 false 38 rfl (by kernel_rfl) (by kernel_rfl) (by kernel_rfl) (l_run2W (.const (.int .i64 64)) (.tmp 42) (.val (.int .i64 (64 * (pre.length : Int)))) (.int .i64 64) (.int .i64 (pre.length : Int)) (hc _) (hs 42 _ (by kernel_rfl) (by kernel_rfl)) (fun ρ w hg h1 h2 => ⟨_, w, r_mul64 rfl h1 h2 hw1, Grow.refl _, rfl⟩) (by kernel_rfl)))
        <| allOk_cons (okg 8 false 38 rfl (by kernel_rfl) (by kernel_rfl) (by kernel_rfl) (l_load (.tmp 2) (⟨w.heap.size, 0, none⟩) _ (.slice A b.length c) (by intro w; simp [go_sem, Try.underlying30]) rfl (hs 2 (.pointer (some ⟨w.heap.size, 0, none⟩)) (by kernel_rfl) (by kernel_rfl)) (fun w hg => hcb w hg) (by kernel_rfl)))
        <| allOk_cons (okg 8 false 38 rfl (by kernel_rfl) (by kernel_rfl) (by kernel_rfl) (l_run1W (.tmp 44) (.val (.int .i64 (b.length : Int))) (.slice A b.length c) (hs 44 _ (by kernel_rfl) (by kernel_rfl)) (fun ρ w hg h1 => ⟨_, w, r_len rfl h1, Grow.refl _, rfl⟩) (by kernel_rfl)))
        <| allOk_cons (okg 8 false 38 rfl (by kernel_rfl) (by kernel_rfl) (by kernel_rfl) (l_load (.tmp 8) (⟨W1.heap.size + 1, 0, none⟩) _ (.int .i64 (pre.length : Int)) (by intro w; simp [go_sem, Try.underlying3]) rfl (hs 8 (.pointer (some ⟨W1.heap.size + 1, 0, none⟩)) (by kernel_rfl) (by kernel_rfl)) (fun w hg => hcn w hg) (by kernel_rfl)))
        <| allOk_cons (okg 8 false 38 rfl (by kernel_rfl) (by kernel_rfl) (by kernel_rfl) (l_run2W (.const (.int .i64 64)) (.tmp 46) (.val (.int .i64 (64 * (pre.length : Int)))) (.int .i64 64) (.int .i64 (pre.length : Int)) (hc _) (hs 46 _ (by kernel_rfl) (by kernel_rfl)) (fun ρ w hg h1 h2 => ⟨_, w, r_mul64 rfl h1 h2 hw1, Grow.refl _, rfl⟩) (by kernel_rfl)))
        <| allOk_cons (okg 8 false 38 rfl (by kernel_rfl) (by kernel_rfl) (by kernel_rfl) (l_run2W (.tmp 47) (.const (.int .i64 64)) (.val (.int .i64 (64 * (pre.length : Int) + 64))) (.int .i64 (64 * (pre.length : Int))) (.int .i64 64) (hs 47 _ (by kernel_rfl) (by kernel_rfl)) (hc _) (fun ρ w hg h1 h2 => ⟨_, w, r_add rfl h1 h2 hw2, Grow.refl _, rfl⟩) (by kernel_rfl)))
        <| allOk_cons (okg 8 false 38 rfl (by kernel_rfl) (by kernel_rfl) (by kernel_rfl) (l_run2W (.tmp 45) (.tmp 48) (.val (.int .i64 (e64 : Int))) (.int .i64 (b.length : Int)) (.int .i64 (64 * (pre.length : Int) + 64)) (hs 45 _ (by kernel_rfl) (by kernel_rfl)) (hs 48 _ (by kernel_rfl) (by kernel_rfl)) (fun ρ w hg h1 h2 => ⟨_, w, r_min rfl h1 h2 hmin, Grow.refl _, rfl⟩) (by kernel_rfl)))
        <| allOk_cons (okg 8 false 38 rfl (by kernel_rfl) (by kernel_rfl) (by kernel_rfl) (l_run3W (.tmp 41) (.tmp 43) (.tmp 49) (.val (.slice (cutA A c (64 * pre.length)) ((b.drop (64 * pre.length)).take (e64 - 64 * pre.length)).length (c - 64 * pre.length))) (.slice A b.length c) (.int .i64 ((64 * pre.length : Nat) : Int)) (.int .i64 (e64 : Int)) (hs 41 _ (by kernel_rfl) (by kernel_rfl)) (hs 43 _ (by kernel_rfl) (by kernel_rfl)) (hs 49 _ (by kernel_rfl) (by kernel_rfl)) (fun ρ w hg h1 h2 h3 => ⟨_, w, cut_mid rfl h1 h2 h3 hm1 hm2 hle, Grow.refl _, rfl⟩) (by kernel_rfl)))
        <| allOk_cons (okg 8 false 38 rfl (by kernel_rfl) (by kernel_rfl) (by kernel_rfl) (l_convS (.tmp 50) _ _ (.slice (cutA A c (64 * pre.length)) ((b.drop (64 * pre.length)).take (e64 - 64 * pre.length)).length (c - 64 * pre.length)) (.string (str (chunkB b pre.length))) rfl (hs 50 (.slice (cutA A c (64 * pre.length)) ((b.drop (64 * pre.length)).take (e64 - 64 * pre.length)).length (c - 64 * pre.length)) (by kernel_rfl) (by kernel_rfl)) (fun w hg => hst2 w hg) (by kernel_rfl)))
        <| allOk_cons (okg 8 false 38 rfl (by kernel_rfl) (by kernel_rfl) (by kernel_rfl) (l_run2W (.tmp 40) (.tmp 51) (.val (.bool false)) (.string (str (chunkB b pre.length))) (.string (str (chunkB b pre.length))) (hs 40 _ (by kernel_rfl) (by kernel_rfl)) (hs 51 _ (by kernel_rfl) (by kernel_rfl)) (fun ρ w hg h1 h2 => ⟨_, w, r_neS rfl h1 h2, Grow.refl _, rfl⟩) (by kernel_rfl)))
        <| allOk_cons (ok_none rfl (l_pickF (.tmp 38) _ (.tmp 52) (.bool false) rfl (hs 38 _ (by kernel_rfl) (by kernel_rfl)) (hs 52 _ (by kernel_rfl) (by kernel_rfl)) (by kernel_rfl)))
        <| allOk_nil) ?_
      intro a V1 hsz hdef hGV1 hF hU
      have e53 : a.eval (.tmp 53) = .bool false := hF 53
      have ha := Reg.acts_eq [30, 31, 32, 33, 34, 35, 36, 37, 38, 39, 40, 41, 42, 43, 44, 45, 46, 47, 48, 49, 50, 51, 52, 53] hsz hdef hU
      clear hF hU hdef
      simp only [List.foldl_cons, List.foldl_nil, e53] at ha
      clear e53 hsz
      generalize a.eval (.tmp 30) = v30 at *
      generalize a.eval (.tmp 31) = v31 at *
      generalize a.eval (.tmp 32) = v32 at *
      generalize a.eval (.tmp 33) = v33 at *
      generalize a.eval (.tmp 34) = v34 at *
      generalize a.eval (.tmp 35) = v35 at *
      generalize a.eval (.tmp 36) = v36 at *
      generalize a.eval (.tmp 37) = v37 at *
      generalize a.eval (.tmp 38) = v38 at *
      generalize a.eval (.tmp 39) = v39 at *
      generalize a.eval (.tmp 40) = v40 at *
      generalize a.eval (.tmp 41) = v41 at *
      generalize a.eval (.tmp 42) = v42 at *
      generalize a.eval (.tmp 43) = v43 at *
      generalize a.eval (.tmp 44) = v44 at *
      generalize a.eval (.tmp 45) = v45 at *
      generalize a.eval (.tmp 46) = v46 at *
      generalize a.eval (.tmp 47) = v47 at *
      generalize a.eval (.tmp 48) = v48 at *
      generalize a.eval (.tmp 49) = v49 at *
      generalize a.eval (.tmp 50) = v50 at *
      generalize a.eval (.tmp 51) = v51 at *
      generalize a.eval (.tmp 52) = v52 at *
      simp only [Act.put, List.setIfInBounds_toArray, List.set_cons_succ, List.set_cons_zero] at ha
      subst ha
      simp only [Exit.then]
      refine ‹∀ (a : Act) (w : World), Code.wpIn _ _ Try.prog _ _ a w → _› _ V1 ?_
      have hC1 := hC.grow hGV1
      have hk1 := hC1.k.boxed
      have hr1 := hC1.r.boxed
      have hm1' := hC1.m.boxed
      have hf1 := hC1.k.free 0
      have hB1 : Below n0 W1 V1 := hBV.trans (hGV1.mono (by have := hBV.size; omega))
      have hK1 := KeepOut.grow (fun k => k = (W1.heap.size + 1)) Y0.heap.size hGV1
      have hC2 := hC1.step (by omega) (by omega) ((pre.length : Int) + 1)
      have hB2 := hB1.setCell (p := ⟨W1.heap.size + 1, 0, none⟩) (by simp; omega) (.int .i64 ((pre.length : Int) + 1))
      have hK2 := hK1.trans (KeepOut.setCell V1 ⟨W1.heap.size + 1, 0, none⟩ (.int .i64 ((pre.length : Int) + 1)) (show (W1.heap.size + 1) < Y0.heap.size by omega) rfl)
      have hlen : (((pre ++ [(pre.length, x2, x3)]).length : Nat) : Int) = (pre.length : Int) + 1 := by simp
      have hnr : ¬ W1.heap.size = (W1.heap.size + 1) := by omega
      have hnm : ¬ w.heap.size + 1 = (W1.heap.size + 1) := by omega
      clear hcn hca hcb hst1 hst2 hch hmin
      by_cases hmc : many ≤ (pre.length : Int) + 1
      · gi_wp2
        refine ⟨hK2.any, rfl, ?_, hB2, ?_⟩
        · rw [hlen]
          exact hC2
        · rw [hlen]
          omega
      · gi_wp2
        refine ⟨hK2, ?_, hB2, ?_⟩
        · rw [hlen]
          exact hC2
        · rw [hlen]
          omega
    case done0 =>
      rintro D xs V hD hS ⟨hC, hBV, hcd⟩ hK
      exact hQ _ _ ⟨D, xs.length, rfl, hK, hD, by rw [hS] at hcd ⊢; omega, hC, hBV⟩
    case stop0 =>
      rintro D cd pre V hD hS ⟨rfl, hC, hBV, hcd⟩ hK
      exact wpIn_exit (hQ2 _ _ ⟨D, pre.length, rfl, hK, hD, by omega, hC, hBV⟩)
  rintro a V0 ⟨D0, k0, rfl, hK0, hD0, hfin0, hE0, hF0⟩
  -- ROUND 0 ENDS
  obtain ⟨M, hM⟩ : ∃ M : Int, M = max 1 many := ⟨_, rfl⟩
  rw [← hM] at hfin0
  have hmx : (if 1 < many then many else 1) = M := by rw [hM]; split <;> omega
  have hmn : (if M < (chAll b.length : Int) then M else (chAll b.length : Int)) = (k0 : Int) := by split <;> omega
  have ck := hE0.k.boxed
  have cr := hE0.r.boxed
  have ca := hE0.a.boxed
  have cm := hE0.m.boxed
  clear hM hfin0
  gi_wp2
  clear ck cr ca cm hmx hmn
  have fs0 : n0 ≤ V0.heap.size := by have := hF0.size; omega
  have fD0 : D0 < V0.heap.size := (Array.getElem?_eq_some_iff.1 hK0).1
  have cr1 : (V0.alloc (.cells #[.int .i64 1] 3)).cell? ⟨V0.heap.size, 0, none⟩ = some (.int .i64 1) := (BlkIs.new V0 3 #[.int .i64 1]).boxed
  rw [roundsIn_succ]
  gi_wp2
  obtain ⟨Y1, hY1⟩ : ∃ Y1, Y1 = (V0.alloc (.cells #[.int .i64 1] 3)).alloc (.cells #[.int .i64 0] 3) := ⟨_, rfl⟩
  have hBg1 : Below V0.heap.size V0 Y1 := by rw [hY1]; exact ((Below.refl _ _).alloc (Nat.le_refl _) _).alloc (by simp) _
  have hsz1 : V0.heap.size + 2 ≤ Y1.heap.size := by rw [hY1]; simp
  have hsz1' : Y1.heap.size ≤ V0.heap.size + 2 := by rw [hY1]; simp
  have hr1 : BlkIs Y1 V0.heap.size 3 #[.int .i64 1] := by rw [hY1]; exact (BlkIs.new V0 _ _).alloc _
  have hq1 : BlkIs Y1 (V0.heap.size + 1) 3 #[.int .i64 0] := by
    have := BlkIs.new (V0.alloc (.cells #[.int .i64 1] 3)) 3 #[.int .i64 0]
    rw [World.size_alloc] at this
    rw [hY1]
    exact this
  have hBy1 : Below n0 W1 Y1 := hF0.trans (hBg1.mono fs0)
  have hcg1 : Y1.cell? ⟨gB, 0, none⟩ = some (.slice A2 b.length c2) := (hgb.below hBy1 hgb0).boxed
  have hin1 : InB Y1 n0 A2 c2 b := by
    have := hin2
    rw [← HN.out] at this
    exact this.below hBy1
  have hE1 := hE0.grow hBg1
  have hCt1 : Ct w.heap.size V0.heap.size (V0.heap.size + 1) (.slice A b.length c) many (chAll b.length : Int) 1 (([] : List (Nat × (Option Addr × Nat))).length : Int) Y1 :=
    ⟨hE1.b, hE1.m, hE1.o, hE1.a, hr1, hq1⟩
  have hd01 : Y1.heap[D0]? = some (.deferred (some [])) := (hBg1.block D0 fD0).trans hK0
  have hD0lt : D0 < V0.heap.size := fD0
  rw [← hY1]
  clear hY1 hr1 hq1 hBg1 hE1 cr1 hE0 hF0 hK0
  -- ROUND 1 BEGINS
  refine wpIn_by_stopB (fun a0 a W => ∃ (D k : Nat), a = { a0 with defers := { target := .collected D, args := #[] } :: a0.defers } ∧ W.heap[D]? = some (.deferred (some [])) ∧ Y1.heap.size ≤ D ∧ (k : Int) = (chAll b.length : Int) ∧
    Ct w.heap.size V0.heap.size (V0.heap.size + 1) (.slice A b.length c) many (chAll b.length : Int) 1 (k : Int) W ∧ Below n0 W1 W ∧ W.heap[D0]? = some (.deferred (some []))) ?_ ?_
  · intro Q' hQ hQ2
    refine wpIn_rangeFunc_R rfl h1 (gf := 134) (lb := #[.pointer (some ⟨gB, 0, none⟩)]) rfl trivial (enters_of Try.func134 (by kernel_rfl) rfl)
      (cut1_seq (n₀ := n0) (n - 1) (by omega) gB A2 c2 b (by omega) (fun k => k = (V0.heap.size + 1)) (fun g hg => by omega) Y1 hgb0 (by omega) hcg1 hin1) (Below.refl _ _) (fun _ => rfl)
      (fun pre V => Ct w.heap.size V0.heap.size (V0.heap.size + 1) (.slice A b.length c) many (chAll b.length : Int) 1 (pre.length : Int) V ∧ Below n0 W1 V ∧ True ∧ V.heap[D0]? = some (.deferred (some [])))
      (fun cd pre V => cd = .exit 2 ∧ False)
      ?own1 ?own21 ?ownR1 ?start1 ?act1 ?assign1 ?body1 ?done1 ?stop1
    case own1 =>
      rintro pre X Y row ⟨h1, h2, h3, hd0⟩ hgr hr
      exact ⟨h1.abNew (by omega) (by omega) (by omega) hgr hr, below_abNew (B := Y1.heap.size) (by omega) (by have := h2.size; omega) h2 hgr hr, h3, (hgr.block D0 (Array.getElem?_eq_some_iff.1 hd0).1 (fun e => by have := hr D0 e.symm; have := hD0lt; omega)).trans hd0⟩
    case own21 =>
      rintro cd pre X Y row ⟨e, h⟩ hgr hr
      exact h.elim
    case ownR1 =>
      rintro pre x _ X Y row ⟨e1, e2, e3⟩ hgr hr
      exact ⟨e1, e2, InB.ownFrom (B := Y1.heap.size) _ _ _ () X Y row e3 hgr hr⟩
    case start1 => exact ⟨hCt1, hBy1, trivial, hd01⟩
    case assign1 =>
      intro l1 x V K hK
      simp only [cutEnc]
      gi_wp2
      exact hK
    case body1 =>
      rintro l1 pre ⟨x1, x2, x3⟩ V ⟨hC, hBV, hcd, hd0⟩ ⟨hx, hkl, hinx⟩
      simp only at hx hkl hinx
      have hBVw : Below w.heap.size w V := hBw1.trans (hBV.mono hw0)
      subst hx
      have hcn : ∀ w', Grow V w' → w'.cell? ⟨V0.heap.size + 1, 0, none⟩ = some (.int .i64 (pre.length : Int)) := fun w' hg => (hC.grow hg).k.boxed
      have hca : ∀ w', Grow V w' → w'.cell? ⟨w.heap.size + 1 + 1 + 1, 0, none⟩ = some (.int .i64 (chAll b.length : Int)) := fun w' hg => (hC.grow hg).a.boxed
      have hcb : ∀ w', Grow V w' → w'.cell? ⟨w.heap.size, 0, none⟩ = some (.slice A b.length c) := fun w' hg => (hC.grow hg).b.boxed
      have hst1 : ∀ w', Grow V w' → (convert 30 9 (.slice x2 (chLen b.length pre.length) x3)).run Try.prog w' = .ok (.string (str (chunkB b pre.length))) w' := fun w' hg => by
        have := (hinx.below hg).string
        rw [chunkB_length] at this
        exact this
      obtain ⟨e64, he64⟩ : ∃ e : Nat, e = min b.length (64 * pre.length + 64) := ⟨_, rfl⟩
      have hmin : (if 64 * (pre.length : Int) + 64 < (b.length : Int) then 64 * (pre.length : Int) + 64 else (b.length : Int)) = (e64 : Int) := by rw [he64]; split <;> omega
      have hm1 : 64 * pre.length ≤ e64 := by omega
      have hm2 : e64 ≤ b.length := by omega
      have hch : (b.drop (64 * pre.length)).take (e64 - 64 * pre.length) = chunkB b pre.length := by
        unfold chunkB
        rw [he64]
        by_cases h64 : 64 * pre.length + 64 ≤ b.length
        · congr 1; omega
        · rw [List.take_of_length_le (by simp; omega), List.take_of_length_le (by simp; omega)]
      have hst2 : ∀ w', Grow V w' → (convert 30 9 (.slice (cutA A c (64 * pre.length)) ((b.drop (64 * pre.length)).take (e64 - 64 * pre.length)).length (c - 64 * pre.length))).run Try.prog w' = .ok (.string (str (chunkB b pre.length))) w' := fun w' hg => by
        have := (((h.below (hBVw.trans (hg.mono hBVw.size))).drop (64 * pre.length) (by omega)).take (e64 - 64 * pre.length) (c - 64 * pre.length) (by simp; omega) (by omega) (Nat.le_refl _)).string
        rw [hch] at this ⊢
        exact this
      have hlt : (pre.length : Int) < (chAll b.length : Int) := by unfold chAll; omega
      have hw1 : IntKind.i64.wrap (64 * (pre.length : Int)) = 64 * (pre.length : Int) := wrap_i64_id' _ (by omega) (by omega)
      have hw2 : IntKind.i64.wrap (64 * (pre.length : Int) + 64) = 64 * (pre.length : Int) + 64 := wrap_i64_id' _ (by omega) (by omega)
      have hwk : IntKind.i64.wrap ((pre.length : Int) + 1) = (pre.length : Int) + 1 := wrap_i64_id' _ (by omega) (by omega)
      gi_wp2
      open Reg in
      refine region_actsR (by kernel_rfl) (by kernel_rfl) (by kernel_rfl) 84 rfl (by kernel_rfl) [30, 31, 32, 33, 34, 35, 36, 37, 38, 39, 40, 41, 42, 43, 44, 45, 46, 47, 48, 49, 50, 51, 52, 53] (by kernel_rfl)
        [(8, .val (.pointer (some ⟨V0.heap.size + 1, 0, none⟩))), (9, .val (.int .i64 (pre.length : Int))), (10, .val (.slice x2 (chLen b.length pre.length) x3)), (2, .val (.pointer (some ⟨w.heap.size, 0, none⟩))), (5, .val (.pointer (some ⟨w.heap.size + 1 + 1 + 1, 0, none⟩)))]
        [(30, .val (.int .i64 (pre.length : Int))), (31, .val (.int .i64 (pre.length : Int))), (32, .val (.bool false)), (33, .val (.bool false)), (34, .val (.int .i64 (pre.length : Int))), (35, .val (.int .i64 (chAll b.length : Int))), (36, .val (.bool false)), (37, .val (.bool false)), (38, .val (.bool false)), (39, .val (.slice x2 (chLen b.length pre.length) x3)), (40, .val (.string (str (chunkB b pre.length)))), (41, .val (.slice A b.length c)), (42, .val (.int .i64 (pre.length : Int))), (43, .val (.int .i64 (64 * (pre.length : Int)))), (44, .val (.slice A b.length c)), (45, .val (.int .i64 (b.length : Int))), (46, .val (.int .i64 (pre.length : Int))), (47, .val (.int .i64 (64 * (pre.length : Int)))), (48, .val (.int .i64 (64 * (pre.length : Int) + 64))), (49, .val (.int .i64 (e64 : Int))), (50, .val (.slice (cutA A c (64 * pre.length)) ((b.drop (64 * pre.length)).take (e64 - 64 * pre.length)).length (c - 64 * pre.length))), (51, .val (.string (str (chunkB b pre.length)))), (52, .val (.bool false)), (53, .val (.bool false))]
        ⟨rfl, rfl, rfl, rfl, rfl, trivial⟩ (by kernel_rfl)
        (allOk_cons (ok_none rfl (l_mvF 9 (.val (.int .i64 (pre.length : Int))) (.inl rfl) (by kernel_rfl) (by kernel_rfl) (by kernel_rfl)))
        <| allOk_cons (ok_none rfl (l_load (.tmp 8) (⟨V0.heap.size + 1, 0, none⟩) _ (.int .i64 (pre.length : Int)) (by intro w; simp [go_sem, Try.underlying3]) rfl (hs 8 (.pointer (some ⟨V0.heap.size + 1, 0, none⟩)) (by kernel_rfl) (by kernel_rfl)) (fun w hg => hcn w hg) (by kernel_rfl)))
        <| allOk_cons (ok_none rfl (l_run2W (.tmp 30) (.tmp 31) (.val (.bool false)) (.int .i64 (pre.length : Int)) (.int .i64 (pre.length : Int)) (hs 30 _ (by kernel_rfl) (by kernel_rfl)) (hs 31 _ (by kernel_rfl) (by kernel_rfl)) (fun ρ w hg h1 h2 => ⟨_, w, r_neI rfl h1 h2, Grow.refl _, rfl⟩) (by kernel_rfl)))
        <| allOk_cons (ok_none rfl (l_mvF 32 (.val (.bool false)) (.inl rfl) (by kernel_rfl) (by kernel_rfl) (by kernel_rfl)))
        <| allOk_cons (okg 3 false 33 rfl (by kernel_rfl) (by kernel_rfl) (by kernel_rfl) (l_load (.tmp 8) (⟨V0.heap.size + 1, 0, none⟩) _ (.int .i64 (pre.length : Int)) (by intro w; simp [go_sem, Try.underlying3]) rfl (hs 8 (.pointer (some ⟨V0.heap.size + 1, 0, none⟩)) (by kernel_rfl) (by kernel_rfl)) (fun w hg => hcn w hg) (by kernel_rfl)))
        <| allOk_cons (okg 3 false 33 rfl (by kernel_rfl) (by kernel_rfl) (by kernel_rfl) (l_load (.tmp 5) (⟨w.heap.size + 1 + 1 + 1, 0, none⟩) _ (.int .i64 (chAll b.length : Int)) (by intro w; simp [go_sem, Try.underlying3]) rfl (hs 5 (.pointer (some ⟨w.heap.size + 1 + 1 + 1, 0, none⟩)) (by kernel_rfl) (by kernel_rfl)) (fun w hg => hca w hg) (by kernel_rfl)))
        <| allOk_cons (okg 3 false 33 rfl (by kernel_rfl) (by kernel_rfl) (by kernel_rfl) (l_run2W (.tmp 34) (.tmp 35) (.val (.bool false)) (.int .i64 (pre.length : Int)) (.int .i64 (chAll b.length : Int)) (hs 34 _ (by kernel_rfl) (by kernel_rfl)) (hs 35 _ (by kernel_rfl) (by kernel_rfl)) (fun ρ w hg h1 h2 => ⟨_, w, r_geq rfl h1 h2 hlt, Grow.refl _, rfl⟩) (by kernel_rfl)))
        <| allOk_cons (ok_none rfl (l_pickF (.tmp 33) _ (.tmp 36) (.bool false) rfl (hs 33 _ (by kernel_rfl) (by kernel_rfl)) (hs 36 _ (by kernel_rfl) (by kernel_rfl)) (by kernel_rfl)))
        <| allOk_cons (ok_none rfl (l_mvF 37 (.val (.bool false)) (.inl rfl) (by kernel_rfl) (by kernel_rfl) (by kernel_rfl)))
        <| allOk_cons (okg 8 false 38 rfl (by kernel_rfl) (by kernel_rfl) (by kernel_rfl) (l_mvF 10 (.val (.slice x2 (chLen b.length pre.length) x3)) (.inl rfl) (by kernel_rfl) (by kernel_rfl) (by kernel_rfl)))
        <| allOk_cons (okg 8 false 38 rfl (by kernel_rfl) (by kernel_rfl) (by kernel_rfl) (l_convS (.tmp 39) _ _ (.slice x2 (chLen b.length pre.length) x3) (.string (str (chunkB b pre.length))) rfl (hs 39 (.slice x2 (chLen b.length pre.length) x3) (by kernel_rfl) (by kernel_rfl)) (fun w hg => hst1 w hg) (by kernel_rfl)))
        <| allOk_cons (okg 8 false 38 rfl (by kernel_rfl) (by kernel_rfl) (by kernel_rfl) (l_load (.tmp 2) (⟨w.heap.size, 0, none⟩) _ (.slice A b.length c) (by intro w; simp [go_sem, Try.underlying30]) rfl (hs 2 (.pointer (some ⟨w.heap.size, 0, none⟩)) (by kernel_rfl) (by kernel_rfl)) (fun w hg => hcb w hg) (by kernel_rfl)))
        <| allOk_cons (okg 8 false 38 rfl (by kernel_rfl) (by kernel_rfl) (by kernel_rfl) (l_load (.tmp 8) (⟨V0.heap.size + 1, 0, none⟩) _ (.int .i64 (pre.length : Int)) (by intro w; simp [go_sem, Try.underlying3]) rfl (hs 8 (.pointer (some ⟨V0.heap.size + 1, 0, none⟩)) (by kernel_rfl) (by kernel_rfl)) (fun w hg => hcn w hg) (by kernel_rfl)))
        <| allOk_cons (okg 8 false 38 rfl (by kernel_rfl) (by kernel_rfl) (by kernel_rfl) (l_run2W (.const (.int .i64 64)) (.tmp 42) (.val (.int .i64 (64 * (pre.length : Int)))) (.int .i64 64) (.int .i64 (pre.length : Int)) (hc _) (hs 42 _ (by kernel_rfl) (by kernel_rfl)) (fun ρ w hg h1 h2 => ⟨_, w, r_mul64 rfl h1 h2 hw1, Grow.refl _, rfl⟩) (by kernel_rfl)))
        <| allOk_cons (okg 8 false 38 rfl (by kernel_rfl) (by kernel_rfl) (by kernel_rfl) (l_load (.tmp 2) (⟨w.heap.size, 0, none⟩) _ (.slice A b.length c) (by intro w; simp [go_sem, Try.underlying30]) rfl (hs 2 (.pointer (some ⟨w.heap.size, 0, none⟩)) (by kernel_rfl) (by kernel_rfl)) (fun w hg => hcb w hg) (by kernel_rfl)))
        <| allOk_cons (okg 8 false 38 rfl (by kernel_rfl) (by kernel_rfl) (by kernel_rfl) (l_run1W (.tmp 44) (.val (.int .i64 (b.length : Int))) (.slice A b.length c) (hs 44 _ (by kernel_rfl) (by kernel_rfl)) (fun ρ w hg h1 => ⟨_, w, r_len rfl h1, Grow.refl _, rfl⟩) (by kernel_rfl)))
        <| allOk_cons (okg 8 false 38 rfl (by kernel_rfl) (by kernel_rfl) (by kernel_rfl) (l_load (.tmp 8) (⟨V0.heap.size + 1, 0, none⟩) _ (.int .i64 (pre.length : Int)) (by intro w; simp [go_sem, Try.underlying3]) rfl (hs 8 (.pointer (some ⟨V0.heap.size + 1, 0, none⟩)) (by kernel_rfl) (by kernel_rfl)) (fun w hg => hcn w hg) (by kernel_rfl)))
        <| allOk_cons (okg 8 false 38 rfl (by kernel_rfl) (by kernel_rfl) (by kernel_rfl) (l_run2W (.const (.int .i64 64)) (.tmp 46) (.val (.int .i64 (64 * (pre.length : Int)))) (.int .i64 64) (.int .i64 (pre.length : Int)) (hc _) (hs 46 _ (by kernel_rfl) (by kernel_rfl)) (fun ρ w hg h1 h2 => ⟨_, w, r_mul64 rfl h1 h2 hw1, Grow.refl _, rfl⟩) (by kernel_rfl)))
        <| allOk_cons (okg 8 false 38 rfl (by kernel_rfl) (by kernel_rfl) (by kernel_rfl) (l_run2W (.tmp 47) (.const (.int .i64 64)) (.val (.int .i64 (64 * (pre.length : Int) + 64))) (.int .i64 (64 * (pre.length : Int))) (.int .i64 64) (hs 47 _ (by kernel_rfl) (by kernel_rfl)) (hc _) (fun ρ w hg h1 h2 => ⟨_, w, r_add rfl h1 h2 hw2, Grow.refl _, rfl⟩) (by kernel_rfl)))
        <| allOk_cons (okg 8 false 38 rfl (by kernel_rfl) (by kernel_rfl) (by kernel_rfl) (l_run2W (.tmp 45) (.tmp 48) (.val (.int .i64 (e64 : Int))) (.int .i64 (b.length : Int)) (.int .i64 (64 * (pre.length : Int) + 64)) (hs 45 _ (by kernel_rfl) (by kernel_rfl)) (hs 48 _ (by kernel_rfl) (by kernel_rfl)) (fun ρ w hg h1 h2 => ⟨_, w, r_min rfl h1 h2 hmin, Grow.refl _, rfl⟩) (by kernel_rfl)))
        <| allOk_cons (okg 8 false 38 rfl (by kernel_rfl) (by kernel_rfl) (by kernel_rfl) (l_run3W (.tmp 41) (.tmp 43) (.tmp 49) (.val (.slice (cutA A c (64 * pre.length)) ((b.drop (64 * pre.length)).take (e64 - 64 * pre.length)).length (c - 64 * pre.length))) (.slice A b.length c) (.int .i64 ((64 * pre.length : Nat) : Int)) (.int .i64 (e64 : Int)) (hs 41 _ (by kernel_rfl) (by kernel_rfl)) (hs 43 _ (by kernel_rfl) (by kernel_rfl)) (hs 49 _ (by kernel_rfl) (by kernel_rfl)) (fun ρ w hg h1 h2 h3 => ⟨_, w, cut_mid rfl h1 h2 h3 hm1 hm2 hle, Grow.refl _, rfl⟩) (by kernel_rfl)))
        <| allOk_cons (okg 8 false 38 rfl (by kernel_rfl) (by kernel_rfl) (by kernel_rfl) (l_convS (.tmp 50) _ _ (.slice (cutA A c (64 * pre.length)) ((b.drop (64 * pre.length)).take (e64 - 64 * pre.length)).length (c - 64 * pre.length)) (.string (str (chunkB b pre.length))) rfl (hs 50 (.slice (cutA A c (64 * pre.length)) ((b.drop (64 * pre.length)).take (e64 - 64 * pre.length)).length (c - 64 * pre.length)) (by kernel_rfl) (by kernel_rfl)) (fun w hg => hst2 w hg) (by kernel_rfl)))
        <| allOk_cons (okg 8 false 38 rfl (by kernel_rfl) (by kernel_rfl) (by kernel_rfl) (l_run2W (.tmp 40) (.tmp 51) (.val (.bool false)) (.string (str (chunkB b pre.length))) (.string (str (chunkB b pre.length))) (hs 40 _ (by kernel_rfl) (by kernel_rfl)) (hs 51 _ (by kernel_rfl) (by kernel_rfl)) (fun ρ w hg h1 h2 => ⟨_, w, r_neS rfl h1 h2, Grow.refl _, rfl⟩) (by kernel_rfl)))
        <| allOk_cons (ok_none rfl (l_pickF (.tmp 38) _ (.tmp 52) (.bool false) rfl (hs 38 _ (by kernel_rfl) (by kernel_rfl)) (hs 52 _ (by kernel_rfl) (by kernel_rfl)) (by kernel_rfl)))
        <| allOk_nil) ?_
      intro a V1 hsz hdef hGV1 hF hU
      have e53 : a.eval (.tmp 53) = .bool false := hF 53
      have ha := Reg.acts_eq [30, 31, 32, 33, 34, 35, 36, 37, 38, 39, 40, 41, 42, 43, 44, 45, 46, 47, 48, 49, 50, 51, 52, 53] hsz hdef hU
      clear hF hU hdef
      simp only [List.foldl_cons, List.foldl_nil, e53] at ha
      clear e53 hsz
      generalize a.eval (.tmp 30) = v30 at *
      generalize a.eval (.tmp 31) = v31 at *
      generalize a.eval (.tmp 32) = v32 at *
      generalize a.eval (.tmp 33) = v33 at *
      generalize a.eval (.tmp 34) = v34 at *
      generalize a.eval (.tmp 35) = v35 at *
      generalize a.eval (.tmp 36) = v36 at *
      generalize a.eval (.tmp 37) = v37 at *
      generalize a.eval (.tmp 38) = v38 at *
      generalize a.eval (.tmp 39) = v39 at *
      generalize a.eval (.tmp 40) = v40 at *
      generalize a.eval (.tmp 41) = v41 at *
      generalize a.eval (.tmp 42) = v42 at *
      generalize a.eval (.tmp 43) = v43 at *
      generalize a.eval (.tmp 44) = v44 at *
      generalize a.eval (.tmp 45) = v45 at *
      generalize a.eval (.tmp 46) = v46 at *
      generalize a.eval (.tmp 47) = v47 at *
      generalize a.eval (.tmp 48) = v48 at *
      generalize a.eval (.tmp 49) = v49 at *
      generalize a.eval (.tmp 50) = v50 at *
      generalize a.eval (.tmp 51) = v51 at *
      generalize a.eval (.tmp 52) = v52 at *
      simp only [Act.put, List.setIfInBounds_toArray, List.set_cons_succ, List.set_cons_zero] at ha
      subst ha
      simp only [Exit.then]
      refine ‹∀ (a : Act) (w : World), Code.wpIn _ _ Try.prog _ _ a w → _› _ V1 ?_
      have hC1 := hC.grow hGV1
      have hk1 := hC1.k.boxed
      have hV0.heap.size := hC1.r.boxed
      have hm1' := hC1.m.boxed
      have hf1 := hC1.k.free 0
      have hB1 : Below n0 W1 V1 := hBV.trans (hGV1.mono (by have := hBV.size; omega))
      have hK1 := KeepOut.grow (fun k => k = (V0.heap.size + 1)) Y1.heap.size hGV1
      have hC2 := hC1.step (by omega) (by omega) ((pre.length : Int) + 1)
      have hB2 := hB1.setCell (p := ⟨V0.heap.size + 1, 0, none⟩) (by simp; omega) (.int .i64 ((pre.length : Int) + 1))
      have hK2 := hK1.trans (KeepOut.setCell V1 ⟨V0.heap.size + 1, 0, none⟩ (.int .i64 ((pre.length : Int) + 1)) (show (V0.heap.size + 1) < Y1.heap.size by omega) rfl)
      have hlen : (((pre ++ [(pre.length, x2, x3)]).length : Nat) : Int) = (pre.length : Int) + 1 := by simp
      have hnr : ¬ V0.heap.size = (V0.heap.size + 1) := by omega
      have hnm : ¬ w.heap.size + 1 = (V0.heap.size + 1) := by omega
      clear hcn hca hcb hst1 hst2 hch hmin
      gi_wp2
      refine ⟨hK2, ?_, hB2, trivial, ?_⟩
      · rw [hlen]
        exact hC2
      · exact hK2.2 D0 _ hd0 (fun h => by have := hD0lt; omega)
    case done1 =>
      rintro D xs V hD hS ⟨hC, hBV, hcd, hd0⟩ hK
      exact hQ _ _ ⟨D, xs.length, rfl, hK, hD, by rw [hS], hC, hBV, hd0⟩
    case stop1 =>
      rintro D cd pre V hD hS ⟨rfl, hf⟩ hK
      exact hf.elim
  rintro a V1 ⟨D1, k1, rfl, hK1, hD1, hfin1, hE1, hF1, hd0⟩
  -- ROUND 1 ENDS
  have ck := hE1.k.boxed
  have cr := hE1.r.boxed
  have ca := hE1.a.boxed
  have cm := hE1.m.boxed
  have hk1 : (k1 : Int) = (chAll b.length : Int) := hfin1
  rw [hk1] at ck
  clear hfin1 hk1
  gi_wp2
  clear ck cr ca cm
  rw [roundsIn_succ]
  have g2 := hE1.o.alloc (.cells #[.int .i64 2] 3)
  have hs1 : n0 ≤ V1.heap.size := by have := hF1.size; omega
  have gB2 := hF1.alloc hs1 (.cells #[.int .i64 2] 3)
  have hz0 := (Below.heap_alloc V1 (.cells #[.int .i64 2] 3) D0 (Array.getElem?_eq_some_iff.1 hd0).1).trans hd0
  have hz1 := (Below.heap_alloc V1 (.cells #[.int .i64 2] 3) D1 (Array.getElem?_eq_some_iff.1 hK1).1).trans hK1
  have cr2 : (V1.alloc (.cells #[.int .i64 2] 3)).cell? ⟨V1.heap.size, 0, none⟩ = some (.int .i64 2) := (BlkIs.new V1 3 #[.int .i64 2]).boxed
  have gs := g2.lt
  gi_wp2_with (refine ⟨trivial, ?_⟩; gi_at_call 62; refine (callsIn_wide.2 (works5_gives _)).mono ?_; rintro e w' ⟨rfl, hB⟩; have b3 := g2.below hB gs; have hco := b3.boxed; have hfo := b3.free 0)
  have hD0' := (hB.block D0 (Array.getElem?_eq_some_iff.1 hz0).1).trans hz0
  have hD1' := (hB.block D1 (Array.getElem?_eq_some_iff.1 hz1).1).trans hz1
  have b4 := b3.set 0 (.bool true)
  have hlo : D0 < V0.heap.size := hD0lt
  have hY0D : n0 ≤ D0 := by omega
  have hE0' := (Below.heap_setCell w' ⟨w.heap.size + 1 + 1, 0, none⟩ (.bool true) D0 (by simp; omega)).trans hD0'
  have hE1' := (Below.heap_setCell w' ⟨w.heap.size + 1 + 1, 0, none⟩ (.bool true) D1 (by simp; omega)).trans hD1'
  have hBw2 : Below w.heap.size w (V1.alloc (.cells #[.int .i64 2] 3)) := hBw1.trans (gB2.mono hw0)
  have hBf : Below w.heap.size w (w'.setCell ⟨w.heap.size + 1 + 1, 0, none⟩ (.bool true)) := (hBw2.trans (hB.mono hBw2.size)).setCell (p := ⟨w.heap.size + 1 + 1, 0, none⟩) (by simp; omega) _
  generalize w'.setCell ⟨w.heap.size + 1 + 1, 0, none⟩ (.bool true) = V at *
  refine ⟨by simp, .inl ⟨D1, _, rfl, run_takeDeferred hE1', ?_⟩⟩
  have hE0'' := (putObj_other V D1 (.deferred none) (g := D0) (by omega)).trans hE0'
  refine ⟨by simp, .inl ⟨D0, _, rfl, run_takeDeferred hE0'', ?_⟩⟩
  have b5 : BlkIs ((V.putObj D1 (.deferred none)).putObj D0 (.deferred none)) (w.heap.size + 1 + 1) 4 #[.bool true] := (putObj_other _ D0 (.deferred none) (g := w.heap.size + 1 + 1) (by omega)).trans ((putObj_other V D1 (.deferred none) (g := w.heap.size + 1 + 1) (by omega)).trans b4)
  refine ⟨.bool true, results_cell1 (p := ⟨w.heap.size + 1 + 1, 0, none⟩) 4 rfl rfl (by simp [go_sem]) b5.boxed, rfl, ?_⟩
  exact (hBf.trans (belowK_b (w := w) (Nat.le_refl _) V D1 _ _ (by omega) hE1' rfl rfl)).trans (belowK_b (w := w) (Nat.le_refl _) _ D0 _ _ (by omega) hE0'' rfl rfl)
theorem lawCuts_walk (w : World) (A : Option Addr) (c : Nat) (b : List UInt8) (many : Int) (h : InB w w.heap.size A c b) :
    Calls Try.prog 12 #[.slice A b.length c, .int .i64 many] w fun e w' => e = .returned (.bool true) ∧ Below w.heap.size w w' := by
  by_cases hl : b.length ≤ 400
  · exact callsIn_wide.1 (lawCuts_in 8 (Nat.le_refl _) w A c b many h hl)
  · exact lawCuts_long w A c b many h (by omega)
end Go.Proofs.Ytlelckdcmlpmdaa
