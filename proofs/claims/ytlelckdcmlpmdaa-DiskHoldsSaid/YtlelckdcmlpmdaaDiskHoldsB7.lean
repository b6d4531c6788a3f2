/- Texts that the proof of DiskHolds leans on, part 7. -/
import Derived.Test.YtlelckdcmlpmdaaDiskHoldsB6
/- frame.front. -/
namespace Go.Proofs.Ytlelckdcmlpmdaa
open Go Go.RowKit Lou
namespace Reg
variable {L : List (Nat × Fact)} {ops : Array Oper} {w0 : World} {o : Oper}
theorem l_build6 (t1 t2 t3 t4 t5 t6 : Tmp) (l1 l2 l3 l4 l5 l6 : List UInt8) (ho : o.op = .buildSlice 168 6 #[(0, .tmp t1), (1, .tmp t2), (2, .tmp t3), (3, .tmp t4), (4, .tmp t5), (5, .tmp t6)])
    (c1 : (o.looksAt ops).contains t1 = true) (c2 : (o.looksAt ops).contains t2 = true) (c3 : (o.looksAt ops).contains t3 = true) (c4 : (o.looksAt ops).contains t4 = true) (c5 : (o.looksAt ops).contains t5 = true) (c6 : (o.looksAt ops).contains t6 = true)
    (f1 : factOf L t1 = .res l1) (f2 : factOf L t2 = .res l2) (f3 : factOf L t3 = .res l3) (f4 : factOf L t4 = .res l4) (f5 : factOf L t5 = .res l5) (f6 : factOf L t6 = .res l6) (hd : FD L o.dst = .pred (Lists [l1, l2, l3, l4, l5, l6]) (lists_stable _)) : RunOk Try.prog ops (FSof L) w0 o := by
  intro a w K Q hG hl hK
  have g1 : (factOf L t1).holds (a.eval (.tmp t1)) w := hl t1 c1
  have g2 : (factOf L t2).holds (a.eval (.tmp t2)) w := hl t2 c2
  have g3 : (factOf L t3).holds (a.eval (.tmp t3)) w := hl t3 c3
  have g4 : (factOf L t4).holds (a.eval (.tmp t4)) w := hl t4 c4
  have g5 : (factOf L t5).holds (a.eval (.tmp t5)) w := hl t5 c5
  have g6 : (factOf L t6).holds (a.eval (.tmp t6)) w := hl t6 c6
  rw [f1] at g1
  obtain ⟨A1, k1, e1, h1⟩ := g1
  rw [f2] at g2
  obtain ⟨A2, k2, e2, h2⟩ := g2
  rw [f3] at g3
  obtain ⟨A3, k3, e3, h3⟩ := g3
  rw [f4] at g4
  obtain ⟨A4, k4, e4, h4⟩ := g4
  rw [f5] at g5
  obtain ⟨A5, k5, e5, h5⟩ := g5
  rw [f6] at g6
  obtain ⟨A6, k6, e6, h6⟩ := g6
  have hN := Lists.new (w := w) [((A1, k1), l1), ((A2, k2), l2), ((A3, k3), l3), ((A4, k4), l4), ((A5, k5), l5), ((A6, k6), l6)] (by
    intro x hx
    simp only [List.mem_cons, List.not_mem_nil, or_false] at hx
    rcases hx with rfl | rfl | rfl | rfl | rfl | rfl
    · exact h1
    · exact h2
    · exact h3
    · exact h4
    · exact h5
    · exact h6)
  have key : ∀ ρ : Operand → Value, ρ (.tmp t1) = .slice A1 l1.length k1 → ρ (.tmp t2) = .slice A2 l2.length k2 → ρ (.tmp t3) = .slice A3 l3.length k3 → ρ (.tmp t4) = .slice A4 l4.length k4 → ρ (.tmp t5) = .slice A5 l5.length k5 → ρ (.tmp t6) = .slice A6 l6.length k6 →
      (execOp ρ o).run Try.prog w = .ok (.value (.slice (some ⟨w.heap.size, 0, none⟩) 6 6)) (w.alloc (.cells #[.slice A1 l1.length k1, .slice A2 l2.length k2, .slice A3 l3.length k3, .slice A4 l4.length k4, .slice A5 l5.length k5, .slice A6 l6.length k6] 30)) :=
    fun ρ h1 h2 h3 h4 h5 h6 => by simp [execOp, ho, h1, h2, h3, h4, h5, h6, go_sem, Result.andThen]
  unfold Oper.wp
  rw [key _ e1 e2 e3 e4 e5 e6]
  exact hK _ _ (Grow.alloc _ _) (fsd hd hN)
/-- A call of two arguments, the second known by a predicate. -/
theorem l_callVP {P : Program} (f : FuncId) (x : Operand) (t : Tmp) (v1 : Value) (p : Value → World → Prop) (hp : ∀ v w w', p v w → Grow w w' → p v w') (ts : Array TypeId) (ho : o.op = .call { callee := .value (.func f), args := #[x, .tmp t], argTypes := ts }) (hent : ∀ args w, (callFunc f args).run P w = .ok (.enter f args) w)
    (g : Fact) (hx : Has ops (FSof L) o x v1) (hc : (o.looksAt ops).contains t = true) (hF : factOf L t = .pred p hp)
    (hC : ∀ w u, Grow w0 w → p u w → Calls P f #[v1, u] w fun e w' => ∃ v, e = .returned v ∧ Grow w w' ∧ g.holds v w') (hd : FD L o.dst = g) : RunOk P ops (FSof L) w0 o := by
  intro a w K Q hG hl hK
  have h' : (factOf L t).holds (a.eval (.tmp t)) w := hl t hc
  rw [hF] at h'
  have e1 := hx a w hl
  have hr : (execOp a.eval o).run P w = .ok (.enter f #[v1, a.eval (.tmp t)]) w := by
    have ef : a.eval (.func f) = .func (.func f) #[] #[] := rfl
    have h := hent #[v1, a.eval (.tmp t)] w
    simp [execOp, ho, resolve, e1, ef, Deferred.ofValue, invoke, Result.andThen, h]
  unfold Oper.wp
  rw [hr, Oper.upon_enter]
  refine (hC w _ hG h').mono ?_
  rintro e w' ⟨v, rfl, hg, hf⟩
  exact hK v w' hg (fsd hd hf)
/-- Any operation of one slot known by a predicate and another operand. -/
theorem l_runP (t : Tmp) (y : Operand) (p : Value → World → Prop) (hp : ∀ v w w', p v w → Grow w w' → p v w') (v2 : Value) (g : Fact) (hc : (o.looksAt ops).contains t = true) (hF : factOf L t = .pred p hp) (hy : Has ops (FSof L) o y v2) {P : Program}
    (hrun : ∀ (ρ : Operand → Value) (w : World), Grow w0 w → p (ρ (.tmp t)) w → ρ y = v2 → ∃ r w', (execOp ρ o).run P w = .ok (.value r) w' ∧ Grow w w' ∧ g.holds r w') (hd : FD L o.dst = g) : RunOk P ops (FSof L) w0 o := by
  intro a w K Q hG hl hK
  have h' : (factOf L t).holds (a.eval (.tmp t)) w := hl t hc
  rw [hF] at h'
  obtain ⟨r, w', h1, h2, h3⟩ := hrun a.eval w hG h' (hy a w hl)
  unfold Oper.wp
  rw [h1]
  exact hK r w' h2 (fsd hd h3)
/-- A flag's function. -/
def FlagFn (f : Bool) (v : Value) (w : World) : Prop := ∃ g, v = .func (.func 207) #[] #[.pointer (some ⟨g, 0, none⟩)] ∧ BlkIs w g 5 #[.int .u8 (((if f then 1 else 0 : UInt8)).toNat : Int)]
theorem flagFn_stable (f : Bool) : ∀ v w w', FlagFn f v w → Grow w w' → FlagFn f v w' := by
  rintro v w w' ⟨g, rfl, h⟩ hg
  exact ⟨g, rfl, h.below hg h.lt⟩
theorem flagsAt_stable : ∀ v w w', FlagsAt w v → Grow w w' → FlagsAt w' v := fun _ _ _ h hg => h.below hg
theorem run_flag (f : Bool) {ρ : Operand → Value} {w : World} {t : Tmp} {y : Operand} (ho : o.op = .lookup 283 (.tmp t) y false) (h : FlagsAt w (ρ (.tmp t))) (hy : ρ y = .bool f) : ∃ r, (execOp ρ o).run Try.prog w = .ok (.value r) w ∧ FlagFn f r w := by
  obtain ⟨r, g0, g1, clock, hv, h1, h2, h3⟩ := h
  cases f with
  | false =>
    have := run_get (P := Try.prog) Try.underlying283 Try.underlying4 (key_bool false) h1 (i := 0) rfl
    exact ⟨_, by simp [execOp, ho, hv, hy, this, Result.andThen], g0, rfl, h2⟩
  | true =>
    have := run_get (P := Try.prog) Try.underlying283 Try.underlying4 (key_bool true) h1 (i := 1) rfl
    exact ⟨_, by simp [execOp, ho, hv, hy, this, Result.andThen], g1, rfl, h3⟩
theorem l_callFlag (f : Bool) (t : Tmp) (ts : Array TypeId) (ho : o.op = .call { callee := .value (.tmp t), args := #[], argTypes := ts }) (hc : (o.looksAt ops).contains t = true) (hF : factOf L t = .pred (FlagFn f) (flagFn_stable f)) (hd : FD L o.dst = .res [if f then 1 else 0]) : RunOk Try.prog ops (FSof L) w0 o := by
  intro a w K Q hG hl hK
  have h' : (factOf L t).holds (a.eval (.tmp t)) w := hl t hc
  rw [hF] at h'
  obtain ⟨g, hv, hb⟩ := h'
  have hr : (execOp a.eval o).run Try.prog w = .ok (.enter 207 #[.pointer (some ⟨g, 0, none⟩)]) w := by
    have h := enters_of Try.func207 (by kernel_rfl) rfl #[.pointer (some ⟨g, 0, none⟩)] w
    simp [execOp, ho, resolve, hv, Deferred.ofValue, invoke, Result.andThen, h]
  unfold Oper.wp
  rw [hr, Oper.upon_enter]
  refine (gives_res (flag11_gives w g _ hb)).mono ?_
  rintro e w' ⟨v, rfl, hg, hf⟩
  exact hK v w' hg (fsd hd hf)
end Reg
set_option maxRecDepth 100000 in
set_option maxHeartbeats 8000000 in
theorem front_gives (e i p z n : Nat) (f : Bool) (A : Option Addr) (k : Nat) (y : List UInt8) (w : World) (hi : i ≤ 2000) (hp : p ≤ 2000) (hz : z ≤ 2000) (hin : InB w w.heap.size A k y) (hy : y.length = 512) :
    Calls Try.prog 141 #[.agg (frCells e i p f z n A y.length k)] w fun x w' => x = .returned (.agg ((sectB (partB e i p f z n) y).map b8).toArray) ∧ Below w.heap.size w w' := by
  have hi32 := conv_3_45 i (by omega)
  have hp32 := conv_3_45 p (by omega)
  have hz32 := conv_3_45 z (by omega)
  have hbf := (BlkIs.new w 120 (frCells e i p f z n A y.length k)).alloc (.cells #[.int .u8 0, .int .u8 0, .int .u8 0, .int .u8 0, .int .u8 0, .int .u8 0, .int .u8 0, .int .u8 0, .int .u8 0, .int .u8 0, .int .u8 0, .int .u8 0, .int .u8 0, .int .u8 0, .int .u8 0, .int .u8 0, .int .u8 0, .int .u8 0, .int .u8 0, .int .u8 0, .int .u8 0, .int .u8 0, .int .u8 0, .int .u8 0, .int .u8 0, .int .u8 0, .int .u8 0, .int .u8 0, .int .u8 0, .int .u8 0, .int .u8 0, .int .u8 0, .int .u8 0, .int .u8 0, .int .u8 0, .int .u8 0, .int .u8 0, .int .u8 0, .int .u8 0, .int .u8 0, .int .u8 0, .int .u8 0, .int .u8 0, .int .u8 0, .int .u8 0, .int .u8 0, .int .u8 0, .int .u8 0, .int .u8 0, .int .u8 0, .int .u8 0, .int .u8 0, .int .u8 0, .int .u8 0, .int .u8 0, .int .u8 0, .int .u8 0, .int .u8 0, .int .u8 0, .int .u8 0, .int .u8 0, .int .u8 0, .int .u8 0, .int .u8 0] 236)
  have hbs := BlkIs.new (w.alloc (.cells (frCells e i p f z n A y.length k) 120)) 236 #[.int .u8 0, .int .u8 0, .int .u8 0, .int .u8 0, .int .u8 0, .int .u8 0, .int .u8 0, .int .u8 0, .int .u8 0, .int .u8 0, .int .u8 0, .int .u8 0, .int .u8 0, .int .u8 0, .int .u8 0, .int .u8 0, .int .u8 0, .int .u8 0, .int .u8 0, .int .u8 0, .int .u8 0, .int .u8 0, .int .u8 0, .int .u8 0, .int .u8 0, .int .u8 0, .int .u8 0, .int .u8 0, .int .u8 0, .int .u8 0, .int .u8 0, .int .u8 0, .int .u8 0, .int .u8 0, .int .u8 0, .int .u8 0, .int .u8 0, .int .u8 0, .int .u8 0, .int .u8 0, .int .u8 0, .int .u8 0, .int .u8 0, .int .u8 0, .int .u8 0, .int .u8 0, .int .u8 0, .int .u8 0, .int .u8 0, .int .u8 0, .int .u8 0, .int .u8 0, .int .u8 0, .int .u8 0, .int .u8 0, .int .u8 0, .int .u8 0, .int .u8 0, .int .u8 0, .int .u8 0, .int .u8 0, .int .u8 0, .int .u8 0, .int .u8 0]
  rw [World.size_alloc] at hbs
  have hBw : Below w.heap.size w ((w.alloc (.cells (frCells e i p f z n A y.length k) 120)).alloc (.cells #[.int .u8 0, .int .u8 0, .int .u8 0, .int .u8 0, .int .u8 0, .int .u8 0, .int .u8 0, .int .u8 0, .int .u8 0, .int .u8 0, .int .u8 0, .int .u8 0, .int .u8 0, .int .u8 0, .int .u8 0, .int .u8 0, .int .u8 0, .int .u8 0, .int .u8 0, .int .u8 0, .int .u8 0, .int .u8 0, .int .u8 0, .int .u8 0, .int .u8 0, .int .u8 0, .int .u8 0, .int .u8 0, .int .u8 0, .int .u8 0, .int .u8 0, .int .u8 0, .int .u8 0, .int .u8 0, .int .u8 0, .int .u8 0, .int .u8 0, .int .u8 0, .int .u8 0, .int .u8 0, .int .u8 0, .int .u8 0, .int .u8 0, .int .u8 0, .int .u8 0, .int .u8 0, .int .u8 0, .int .u8 0, .int .u8 0, .int .u8 0, .int .u8 0, .int .u8 0, .int .u8 0, .int .u8 0, .int .u8 0, .int .u8 0, .int .u8 0, .int .u8 0, .int .u8 0, .int .u8 0, .int .u8 0, .int .u8 0, .int .u8 0, .int .u8 0] 236)) := ((Below.refl _ w).alloc (Nat.le_refl _) _).alloc (by simp) _
  unfold frCells at *
  have HYL := Lib.hid hy
  clear hy
  go_enter Try.func141, Try.ntmps141
  go_wp2_with fail
  generalize (w.alloc (.cells #[.int .u64 (e : Int), .int .i64 (i : Int), .int .i64 (p : Int), .bool f, .int .i64 (z : Int), .int .u32 (n : Int), .slice A y.length k] 120)).alloc (.cells #[.int .u8 0, .int .u8 0, .int .u8 0, .int .u8 0, .int .u8 0, .int .u8 0, .int .u8 0, .int .u8 0, .int .u8 0, .int .u8 0, .int .u8 0, .int .u8 0, .int .u8 0, .int .u8 0, .int .u8 0, .int .u8 0, .int .u8 0, .int .u8 0, .int .u8 0, .int .u8 0, .int .u8 0, .int .u8 0, .int .u8 0, .int .u8 0, .int .u8 0, .int .u8 0, .int .u8 0, .int .u8 0, .int .u8 0, .int .u8 0, .int .u8 0, .int .u8 0, .int .u8 0, .int .u8 0, .int .u8 0, .int .u8 0, .int .u8 0, .int .u8 0, .int .u8 0, .int .u8 0, .int .u8 0, .int .u8 0, .int .u8 0, .int .u8 0, .int .u8 0, .int .u8 0, .int .u8 0, .int .u8 0, .int .u8 0, .int .u8 0, .int .u8 0, .int .u8 0, .int .u8 0, .int .u8 0, .int .u8 0, .int .u8 0, .int .u8 0, .int .u8 0, .int .u8 0, .int .u8 0, .int .u8 0, .int .u8 0, .int .u8 0, .int .u8 0] 236) = W1 at *
  have hc0 : ∀ w', Grow W1 w' → w'.cell? ⟨w.heap.size, 0, none⟩ = some (.int .u64 e) := fun w' hg => (hg.cell (p := ⟨w.heap.size, 0, none⟩) hbf.lt).trans (by rw [hbf.cell]; rfl)
  have hc1 : ∀ w', Grow W1 w' → w'.cell? ⟨w.heap.size, 1, none⟩ = some (.int .i64 i) := fun w' hg => (hg.cell (p := ⟨w.heap.size, 1, none⟩) hbf.lt).trans (by rw [hbf.cell]; rfl)
  have hc2 : ∀ w', Grow W1 w' → w'.cell? ⟨w.heap.size, 2, none⟩ = some (.int .i64 p) := fun w' hg => (hg.cell (p := ⟨w.heap.size, 2, none⟩) hbf.lt).trans (by rw [hbf.cell]; rfl)
  have hc3 : ∀ w', Grow W1 w' → w'.cell? ⟨w.heap.size, 3, none⟩ = some (.bool f) := fun w' hg => (hg.cell (p := ⟨w.heap.size, 3, none⟩) hbf.lt).trans (by rw [hbf.cell]; rfl)
  have hc4 : ∀ w', Grow W1 w' → w'.cell? ⟨w.heap.size, 4, none⟩ = some (.int .i64 z) := fun w' hg => (hg.cell (p := ⟨w.heap.size, 4, none⟩) hbf.lt).trans (by rw [hbf.cell]; rfl)
  have hc5 : ∀ w', Grow W1 w' → w'.cell? ⟨w.heap.size, 5, none⟩ = some (.int .u32 n) := fun w' hg => (hg.cell (p := ⟨w.heap.size, 5, none⟩) hbf.lt).trans (by rw [hbf.cell]; rfl)
  have hc6 : ∀ w', Grow W1 w' → w'.cell? ⟨w.heap.size, 6, none⟩ = some (.slice A y.length k) := fun w' hg => (hg.cell (p := ⟨w.heap.size, 6, none⟩) hbf.lt).trans (by rw [hbf.cell]; rfl)
  have hin1 := (hin.below hBw).more hBw.size
  have hlaid : ∀ w' u, Grow W1 w' → Lists [fixL 8 e, fixL 4 i, fixL 4 p, [if f then 1 else 0], fixL 4 z, fixL 4 n] u w' → Calls Try.prog 182 #[.slice A y.length k, u] w' fun x w2 => x = .returned (.agg ((sectB [fixL 8 e, fixL 4 i, fixL 4 p, [if f then 1 else 0], fixL 4 z, fixL 4 n].flatten y).map b8).toArray) ∧ Below w'.heap.size w' w2 := fun w' u hg hu =>
    laid_gives w' A k y _ u ((hin1.below hg).more hg.size) hu (by simp) (partB_length e i p f z n) (by rw [HYL.out]; omega)
  open Reg in
  refine region_tail_facts (by kernel_rfl) (by kernel_rfl) 30 rfl (by kernel_rfl) 27 (by decide) (by kernel_rfl) (by kernel_rfl) [3, 4, 5, 6, 7, 8, 9, 10, 11, 12, 13, 14, 15, 16, 17, 18, 19, 20, 21, 22, 23, 24, 25, 26, 27, 28, 29] (by kernel_rfl)
    [(1, .val (.pointer (some ⟨w.heap.size, 0, none⟩)))]
    [(3, .val (.pointer (some ⟨w.heap.size, 6, none⟩))), (4, .val (.slice A y.length k)), (5, .val (.pointer (some ⟨w.heap.size, 0, none⟩))), (6, .val (.int .u64 (e : Int))), (7, .res (fixL 8 e)), (8, .val (.pointer (some ⟨w.heap.size, 1, none⟩))), (9, .val (.int .i64 (i : Int))), (10, .val (.int .u32 (i : Int))), (11, .res (fixL 4 i)), (12, .val (.pointer (some ⟨w.heap.size, 2, none⟩))), (13, .val (.int .i64 (p : Int))), (14, .val (.int .u32 (p : Int))), (15, .res (fixL 4 p)), (16, .pred ((fun v w => FlagsAt w v)) (flagsAt_stable)), (17, .val (.pointer (some ⟨w.heap.size, 3, none⟩))), (18, .val (.bool f)), (19, .pred (FlagFn f) (flagFn_stable f)), (20, .res ([if f then 1 else 0])), (21, .val (.pointer (some ⟨w.heap.size, 4, none⟩))), (22, .val (.int .i64 (z : Int))), (23, .val (.int .u32 (z : Int))), (24, .res (fixL 4 z)), (25, .val (.pointer (some ⟨w.heap.size, 5, none⟩))), (26, .val (.int .u32 (n : Int))), (27, .res (fixL 4 n)), (28, .pred (Lists [fixL 8 e, fixL 4 i, fixL 4 p, [if f then 1 else 0], fixL 4 z, fixL 4 n]) (lists_stable _)), (29, .val (.agg ((sectB [fixL 8 e, fixL 4 i, fixL 4 p, [if f then 1 else 0], fixL 4 z, fixL 4 n].flatten y).map b8).toArray))]
    ⟨rfl, trivial⟩ (by kernel_rfl) (by kernel_rfl)
    (allOk_cons (ok_none rfl (l_run1 (.tmp 1) (.pointer (some ⟨w.heap.size, 0, none⟩)) (.pointer (some ⟨w.heap.size, 6, none⟩)) (hs 1 _ (by kernel_rfl) (by kernel_rfl)) (fun ρ w h => by simp [execOp, h, go_sem, Result.andThen]) (by kernel_rfl)))
    <| allOk_cons (ok_none rfl (l_load (.tmp 3) (⟨w.heap.size, 6, none⟩) _ (.slice A y.length k) (by intro w; simp [go_sem, Try.underlying30]) rfl (hs 3 (.pointer (some ⟨w.heap.size, 6, none⟩)) (by kernel_rfl) (by kernel_rfl)) (fun w hg => hc6 w hg) (by kernel_rfl)))
    <| allOk_cons (ok_none rfl (l_run1 (.tmp 1) (.pointer (some ⟨w.heap.size, 0, none⟩)) (.pointer (some ⟨w.heap.size, 0, none⟩)) (hs 1 _ (by kernel_rfl) (by kernel_rfl)) (fun ρ w h => by simp [execOp, h, go_sem, Result.andThen]) (by kernel_rfl)))
    <| allOk_cons (ok_none rfl (l_load (.tmp 5) (⟨w.heap.size, 0, none⟩) _ (.int .u64 (e : Int)) (by intro w; simp [go_sem, Try.underlying41]) rfl (hs 5 (.pointer (some ⟨w.heap.size, 0, none⟩)) (by kernel_rfl) (by kernel_rfl)) (fun w hg => hc0 w hg) (by kernel_rfl)))
    <| allOk_cons (ok_none rfl (l_call 45 _ _ rfl (enters_of Try.func45 (by kernel_rfl) rfl) #[.int .u64 (e : Int)] (.res (fixL 8 e)) (args1 (hs 6 (.int .u64 (e : Int)) (by kernel_rfl) (by kernel_rfl))) (fun w hg => gives_res (eight_gives e w)) (by kernel_rfl)))
    <| allOk_cons (ok_none rfl (l_run1 (.tmp 1) (.pointer (some ⟨w.heap.size, 0, none⟩)) (.pointer (some ⟨w.heap.size, 1, none⟩)) (hs 1 _ (by kernel_rfl) (by kernel_rfl)) (fun ρ w h => by simp [execOp, h, go_sem, Result.andThen]) (by kernel_rfl)))
    <| allOk_cons (ok_none rfl (l_load (.tmp 8) (⟨w.heap.size, 1, none⟩) _ (.int .i64 (i : Int)) (by intro w; simp [go_sem, Try.underlying3]) rfl (hs 8 (.pointer (some ⟨w.heap.size, 1, none⟩)) (by kernel_rfl) (by kernel_rfl)) (fun w hg => hc1 w hg) (by kernel_rfl)))
    <| allOk_cons (ok_none rfl (l_convS (.tmp 9) _ _ (.int .i64 (i : Int)) (.int .u32 (i : Int)) rfl (hs 9 (.int .i64 (i : Int)) (by kernel_rfl) (by kernel_rfl)) (fun w hg => hi32 w) (by kernel_rfl)))
    <| allOk_cons (ok_none rfl (l_call 43 _ _ rfl (enters_of Try.func43 (by kernel_rfl) rfl) #[.int .u32 (i : Int)] (.res (fixL 4 i)) (args1 (hs 10 (.int .u32 (i : Int)) (by kernel_rfl) (by kernel_rfl))) (fun w hg => gives_res (four_gives i w)) (by kernel_rfl)))
    <| allOk_cons (ok_none rfl (l_run1 (.tmp 1) (.pointer (some ⟨w.heap.size, 0, none⟩)) (.pointer (some ⟨w.heap.size, 2, none⟩)) (hs 1 _ (by kernel_rfl) (by kernel_rfl)) (fun ρ w h => by simp [execOp, h, go_sem, Result.andThen]) (by kernel_rfl)))
    <| allOk_cons (ok_none rfl (l_load (.tmp 12) (⟨w.heap.size, 2, none⟩) _ (.int .i64 (p : Int)) (by intro w; simp [go_sem, Try.underlying3]) rfl (hs 12 (.pointer (some ⟨w.heap.size, 2, none⟩)) (by kernel_rfl) (by kernel_rfl)) (fun w hg => hc2 w hg) (by kernel_rfl)))
    <| allOk_cons (ok_none rfl (l_convS (.tmp 13) _ _ (.int .i64 (p : Int)) (.int .u32 (p : Int)) rfl (hs 13 (.int .i64 (p : Int)) (by kernel_rfl) (by kernel_rfl)) (fun w hg => hp32 w) (by kernel_rfl)))
    <| allOk_cons (ok_none rfl (l_call 43 _ _ rfl (enters_of Try.func43 (by kernel_rfl) rfl) #[.int .u32 (p : Int)] (.res (fixL 4 p)) (args1 (hs 14 (.int .u32 (p : Int)) (by kernel_rfl) (by kernel_rfl))) (fun w hg => gives_res (four_gives p w)) (by kernel_rfl)))
    <| allOk_cons (ok_none rfl (l_call 183 _ _ rfl (enters_of Try.func183 (by kernel_rfl) rfl) #[] (.pred ((fun v w => FlagsAt w v)) (flagsAt_stable)) (fun _ _ _ => by simp) (fun w hg => (flags_gives w).mono (fun _ _ ⟨v, he, h1, h2⟩ => ⟨v, he, h2, h1⟩)) (by kernel_rfl)))
    <| allOk_cons (ok_none rfl (l_run1 (.tmp 1) (.pointer (some ⟨w.heap.size, 0, none⟩)) (.pointer (some ⟨w.heap.size, 3, none⟩)) (hs 1 _ (by kernel_rfl) (by kernel_rfl)) (fun ρ w h => by simp [execOp, h, go_sem, Result.andThen]) (by kernel_rfl)))
    <| allOk_cons (ok_none rfl (l_load (.tmp 17) (⟨w.heap.size, 3, none⟩) _ (.bool f) (by intro w; simp [go_sem, Try.underlying4]) rfl (hs 17 (.pointer (some ⟨w.heap.size, 3, none⟩)) (by kernel_rfl) (by kernel_rfl)) (fun w hg => hc3 w hg) (by kernel_rfl)))
    <| allOk_cons (ok_none rfl (l_runP 16 (.tmp 18) _ flagsAt_stable (.bool f) (.pred (FlagFn f) (flagFn_stable f)) (by kernel_rfl) (by kernel_rfl) (hs 18 _ (by kernel_rfl) (by kernel_rfl)) (fun ρ w hg h1 h2 => let ⟨r, q1, q2⟩ := run_flag f rfl h1 h2; ⟨r, w, q1, Grow.refl _, q2⟩) (by kernel_rfl)))
    <| allOk_cons (ok_none rfl (l_callFlag f 19 _ rfl (by kernel_rfl) (by kernel_rfl) (by kernel_rfl)))
    <| allOk_cons (ok_none rfl (l_run1 (.tmp 1) (.pointer (some ⟨w.heap.size, 0, none⟩)) (.pointer (some ⟨w.heap.size, 4, none⟩)) (hs 1 _ (by kernel_rfl) (by kernel_rfl)) (fun ρ w h => by simp [execOp, h, go_sem, Result.andThen]) (by kernel_rfl)))
    <| allOk_cons (ok_none rfl (l_load (.tmp 21) (⟨w.heap.size, 4, none⟩) _ (.int .i64 (z : Int)) (by intro w; simp [go_sem, Try.underlying3]) rfl (hs 21 (.pointer (some ⟨w.heap.size, 4, none⟩)) (by kernel_rfl) (by kernel_rfl)) (fun w hg => hc4 w hg) (by kernel_rfl)))
    <| allOk_cons (ok_none rfl (l_convS (.tmp 22) _ _ (.int .i64 (z : Int)) (.int .u32 (z : Int)) rfl (hs 22 (.int .i64 (z : Int)) (by kernel_rfl) (by kernel_rfl)) (fun w hg => hz32 w) (by kernel_rfl)))
    <| allOk_cons (ok_none rfl (l_call 43 _ _ rfl (enters_of Try.func43 (by kernel_rfl) rfl) #[.int .u32 (z : Int)] (.res (fixL 4 z)) (args1 (hs 23 (.int .u32 (z : Int)) (by kernel_rfl) (by kernel_rfl))) (fun w hg => gives_res (four_gives z w)) (by kernel_rfl)))
    <| allOk_cons (ok_none rfl (l_run1 (.tmp 1) (.pointer (some ⟨w.heap.size, 0, none⟩)) (.pointer (some ⟨w.heap.size, 5, none⟩)) (hs 1 _ (by kernel_rfl) (by kernel_rfl)) (fun ρ w h => by simp [execOp, h, go_sem, Result.andThen]) (by kernel_rfl)))
    <| allOk_cons (ok_none rfl (l_load (.tmp 25) (⟨w.heap.size, 5, none⟩) _ (.int .u32 (n : Int)) (by intro w; simp [go_sem, Try.underlying45]) rfl (hs 25 (.pointer (some ⟨w.heap.size, 5, none⟩)) (by kernel_rfl) (by kernel_rfl)) (fun w hg => hc5 w hg) (by kernel_rfl)))
    <| allOk_cons (ok_none rfl (l_call 43 _ _ rfl (enters_of Try.func43 (by kernel_rfl) rfl) #[.int .u32 (n : Int)] (.res (fixL 4 n)) (args1 (hs 26 (.int .u32 (n : Int)) (by kernel_rfl) (by kernel_rfl))) (fun w hg => gives_res (four_gives n w)) (by kernel_rfl)))
    <| allOk_cons (ok_none rfl (l_build6 7 11 15 20 24 27 (fixL 8 e) (fixL 4 i) (fixL 4 p) [if f then 1 else 0] (fixL 4 z) (fixL 4 n) rfl (by kernel_rfl) (by kernel_rfl) (by kernel_rfl) (by kernel_rfl) (by kernel_rfl) (by kernel_rfl) (by kernel_rfl) (by kernel_rfl) (by kernel_rfl) (by kernel_rfl) (by kernel_rfl) (by kernel_rfl) (by kernel_rfl)))
    <| allOk_cons (ok_none rfl (l_callVP 182 (.tmp 4) 28 (.slice A y.length k) (Lists [fixL 8 e, fixL 4 i, fixL 4 p, [if f then 1 else 0], fixL 4 z, fixL 4 n]) (lists_stable _) _ rfl (enters_of Try.func182 (by kernel_rfl) rfl) (.val (.agg ((sectB [fixL 8 e, fixL 4 i, fixL 4 p, [if f then 1 else 0], fixL 4 z, fixL 4 n].flatten y).map b8).toArray)) (hs 4 _ (by kernel_rfl) (by kernel_rfl)) (by kernel_rfl) (by kernel_rfl) (fun w u hg hu => gives_grow (hlaid w u hg hu)) (by kernel_rfl)))
    <| allOk_nil) ?_
  intro a W3 hsz hdef hGW3 hF hU
  have e29 : a.eval (.tmp 29) = .agg ((sectB [fixL 8 e, fixL 4 i, fixL 4 p, [if f then 1 else 0], fixL 4 z, fixL 4 n].flatten y).map b8).toArray := hF 29
  have ha := Reg.acts_eq [3, 4, 5, 6, 7, 8, 9, 10, 11, 12, 13, 14, 15, 16, 17, 18, 19, 20, 21, 22, 23, 24, 25, 26, 27, 28, 29] hsz hdef hU
  clear hF hU hdef
  simp only [List.foldl_cons, List.foldl_nil, e29] at ha
  clear e29 hsz
  generalize a.eval (.tmp 3) = v3 at *
  generalize a.eval (.tmp 4) = v4 at *
  generalize a.eval (.tmp 5) = v5 at *
  generalize a.eval (.tmp 6) = v6 at *
  generalize a.eval (.tmp 7) = v7 at *
  generalize a.eval (.tmp 8) = v8 at *
  generalize a.eval (.tmp 9) = v9 at *
  generalize a.eval (.tmp 10) = v10 at *
  generalize a.eval (.tmp 11) = v11 at *
  generalize a.eval (.tmp 12) = v12 at *
  generalize a.eval (.tmp 13) = v13 at *
  generalize a.eval (.tmp 14) = v14 at *
  generalize a.eval (.tmp 15) = v15 at *
  generalize a.eval (.tmp 16) = v16 at *
  generalize a.eval (.tmp 17) = v17 at *
  generalize a.eval (.tmp 18) = v18 at *
  generalize a.eval (.tmp 19) = v19 at *
  generalize a.eval (.tmp 20) = v20 at *
  generalize a.eval (.tmp 21) = v21 at *
  generalize a.eval (.tmp 22) = v22 at *
  generalize a.eval (.tmp 23) = v23 at *
  generalize a.eval (.tmp 24) = v24 at *
  generalize a.eval (.tmp 25) = v25 at *
  generalize a.eval (.tmp 26) = v26 at *
  generalize a.eval (.tmp 27) = v27 at *
  generalize a.eval (.tmp 28) = v28 at *
  simp only [Act.put, List.setIfInBounds_toArray, List.set_cons_succ, List.set_cons_zero] at ha
  subst ha
  simp only [Reg.Rest, List.drop_succ_cons, List.drop_zero]
  have hs3 := hbs.below hGW3 hbs.lt
  have hB3 : Below w.heap.size w W3 := hBw.trans (hGW3.mono hBw.size)
  have hpb : [fixL 8 e, fixL 4 i, fixL 4 p, [if f then 1 else 0], fixL 4 z, fixL 4 n].flatten = partB e i p f z n := rfl
  have hl25 := partB_length e i p f z n
  rw [hpb]
  clear hlaid hc0 hc1 hc2 hc3 hc4 hc5 hc6 hbf hbs hin1 hpb hi32 hp32 hz32
  generalize hPq : partB e i p f z n = P at *
  have HPq := Lib.hid hPq
  clear hPq
  have h64 : ((sectB P y).map b8).toArray.size = 64 := by
    simp [sectB_length]; omega
  have hRow : RowTy Try.prog 236 ((sectB P y).map b8).toArray.size := by rw [h64]; exact rowSector
  refine wp_storeW rfl 236 (.tmp 2) (.tmp 29) rfl (w.heap.size + 1) rfl rfl rowSector hs3 (by simp) (by rw [h64]; simp) (b8_one _) ?_
  have hb4 := hs3.setRow ((sectB P y).map b8).toArray
  have hB4 : Below w.heap.size w (W3.setRow (w.heap.size + 1) ((sectB P y).map b8).toArray) := below_setRow hB3 (by omega) _
  generalize W3.setRow (w.heap.size + 1) ((sectB P y).map b8).toArray = W4 at *
  clear h64 hs3 hl25
  simp only [wpList, Act.put, Exit.then]
  refine ‹∀ (a : Act) (w : World), Code.wp Try.prog Code.ret _ a w → _› _ W4 ?_
  refine wp_ret (bodyPost_ret_by (results_cellW 2 rfl rfl hRow hb4 rfl) rfl ⟨?_, hB4⟩)
  rw [HPq.out]
end Go.Proofs.Ytlelckdcmlpmdaa
/- frame.Encode. -/
namespace Go.Proofs.Ytlelckdcmlpmdaa
open Go Go.RowKit Lou

def fEnc (e : Nat) (i p : Int) (f : Bool) (z : Int) (n : Nat) (y : List UInt8) : List UInt8 := if frOk y.length i p f z then frameB (partB e i.toNat p.toNat f z.toNat n) y else []
def fErr (i p : Int) (f : Bool) (z : Int) (y : List UInt8) : Int := if frOk y.length i p f z then 0 else 2
theorem fEnc_ok {e i p : Nat} {f : Bool} {z n : Nat} {y : List UInt8} (h : frOk y.length i p f z = true) : fEnc e i p f z n y = frameB (partB e i p f z n) y ∧ fErr i p f z y = 0 := by simp [fEnc, fErr, h]
set_option maxRecDepth 100000 in
set_option maxHeartbeats 8000000 in
theorem encode_gives (e : Nat) (i p : Int) (f : Bool) (z : Int) (n : Nat) (A : Option Addr) (k : Nat) (y : List UInt8) (w : World) (hin : InB w w.heap.size A k y) :
    Calls Try.prog 74 #[.agg (frCells e i p f z n A y.length k)] w (GivesBE w (fEnc e i p f z n y) (fErr i p f z y)) := by
  have hbh := BlkIs.new w 120 (frCells e i p f z n A y.length k)
  have hBw : Below w.heap.size w (w.alloc (.cells (frCells e i p f z n A y.length k) 120)) := (Below.refl _ w).alloc (Nat.le_refl _) _
  have H := right_gives e i p f z n A y.length k (w.alloc (.cells (frCells e i p f z n A y.length k) 120))
  cases hk : frOk y.length i p f z with
  | false =>
    have h1 : fEnc e i p f z n y = [] := by simp [fEnc, hk]
    have h2 : fErr i p f z y = 2 := by simp [fErr, hk]
    rw [h1, h2]
    rw [hk] at H
    clear h1 h2 hk
    unfold frCells at *
    go_enter Try.func74, Try.ntmps74
    go_wp2_with (first
      | (go_at_call 140; refine H.mono ?_; rintro x w2 ⟨rfl, hB2⟩)
      | (refine wp_loadW rfl 120 (.tmp 1) rfl w.heap.size rfl rowFrame hbh (by rfl) ?_))
    exact bodyPost_ret (results_tmp2 rfl _ _ _) rfl ⟨none, 0, rfl, InB.mt _ _, hBw.trans (hB2.mono hBw.size)⟩
  | true =>
    obtain ⟨hy, ⟨hi0, hi1⟩, ⟨hp0, hp1⟩, ⟨hz0, hz1⟩, _⟩ := (frOk_iff _ _ _ _ _).1 hk
    obtain ⟨i, rfl⟩ : ∃ q : Nat, i = q := ⟨i.toNat, by omega⟩
    obtain ⟨p, rfl⟩ : ∃ q : Nat, p = q := ⟨p.toNat, by omega⟩
    obtain ⟨z, rfl⟩ : ∃ q : Nat, z = q := ⟨z.toNat, by omega⟩
    rw [hk] at H
    obtain ⟨h1, h2⟩ := fEnc_ok (e := e) (n := n) hk
    rw [h1, h2]
    have hin1 := (hin.below hBw).more hBw.size
    have HF := fun W (h : InB W W.heap.size A k y) => front_gives e i p z n f A k y W (by omega) (by omega) (by omega) h hy
    have hl25 := partB_length e i p f z n
    have hfr : frameB (partB e i p f z n) y = sectB (partB e i p f z n) y ++ y := rfl
    have hsl : (sectB (partB e i p f z n) y).length = 64 := by rw [sectB_length, hl25]
    rw [hfr]
    generalize sectB (partB e i p f z n) y = s at *
    have HSL := Lib.hid hsl
    have HYL := Lib.hid hy
    have hRow : RowTy Try.prog 236 (s.map b8).toArray.size := by
      have : (s.map b8).toArray.size = 64 := by simp [hsl]
      rw [this]
      exact rowSector
    clear h1 h2 hk hin hfr hl25 hsl hy
    unfold frCells at *
    go_enter Try.func74, Try.ntmps74
    go_wp2_with (first
      | (go_at_call 140; refine H.mono ?_; rintro x w2 ⟨rfl, hB2⟩; have hbh2 := hbh.below hB2 hbh.lt; have hB02 := hBw.trans (hB2.mono hBw.size); have hin2 := (hin1.below hB2).more hB2.size; clear H hbh hin1)
      | (go_at_call 141; refine (HF _ hin2).mono ?_; rintro x w3 ⟨rfl, hB3⟩; have hbh3 := hbh2.below hB3 hbh2.lt; have hB03 := hB02.trans (hB3.mono hB02.size); have hin3 := (hin2.below hB3).more hB3.size; clear HF hbh2 hin2)
      | (refine wp_loadW rfl 120 (.tmp 1) rfl w.heap.size rfl rowFrame (by assumption) (by rfl) ?_)
      | (refine wp_storeW rfl 236 (.tmp 4) (.tmp 9) rfl w3.heap.size rfl rfl rowSector (BlkIs.new w3 236 #[.int .u8 0, .int .u8 0, .int .u8 0, .int .u8 0, .int .u8 0, .int .u8 0, .int .u8 0, .int .u8 0, .int .u8 0, .int .u8 0, .int .u8 0, .int .u8 0, .int .u8 0, .int .u8 0, .int .u8 0, .int .u8 0, .int .u8 0, .int .u8 0, .int .u8 0, .int .u8 0, .int .u8 0, .int .u8 0, .int .u8 0, .int .u8 0, .int .u8 0, .int .u8 0, .int .u8 0, .int .u8 0, .int .u8 0, .int .u8 0, .int .u8 0, .int .u8 0, .int .u8 0, .int .u8 0, .int .u8 0, .int .u8 0, .int .u8 0, .int .u8 0, .int .u8 0, .int .u8 0, .int .u8 0, .int .u8 0, .int .u8 0, .int .u8 0, .int .u8 0, .int .u8 0, .int .u8 0, .int .u8 0, .int .u8 0, .int .u8 0, .int .u8 0, .int .u8 0, .int .u8 0, .int .u8 0, .int .u8 0, .int .u8 0, .int .u8 0, .int .u8 0, .int .u8 0, .int .u8 0, .int .u8 0, .int .u8 0, .int .u8 0, .int .u8 0]) (by rfl) (by have := HSL.out; simp; omega) (b8_one _) ?_))
    have hb4 := (BlkIs.new w3 236 #[.int .u8 0, .int .u8 0, .int .u8 0, .int .u8 0, .int .u8 0, .int .u8 0, .int .u8 0, .int .u8 0, .int .u8 0, .int .u8 0, .int .u8 0, .int .u8 0, .int .u8 0, .int .u8 0, .int .u8 0, .int .u8 0, .int .u8 0, .int .u8 0, .int .u8 0, .int .u8 0, .int .u8 0, .int .u8 0, .int .u8 0, .int .u8 0, .int .u8 0, .int .u8 0, .int .u8 0, .int .u8 0, .int .u8 0, .int .u8 0, .int .u8 0, .int .u8 0, .int .u8 0, .int .u8 0, .int .u8 0, .int .u8 0, .int .u8 0, .int .u8 0, .int .u8 0, .int .u8 0, .int .u8 0, .int .u8 0, .int .u8 0, .int .u8 0, .int .u8 0, .int .u8 0, .int .u8 0, .int .u8 0, .int .u8 0, .int .u8 0, .int .u8 0, .int .u8 0, .int .u8 0, .int .u8 0, .int .u8 0, .int .u8 0, .int .u8 0, .int .u8 0, .int .u8 0, .int .u8 0, .int .u8 0, .int .u8 0, .int .u8 0, .int .u8 0]).setRow (s.map b8).toArray
    have hB34 : Below w3.heap.size w3 ((w3.alloc (.cells #[.int .u8 0, .int .u8 0, .int .u8 0, .int .u8 0, .int .u8 0, .int .u8 0, .int .u8 0, .int .u8 0, .int .u8 0, .int .u8 0, .int .u8 0, .int .u8 0, .int .u8 0, .int .u8 0, .int .u8 0, .int .u8 0, .int .u8 0, .int .u8 0, .int .u8 0, .int .u8 0, .int .u8 0, .int .u8 0, .int .u8 0, .int .u8 0, .int .u8 0, .int .u8 0, .int .u8 0, .int .u8 0, .int .u8 0, .int .u8 0, .int .u8 0, .int .u8 0, .int .u8 0, .int .u8 0, .int .u8 0, .int .u8 0, .int .u8 0, .int .u8 0, .int .u8 0, .int .u8 0, .int .u8 0, .int .u8 0, .int .u8 0, .int .u8 0, .int .u8 0, .int .u8 0, .int .u8 0, .int .u8 0, .int .u8 0, .int .u8 0, .int .u8 0, .int .u8 0, .int .u8 0, .int .u8 0, .int .u8 0, .int .u8 0, .int .u8 0, .int .u8 0, .int .u8 0, .int .u8 0, .int .u8 0, .int .u8 0, .int .u8 0, .int .u8 0] 236)).setRow w3.heap.size (s.map b8).toArray) := below_setRow ((Below.refl _ w3).alloc (Nat.le_refl _) _) (Nat.le_refl _) _
    have hB4 : Below w.heap.size w ((w3.alloc (.cells #[.int .u8 0, .int .u8 0, .int .u8 0, .int .u8 0, .int .u8 0, .int .u8 0, .int .u8 0, .int .u8 0, .int .u8 0, .int .u8 0, .int .u8 0, .int .u8 0, .int .u8 0, .int .u8 0, .int .u8 0, .int .u8 0, .int .u8 0, .int .u8 0, .int .u8 0, .int .u8 0, .int .u8 0, .int .u8 0, .int .u8 0, .int .u8 0, .int .u8 0, .int .u8 0, .int .u8 0, .int .u8 0, .int .u8 0, .int .u8 0, .int .u8 0, .int .u8 0, .int .u8 0, .int .u8 0, .int .u8 0, .int .u8 0, .int .u8 0, .int .u8 0, .int .u8 0, .int .u8 0, .int .u8 0, .int .u8 0, .int .u8 0, .int .u8 0, .int .u8 0, .int .u8 0, .int .u8 0, .int .u8 0, .int .u8 0, .int .u8 0, .int .u8 0, .int .u8 0, .int .u8 0, .int .u8 0, .int .u8 0, .int .u8 0, .int .u8 0, .int .u8 0, .int .u8 0, .int .u8 0, .int .u8 0, .int .u8 0, .int .u8 0, .int .u8 0] 236)).setRow w3.heap.size (s.map b8).toArray) := hB03.trans (hB34.mono hB03.size)
    have hf4 := hbh3.below hB34 hbh3.lt
    have hin4 := (hin3.below hB34).more hB34.size
    have hs4 := hb4.inBT (by rw [HSL.out]; omega)
    rw [HSL.out] at hs4
    clear hb4 hbh3 hin3 hB34 hB03 hB02 hB2 hB3
    generalize hW4 : (w3.alloc (.cells #[.int .u8 0, .int .u8 0, .int .u8 0, .int .u8 0, .int .u8 0, .int .u8 0, .int .u8 0, .int .u8 0, .int .u8 0, .int .u8 0, .int .u8 0, .int .u8 0, .int .u8 0, .int .u8 0, .int .u8 0, .int .u8 0, .int .u8 0, .int .u8 0, .int .u8 0, .int .u8 0, .int .u8 0, .int .u8 0, .int .u8 0, .int .u8 0, .int .u8 0, .int .u8 0, .int .u8 0, .int .u8 0, .int .u8 0, .int .u8 0, .int .u8 0, .int .u8 0, .int .u8 0, .int .u8 0, .int .u8 0, .int .u8 0, .int .u8 0, .int .u8 0, .int .u8 0, .int .u8 0, .int .u8 0, .int .u8 0, .int .u8 0, .int .u8 0, .int .u8 0, .int .u8 0, .int .u8 0, .int .u8 0, .int .u8 0, .int .u8 0, .int .u8 0, .int .u8 0, .int .u8 0, .int .u8 0, .int .u8 0, .int .u8 0, .int .u8 0, .int .u8 0, .int .u8 0, .int .u8 0, .int .u8 0, .int .u8 0, .int .u8 0, .int .u8 0] 236)).setRow w3.heap.size (s.map b8).toArray = W4 at *
    generalize w3.heap.size = g3 at *
    clear hW4
    simp only [Act.put]
    have hc6 : W4.cell? ⟨w.heap.size, 6, none⟩ = some (.slice A y.length k) := by rw [hf4.cell]; rfl
    have hC := concat2_gives W4.drew (some ⟨g3, 0, none⟩) A 64 k s y hs4.drew hin4.drew (by rw [HSL.out, HYL.out]; omega)
    rw [HSL.out] at hC
    have hlt4 := hf4.lt
    go_region_held3 (fun W => Below W4.heap.size W4 W ∧ W.cell? ⟨w.heap.size, 6, none⟩ = some (.slice A y.length k)) (first | exact ⟨(Below.refl _ _).drew, hc6⟩ | exact ⟨((Below.refl _ W4).drew).alloc (Nat.le_refl _) _, (World.cell?_of_block (Below.heap_alloc W4.drew _ _ hlt4)).trans hc6⟩ | exact ⟨hB5', (hB5'.cell (p := ⟨w.heap.size, 6, none⟩) hlt4).trans hc6⟩)
      (first
        | (go_at_call 142; refine hC.mono ?_; rintro x W5 ⟨v5, rfl, own5, hB5⟩; have hB5' : Below W4.heap.size W4 W5 := (Below.refl _ W4).drew.trans hB5))
    go_wp2
    obtain ⟨A5, c5, rfl, hin5⟩ := own5.inB
    exact bodyPost_ret (results_tmp2 rfl _ _ _) rfl ⟨A5, c5, rfl, hin5, hB4.trans (hB5'.mono hB4.size)⟩
end Go.Proofs.Ytlelckdcmlpmdaa
/- frame: the reader's take and number. -/
namespace Go.Proofs.Ytlelckdcmlpmdaa
open Go Go.RowKit Lou

theorem ftake_gives (w : World) (g o : Nat) (A : Option Addr) (len c n : Nat) (hlen : len ≤ c) (hcc : c ≤ 9223372036854775807) (hn : n ≤ len) (hc : w.cell? ⟨g, o, none⟩ = some (.slice A len c)) (hf : w.frozen? ⟨g, o, none⟩ = false) :
    Calls Try.prog 143 #[.pointer (some ⟨g, o, none⟩), .int .i64 n] w fun e w' => e = .returned (.slice A n n) ∧ w.setCell ⟨g, o, none⟩ (.slice (cutA A c n) (len - n) (c - n)) = w' := by
  by_cases hcn : c = n
  · obtain rfl : len = c := by omega
    subst hcn
    go_enter Try.func143, Try.ntmps143
    go_wp2
    go_ret
    refine ⟨rfl, ?_⟩
    simp [cutA]
  · go_enter Try.func143, Try.ntmps143
    go_wp2
    go_ret
    refine ⟨rfl, ?_⟩
    simp [cutA, hcn]

/-- A reader stands at bytes l. -/
structure RdrAt (w : World) (g : Nat) (A : Option Addr) (c : Nat) (l : List UInt8) : Prop where
  blk : BlkIs w g 242 #[.slice A l.length c]
  inb : InB w g A c l
theorem RdrAt.below {w w' : World} {g : Nat} {A : Option Addr} {c : Nat} {l : List UInt8} (h : RdrAt w g A c l) (hB : Below w.heap.size w w') : RdrAt w' g A c l :=
  ⟨h.blk.below hB h.blk.lt, h.inb.below (hB.mono (Nat.le_of_lt h.blk.lt))⟩
theorem RdrAt.cut {w : World} {g : Nat} {A : Option Addr} {c : Nat} {l : List UInt8} (h : RdrAt w g A c l) (n : Nat) (hn : n ≤ l.length) : RdrAt (w.setCell ⟨g, 0, none⟩ (.slice (cutA A c n) (l.length - n) (c - n))) g (cutA A c n) (c - n) (l.drop n) := by
  refine ⟨?_, (h.inb.drop n hn).keep fun p hp => World.cell?_setCell_other w _ p _ (fun e => by subst e; simp at hp)⟩
  have := h.blk.set 0 (.slice (cutA A c n) (l.length - n) (c - n))
  rw [List.length_drop]
  exact this

set_option maxRecDepth 100000 in
set_option maxHeartbeats 1000000 in
theorem number64_gives (w : World) (g : Nat) (A : Option Addr) (c : Nat) (l : List UInt8) (h : RdrAt w g A c l) (hl : 8 ≤ l.length) :
    Calls Try.prog 138 #[.pointer (some ⟨g, 0, none⟩), .int .i64 8, .func (.func 40) #[] #[]] w fun e w' => e = .returned (.int .u64 (rfix (l.take 8) : Int)) ∧ RdrAt w' g (cutA A c 8) (c - 8) (l.drop 8) ∧ Below g w w' := by
  have hle := h.inb.le
  have hmx := h.inb.max
  have T := ftake_gives w g 0 A l.length c 8 hle hmx hl (by rw [h.blk.cell]; rfl) (h.blk.free 0)
  have hR := h.cut 8 hl
  have hB1 : Below g w (w.setCell ⟨g, 0, none⟩ (.slice (cutA A c 8) (l.length - 8) (c - 8))) := (Below.refl g w).setCell (p := ⟨g, 0, none⟩) (Nat.le_refl g) _
  have hin := h.inb.below hB1
  clear h
  generalize w.setCell ⟨g, 0, none⟩ (.slice (cutA A c 8) (l.length - 8) (c - 8)) = w1 at *
  have ht := hin.take 8 8 hl (Nat.le_refl _) (by omega)
  have E := readEight_gives w1 A 8 (l.take 8) (ht.more (Nat.le_of_lt hR.blk.lt))
  have hl8 : (l.take 8).length = 8 := by simp; omega
  rw [fixV_ge (by omega), hl8, List.take_take, Nat.min_self] at E
  have hg := hR.blk.lt
  go_enter Try.func138, Try.ntmps138
  go_wp2_with (first | (go_at_call 143; refine T.mono ?_; rintro e w' ⟨rfl, rfl⟩) | (go_at_call 40; refine E.mono ?_; rintro e w' ⟨rfl, hB2⟩))
  go_ret
  exact ⟨rfl, hR.below hB2, hB1.trans (hB2.mono (Nat.le_of_lt hg))⟩
set_option maxRecDepth 100000 in
set_option maxHeartbeats 1000000 in
theorem number32_gives (w : World) (g : Nat) (A : Option Addr) (c : Nat) (l : List UInt8) (h : RdrAt w g A c l) (hl : 4 ≤ l.length) :
    Calls Try.prog 139 #[.pointer (some ⟨g, 0, none⟩), .int .i64 4, .func (.func 39) #[] #[]] w fun e w' => e = .returned (.int .u32 (rfix (l.take 4) : Int)) ∧ RdrAt w' g (cutA A c 4) (c - 4) (l.drop 4) ∧ Below g w w' := by
  have hle := h.inb.le
  have hmx := h.inb.max
  have T := ftake_gives w g 0 A l.length c 4 hle hmx hl (by rw [h.blk.cell]; rfl) (h.blk.free 0)
  have hR := h.cut 4 hl
  have hB1 : Below g w (w.setCell ⟨g, 0, none⟩ (.slice (cutA A c 4) (l.length - 4) (c - 4))) := (Below.refl g w).setCell (p := ⟨g, 0, none⟩) (Nat.le_refl g) _
  have hin := h.inb.below hB1
  clear h
  generalize w.setCell ⟨g, 0, none⟩ (.slice (cutA A c 4) (l.length - 4) (c - 4)) = w1 at *
  have ht := hin.take 4 4 hl (Nat.le_refl _) (by omega)
  have E := readFour_gives w1 A 4 (l.take 4) (ht.more (Nat.le_of_lt hR.blk.lt))
  have hl4 : (l.take 4).length = 4 := by simp; omega
  rw [fixV32_ge (by omega), hl4, List.take_take, Nat.min_self] at E
  have hg := hR.blk.lt
  go_enter Try.func139, Try.ntmps139
  go_wp2_with (first | (go_at_call 143; refine T.mono ?_; rintro e w' ⟨rfl, rfl⟩) | (go_at_call 39; refine E.mono ?_; rintro e w' ⟨rfl, hB2⟩))
  go_ret
  exact ⟨rfl, hR.below hB2, hB1.trans (hB2.mono (Nat.le_of_lt hg))⟩

/-- What DecodeHead tells of bytes. -/
def decHV (l : List UInt8) : Value := if isHead l then .tuple #[.agg #[.int .u64 (hdS l : Int), .int .u64 (hdE l : Int), .int .i64 (hdZ l : Int), .int .i64 (hdC l : Int)], .int .i64 0] else .tuple #[.agg #[.int .u64 0, .int .u64 0, .int .i64 0, .int .i64 0], .int .i64 150]
theorem decHV_no {l : List UInt8} (h : isHead l = false) : decHV l = .tuple #[.agg #[.int .u64 0, .int .u64 0, .int .i64 0, .int .i64 0], .int .i64 150] := by simp [decHV, h]
theorem decHV_yes {l : List UInt8} (h : isHead l = true) : decHV l = .tuple #[.agg #[.int .u64 (hdS l : Int), .int .u64 (hdE l : Int), .int .i64 (hdZ l : Int), .int .i64 (hdC l : Int)], .int .i64 0] := by simp [decHV, h]
theorem rfix_take4 (l : List UInt8) : rfix (l.take 4) < 4294967296 := by
  have h1 := rfix_lt (l.take 4)
  have h2 : 256 ^ (l.take 4).length ≤ 256 ^ 4 := Nat.pow_le_pow_right (by omega) (by simp; omega)
  have h3 : (256 : Nat) ^ 4 = 4294967296 := by decide
  omega
theorem rfix_take8 (l : List UInt8) : rfix (l.take 8) < 2 ^ 64 := by
  have h1 := rfix_lt (l.take 8)
  have h2 : 256 ^ (l.take 8).length ≤ 256 ^ 8 := Nat.pow_le_pow_right (by omega) (by simp; omega)
  have h3 : (256 : Nat) ^ 8 = 2 ^ 64 := by decide
  omega
theorem zeroHead_one : ∀ v ∈ (#[.int .u64 0, .int .u64 0, .int .i64 0, .int .i64 0] : Array Value).toList, v.oneCell' = true := by
  intro v hv
  simp at hv
  rcases hv with rfl | rfl <;> rfl
theorem head_one (s e z c : Int) : ∀ v ∈ (#[.int .u64 s, .int .u64 e, .int .i64 z, .int .i64 c] : Array Value).toList, v.oneCell' = true := by
  intro v hv
  simp at hv
  rcases hv with rfl | rfl | rfl | rfl <;> rfl

set_option maxRecDepth 100000 in
set_option maxHeartbeats 4000000 in
theorem decodeHead_len (w : World) (A : Option Addr) (c : Nat) (l : List UInt8) (h : InB w w.heap.size A c l) (hl : l.length ≠ 64) :
    Calls Try.prog 72 #[.slice A l.length c] w fun x w' => x = .returned (decHV l) ∧ Below w.heap.size w w' := by
  have hb0 := BlkIs.new w 109 #[.int .u64 0, .int .u64 0, .int .i64 0, .int .i64 0]
  have hB0 : Below w.heap.size w (w.alloc (.cells #[.int .u64 0, .int .u64 0, .int .i64 0, .int .i64 0] 109)) := (Below.refl _ w).alloc (Nat.le_refl _) _
  have hle := h.le
  have hmx := h.max
  have hno : isHead l = false := by cases hi : isHead l; rfl; exact absurd ((isHead_iff l).1 hi).1 hl
  rw [decHV_no hno]
  have hq : ((l.length : Int) == 64) = false := by simp; omega
  clear hno hl
  go_enter Try.func72, Try.ntmps72
  go_wp2_with (refine wp_storeW rfl 109 (.tmp 2) (.tmp 35) rfl w.heap.size rfl rfl rowHead hb0 (by rfl) (by rfl) zeroHead_one ?_)
  refine bodyPost_ret_by (results_cellW_tmp 2 3 rfl rfl rfl rowHead (hb0.setRow _) (by rfl)) rfl ⟨rfl, below_setRow hB0 (Nat.le_refl _) _⟩

set_option maxRecDepth 100000 in
set_option maxHeartbeats 8000000 in
theorem decodeHead_64 (w : World) (A : Option Addr) (c : Nat) (l : List UInt8) (h : InB w w.heap.size A c l) (hl64 : l.length = 64) :
    Calls Try.prog 72 #[.slice A 64 c] w fun x w' => x = .returned (decHV l) ∧ Below w.heap.size w w' := by
  have hle := h.le
  have hmx := h.max
  obtain ⟨g, o, rfl, hg, hcs⟩ := h.lies (by omega)
  have hb0 := (BlkIs.new w 109 #[.int .u64 0, .int .u64 0, .int .i64 0, .int .i64 0]).alloc (.cells #[.slice (some ⟨g, o, none⟩) 64 c] 242)
  have hB0 : Below w.heap.size w ((w.alloc (.cells #[.int .u64 0, .int .u64 0, .int .i64 0, .int .i64 0] 109)).alloc (.cells #[.slice (some ⟨g, o, none⟩) 64 c] 242)) := ((Below.refl _ w).alloc (Nat.le_refl _) _).alloc (by simp) _
  have hr0 : RdrAt ((w.alloc (.cells #[.int .u64 0, .int .u64 0, .int .i64 0, .int .i64 0] 109)).alloc (.cells #[.slice (some ⟨g, o, none⟩) 64 c] 242)) (w.heap.size + 1) (some ⟨g, o, none⟩) c l := by
    refine ⟨?_, (h.below hB0).more (by omega)⟩
    have := BlkIs.new (w.alloc (.cells #[.int .u64 0, .int .u64 0, .int .i64 0, .int .i64 0] 109)) 242 #[.slice (some ⟨g, o, none⟩) 64 c]
    rw [World.size_alloc] at this
    rw [hl64]
    exact this
  have HL := Lib.hid hl64
  clear hl64
  go_enter Try.func72, Try.ntmps72
  go_wp2_with fail
  generalize (w.alloc (.cells #[.int .u64 0, .int .u64 0, .int .i64 0, .int .i64 0] 109)).alloc (.cells #[.slice (some ⟨g, o, none⟩) 64 c] 242) = W1 at *
  refine (number64_gives W1 _ _ c l hr0 (by have := HL.out; omega)).mono ?_
  rintro x W2 ⟨rfl, hr1, hb1⟩
  go_wp2_with fail
  refine (number64_gives W2 _ _ _ _ hr1 (by have := HL.out; simp; omega)).mono ?_
  rintro x W3 ⟨rfl, hr2, hb2⟩
  rw [List.drop_drop] at hr2
  go_wp2_with fail
  refine (number32_gives W3 _ _ _ _ hr2 (by have := HL.out; simp; omega)).mono ?_
  rintro x W4 ⟨rfl, hr3, hb3⟩
  rw [List.drop_drop] at hr3
  have hz := rfix_take4 (l.drop (8 + 8))
  have hzw : IntKind.i64.wrap (rfix ((l.drop (8 + 8)).take 4) : Int) = (rfix ((l.drop (8 + 8)).take 4) : Int) := wrap_i64_fr _ (by omega) (by omega)
  go_wp2_with fail
  refine (number32_gives W4 _ _ _ _ hr3 (by have := HL.out; simp; omega)).mono ?_
  rintro x W5 ⟨rfl, hr4, hb4⟩
  have hcc := rfix_take4 (l.drop (8 + 8 + 4))
  have hcw : IntKind.i64.wrap (rfix ((l.drop (8 + 8 + 4)).take 4) : Int) = (rfix ((l.drop (8 + 8 + 4)).take 4) : Int) := wrap_i64_fr _ (by omega) (by omega)
  go_wp2_with fail
  have hB25 : Below (w.heap.size + 1) W1 W5 := ((hb1.trans hb2).trans hb3).trans hb4
  have hB05 : Below w.heap.size w W5 := hB0.trans (hB25.mono (by omega))
  have hz0 := hb0.below hB25 (by omega)
  have hin5 := h.below hB05
  have s05 := hB05.size
  have eS : rfix (l.take 8) = hdS l := rfl
  have eE : rfix ((l.drop 8).take 8) = hdE l := rfl
  have eZ : rfix ((l.drop 16).take 4) = hdZ l := rfl
  have eC : rfix ((l.drop 20).take 4) = hdC l := rfl
  have hzb : hdZ l < 4294967296 := rfix_take4 _
  have hcb : hdC l < 4294967296 := rfix_take4 _
  have hiff : isHead l = (headOk (hdZ l) (hdC l) && (headW (hdS l) (hdE l) (hdZ l) (hdC l) == l)) := by
    rw [Bool.eq_iff_iff, isHead_iff, Bool.and_eq_true, headOk_iff, beq_iff_eq]
    constructor
    · rintro ⟨_, a1, a2, a3⟩
      exact ⟨by omega, a3⟩
    · rintro ⟨a1, a2⟩
      exact ⟨HL.out, by omega, by omega, a2⟩
  rw [eS, eE, eZ, eC]
  have hdv : decHV l = if isHead l then .tuple #[.agg #[.int .u64 (hdS l : Int), .int .u64 (hdE l : Int), .int .i64 (hdZ l : Int), .int .i64 (hdC l : Int)], .int .i64 0] else .tuple #[.agg #[.int .u64 0, .int .u64 0, .int .i64 0, .int .i64 0], .int .i64 150] := rfl
  clear eS eE eZ eC hz hcc hzw hcw hr0 hr1 hr2 hr3 hr4 hb1 hb2 hb3 hb4 hB25 hB0 hb0
  generalize hdS l = s at *
  generalize hdE l = e at *
  generalize hdZ l = z at *
  generalize hdC l = cc at *
  have HI := Lib.hid hiff
  have HD := Lib.hid hdv
  clear hiff hdv
  have hB06 : Below w.heap.size w (W5.alloc (.cells #[.int .u64 (s : Int), .int .u64 (e : Int), .int .i64 (z : Int), .int .i64 (cc : Int)] 109)) := hB05.alloc s05 _
  have hz6 := hz0.alloc (.cells #[.int .u64 (s : Int), .int .u64 (e : Int), .int .i64 (z : Int), .int .i64 (cc : Int)] 109)
  have hk6 := BlkIs.new W5 109 #[.int .u64 (s : Int), .int .u64 (e : Int), .int .i64 (z : Int), .int .i64 (cc : Int)]
  have hin6 : InB (W5.alloc (.cells #[.int .u64 (s : Int), .int .u64 (e : Int), .int .i64 (z : Int), .int .i64 (cc : Int)] 109)) w.heap.size (some ⟨g, o, none⟩) c l := hin5.below ((Below.refl _ W5).alloc s05 _)
  generalize hW6 : W5.alloc (.cells #[.int .u64 (s : Int), .int .u64 (e : Int), .int .i64 (z : Int), .int .i64 (cc : Int)] 109) = W6 at *
  clear hW6
  have s06 := hB06.size
  have hl5 : ∀ w', Grow W6 w' → (loadVar 109 ⟨W5.heap.size, 0, none⟩).run Try.prog w' = .ok (.agg #[.int .u64 (s : Int), .int .u64 (e : Int), .int .i64 (z : Int), .int .i64 (cc : Int)]) w' := fun w' hG => run_loadW rowHead (hk6.below hG hk6.lt)
  have hlb : ∀ w', Grow W6 w' → (loadVar 236 ⟨g, o, none⟩).run Try.prog w' = .ok (.agg (l.map b8).toArray) w' := fun w' hG => by
    have hi := (hin6.more s06).below hG
    refine run_loadVar_mid (P := Try.prog) w' g o 236 (l.map b8) _ ?_ Try.underlying236 rfl (by simp only [List.length_map]; rw [HL.out]; kernel_rfl)
    intro j v hj
    have hj2 : j < l.length := by
      have := (List.getElem?_eq_some_iff.1 hj).1
      simpa using this
    obtain ⟨g', o', e1, _, hc⟩ := hi.lies (by omega)
    injection e1 with e1
    injection e1 with e1 e2
    subst e1 e2
    rw [hc j hj2]
    rw [List.getElem?_map, List.getElem?_eq_getElem hj2] at hj
    simpa [b8] using hj
  have hfit0 := fits_gives s e z cc
  generalize W5.heap.size = g5 at *
  cases hk : headOk z cc with
  | false =>
    have hfit := hfit0
    rw [hk] at hfit
    have hno : isHead l = false := by rw [HI.out, hk]; rfl
    open Reg in
    refine region_acts (by kernel_rfl) (by kernel_rfl) 36 rfl (by kernel_rfl) [24, 25, 26, 27, 28, 29, 30, 31, 32, 33] (by kernel_rfl)
      [(5, .val (.pointer (some ⟨g5, 0, none⟩))), (0, .val (.slice (some ⟨g, o, none⟩) 64 c))]
      [(24, .val (.agg #[.int .u64 (s : Int), .int .u64 (e : Int), .int .i64 (z : Int), .int .i64 (cc : Int)])), (25, .val (.bool false)), (26, .val (.bool false)), (27, .any), (28, .any), (29, .any), (30, .any), (31, .any), (32, .any), (33, .val ((Go.Value.bool false)))]
      ⟨rfl, rfl, trivial⟩ (by kernel_rfl)
      (allOk_cons (ok_none rfl (l_loadV (.tmp 5) (⟨g5, 0, none⟩) 109 (.agg #[.int .u64 (s : Int), .int .u64 (e : Int), .int .i64 (z : Int), .int .i64 (cc : Int)]) rfl (hs 5 (.pointer (some ⟨g5, 0, none⟩)) (by kernel_rfl) (by kernel_rfl)) (fun w hg => hl5 w hg) (by kernel_rfl)))
      <| allOk_cons (ok_none rfl (l_call 136 _ _ rfl (enters_of Try.func136 (by kernel_rfl) rfl) #[.agg #[.int .u64 (s : Int), .int .u64 (e : Int), .int .i64 (z : Int), .int .i64 (cc : Int)]] (.val (.bool false)) (args1 (hs 24 (.agg #[.int .u64 (s : Int), .int .u64 (e : Int), .int .i64 (z : Int), .int .i64 (cc : Int)]) (by kernel_rfl) (by kernel_rfl))) (fun w hg => gives_grow (hfit w)) (by kernel_rfl)))
      <| allOk_cons (ok_none rfl (l_mvF 25 (.val (.bool false)) (.inl rfl) (by kernel_rfl) (by kernel_rfl) (by kernel_rfl)))
      <| allOk_cons (okg_not 2 true 26 rfl (by kernel_rfl) (by kernel_rfl) (by kernel_rfl) (by kernel_rfl))
      <| allOk_cons (okg_not 2 true 26 rfl (by kernel_rfl) (by kernel_rfl) (by kernel_rfl) (by kernel_rfl))
      <| allOk_cons (okg_not 2 true 26 rfl (by kernel_rfl) (by kernel_rfl) (by kernel_rfl) (by kernel_rfl))
      <| allOk_cons (okg_not 2 true 26 rfl (by kernel_rfl) (by kernel_rfl) (by kernel_rfl) (by kernel_rfl))
      <| allOk_cons (okg_not 2 true 26 rfl (by kernel_rfl) (by kernel_rfl) (by kernel_rfl) (by kernel_rfl))
      <| allOk_cons (okg_not 2 true 26 rfl (by kernel_rfl) (by kernel_rfl) (by kernel_rfl) (by kernel_rfl))
      <| allOk_cons (ok_none rfl (l_pickF (.tmp 26) (.tmp 32) (.const (Go.Value.bool false)) ((Go.Value.bool false)) rfl (hs 26 (.bool false) (by kernel_rfl) (by kernel_rfl)) (hc _) (by kernel_rfl)))
      <| allOk_nil) ?_
    intro a W7 hsz hdef hGW7 hF hU
    have e33 : a.eval (.tmp 33) = (Go.Value.bool false) := hF 33
    have ha := Reg.acts_eq [24, 25, 26, 27, 28, 29, 30, 31, 32, 33] hsz hdef hU
    clear hF hU hdef
    simp only [List.foldl_cons, List.foldl_nil, e33] at ha
    clear e33 hsz
    generalize a.eval (.tmp 24) = v24 at *
    generalize a.eval (.tmp 25) = v25 at *
    generalize a.eval (.tmp 26) = v26 at *
    generalize a.eval (.tmp 27) = v27 at *
    generalize a.eval (.tmp 28) = v28 at *
    generalize a.eval (.tmp 29) = v29 at *
    generalize a.eval (.tmp 30) = v30 at *
    generalize a.eval (.tmp 31) = v31 at *
    generalize a.eval (.tmp 32) = v32 at *
    simp only [Act.put, List.setIfInBounds_toArray, List.set_cons_succ, List.set_cons_zero] at ha
    subst ha
    simp only [Exit.then]
    refine ‹∀ (a : Act) (w : World), Code.wp Try.prog _ _ a w → _› _ W7 ?_
    have hz7 := hz6.below hGW7 hz6.lt
    have hB07 : Below w.heap.size w W7 := hB06.trans (hGW7.mono s06)
    go_wp2_with (refine wp_storeW rfl 109 (.tmp 2) (.tmp 35) rfl w.heap.size rfl rfl rowHead hz7 (by rfl) (by rfl) zeroHead_one ?_)
    refine bodyPost_ret_by (results_cellW_tmp 2 3 rfl rfl rfl rowHead (hz7.setRow _) (by rfl)) rfl ⟨?_, below_setRow hB07 (Nat.le_refl _) _⟩
    rw [HD.out, hno]
    rfl
  | true =>
    obtain ⟨⟨_, hz1⟩, _, hc1⟩ := (headOk_iff _ _).1 hk
    have hfit := hfit0
    rw [hk] at hfit
    have hyes : isHead l = (headW s e z cc == l) := by rw [HI.out, hk]; rfl
    have hhead := head_gives s e z cc (by omega) (by omega)
    have hW64 := headW_length s e z cc
    have hl64 := HL.out
    generalize headW s e z cc = HW at *
    have HY := Lib.hid hyes
    clear hyes hk
    open Reg in
    refine region_acts (by kernel_rfl) (by kernel_rfl) 36 rfl (by kernel_rfl) [24, 25, 26, 27, 28, 29, 30, 31, 32, 33] (by kernel_rfl)
      [(5, .val (.pointer (some ⟨g5, 0, none⟩))), (0, .val (.slice (some ⟨g, o, none⟩) 64 c))]
      [(24, .val (.agg #[.int .u64 (s : Int), .int .u64 (e : Int), .int .i64 (z : Int), .int .i64 (cc : Int)])), (25, .val (.bool true)), (26, .val (.bool true)), (27, .val (.agg #[.int .u64 (s : Int), .int .u64 (e : Int), .int .i64 (z : Int), .int .i64 (cc : Int)])), (28, .val (.agg (HW.map b8).toArray)), (29, .val (.slice (some ⟨g, o, none⟩) 64 c)), (30, .val (.pointer (some ⟨g, o, none⟩))), (31, .val (.agg (l.map b8).toArray)), (32, .val (.bool (HW == l))), (33, .val (.bool (HW == l)))]
      ⟨rfl, rfl, trivial⟩ (by kernel_rfl)
      (allOk_cons (ok_none rfl (l_loadV (.tmp 5) (⟨g5, 0, none⟩) 109 (.agg #[.int .u64 (s : Int), .int .u64 (e : Int), .int .i64 (z : Int), .int .i64 (cc : Int)]) rfl (hs 5 (.pointer (some ⟨g5, 0, none⟩)) (by kernel_rfl) (by kernel_rfl)) (fun w hg => hl5 w hg) (by kernel_rfl)))
      <| allOk_cons (ok_none rfl (l_call 136 _ _ rfl (enters_of Try.func136 (by kernel_rfl) rfl) #[.agg #[.int .u64 (s : Int), .int .u64 (e : Int), .int .i64 (z : Int), .int .i64 (cc : Int)]] (.val (.bool true)) (args1 (hs 24 (.agg #[.int .u64 (s : Int), .int .u64 (e : Int), .int .i64 (z : Int), .int .i64 (cc : Int)]) (by kernel_rfl) (by kernel_rfl))) (fun w hg => gives_grow (hfit w)) (by kernel_rfl)))
      <| allOk_cons (ok_none rfl (l_mvF 25 (.val (.bool true)) (.inl rfl) (by kernel_rfl) (by kernel_rfl) (by kernel_rfl)))
      <| allOk_cons (okg 2 true 26 rfl (by kernel_rfl) (by kernel_rfl) (by kernel_rfl) (l_loadV (.tmp 5) (⟨g5, 0, none⟩) 109 (.agg #[.int .u64 (s : Int), .int .u64 (e : Int), .int .i64 (z : Int), .int .i64 (cc : Int)]) rfl (hs 5 (.pointer (some ⟨g5, 0, none⟩)) (by kernel_rfl) (by kernel_rfl)) (fun w hg => hl5 w hg) (by kernel_rfl)))
      <| allOk_cons (okg 2 true 26 rfl (by kernel_rfl) (by kernel_rfl) (by kernel_rfl) (l_call 137 _ _ rfl (enters_of Try.func137 (by kernel_rfl) rfl) #[.agg #[.int .u64 (s : Int), .int .u64 (e : Int), .int .i64 (z : Int), .int .i64 (cc : Int)]] (.val (.agg (HW.map b8).toArray)) (args1 (hs 27 (.agg #[.int .u64 (s : Int), .int .u64 (e : Int), .int .i64 (z : Int), .int .i64 (cc : Int)]) (by kernel_rfl) (by kernel_rfl))) (fun w hg => gives_grow (hhead w)) (by kernel_rfl)))
      <| allOk_cons (okg 2 true 26 rfl (by kernel_rfl) (by kernel_rfl) (by kernel_rfl) (l_mvF 0 (.val (.slice (some ⟨g, o, none⟩) 64 c)) (.inl rfl) (by kernel_rfl) (by kernel_rfl) (by kernel_rfl)))
      <| allOk_cons (okg 2 true 26 rfl (by kernel_rfl) (by kernel_rfl) (by kernel_rfl) (l_s2a (.tmp 29) g o 64 c (by decide) rfl (hs 29 _ (by kernel_rfl) (by kernel_rfl)) (by kernel_rfl)))
      <| allOk_cons (okg 2 true 26 rfl (by kernel_rfl) (by kernel_rfl) (by kernel_rfl) (l_loadV (.tmp 30) (⟨g, o, none⟩) 236 (.agg (l.map b8).toArray) rfl (hs 30 (.pointer (some ⟨g, o, none⟩)) (by kernel_rfl) (by kernel_rfl)) (fun w hg => hlb w hg) (by kernel_rfl)))
      <| allOk_cons (okg 2 true 26 rfl (by kernel_rfl) (by kernel_rfl) (by kernel_rfl) (l_eqArr (.tmp 28) (.tmp 31) _ HW l hW64 hl64 rfl (hs 28 _ (by kernel_rfl) (by kernel_rfl)) (hs 31 _ (by kernel_rfl) (by kernel_rfl)) (by kernel_rfl)))
      <| allOk_cons (ok_none rfl (l_pickT (.tmp 26) (.tmp 32) (.const (Go.Value.bool false)) (.bool (HW == l)) rfl (hs 26 (.bool true) (by kernel_rfl) (by kernel_rfl)) (hs 32 (.bool (HW == l)) (by kernel_rfl) (by kernel_rfl)) (by kernel_rfl)))
      <| allOk_nil) ?_
    intro a W7 hsz hdef hGW7 hF hU
    have e33 : a.eval (.tmp 33) = .bool (HW == l) := hF 33
    have ha := Reg.acts_eq [24, 25, 26, 27, 28, 29, 30, 31, 32, 33] hsz hdef hU
    clear hF hU hdef
    simp only [List.foldl_cons, List.foldl_nil, e33] at ha
    clear e33 hsz
    generalize a.eval (.tmp 24) = v24 at *
    generalize a.eval (.tmp 25) = v25 at *
    generalize a.eval (.tmp 26) = v26 at *
    generalize a.eval (.tmp 27) = v27 at *
    generalize a.eval (.tmp 28) = v28 at *
    generalize a.eval (.tmp 29) = v29 at *
    generalize a.eval (.tmp 30) = v30 at *
    generalize a.eval (.tmp 31) = v31 at *
    generalize a.eval (.tmp 32) = v32 at *
    simp only [Act.put, List.setIfInBounds_toArray, List.set_cons_succ, List.set_cons_zero] at ha
    subst ha
    simp only [Exit.then]
    refine ‹∀ (a : Act) (w : World), Code.wp Try.prog _ _ a w → _› _ W7 ?_
    have hz7 := hz6.below hGW7 hz6.lt
    have hk7 := hk6.below hGW7 hk6.lt
    have hB07 : Below w.heap.size w W7 := hB06.trans (hGW7.mono s06)
    clear hl64 hW64
    cases hq : (HW == l) with
    | false =>
      go_wp2_with (refine wp_storeW rfl 109 (.tmp 2) (.tmp 35) rfl w.heap.size rfl rfl rowHead hz7 (by rfl) (by rfl) zeroHead_one ?_)
      refine bodyPost_ret_by (results_cellW_tmp 2 3 rfl rfl rfl rowHead (hz7.setRow _) (by rfl)) rfl ⟨?_, below_setRow hB07 (Nat.le_refl _) _⟩
      rw [HD.out, HY.out, hq]
      rfl
    | true =>
      go_wp2_with (first
        | (refine wp_loadW rfl 109 (.tmp 5) rfl g5 rfl rowHead hk7 (by rfl) ?_)
        | (refine wp_storeW rfl 109 (.tmp 2) (.tmp 34) rfl w.heap.size rfl rfl rowHead hz7 (by rfl) (by rfl) (head_one _ _ _ _) ?_))
      refine bodyPost_ret_by (results_cellW_tmp 2 3 rfl rfl rfl rowHead (hz7.setRow _) (by rfl)) rfl ⟨?_, below_setRow hB07 (Nat.le_refl _) _⟩
      rw [HD.out, HY.out, hq]
      rfl
theorem decodeHead_gives (w : World) (A : Option Addr) (c : Nat) (l : List UInt8) (h : InB w w.heap.size A c l) :
    Calls Try.prog 72 #[.slice A l.length c] w fun x w' => x = .returned (decHV l) ∧ Below w.heap.size w w' := by
  by_cases hl : l.length = 64
  · rw [hl]
    exact decodeHead_64 w A c l h hl
  · exact decodeHead_len w A c l h hl
end Go.Proofs.Ytlelckdcmlpmdaa
/- loupelaw03.OctetHolds: the walk. -/
namespace Go.Proofs.Ytlelckdcmlpmdaa
open Go Go.RowKit Lou

theorem wrap_i64_id (n : Int) (h0 : -9223372036854775808 ≤ n) (h1 : n < 9223372036854775808) : IntKind.i64.wrap n = n := by
  simp [IntKind.wrap, IntKind.bits, IntKind.signed]
  split <;> omega
theorem OwnB.inB' {w : World} {base g n cap : Nat} {l : List UInt8} (h : OwnB w base (.slice (some ⟨g, 0, none⟩) n cap) l) : InB w w.heap.size (some ⟨g, 0, none⟩) cap l := by
  obtain ⟨A, c, e, hin⟩ := h.inB
  injection e with e1 e2 e3
  subst e1 e2 e3
  exact hin
theorem str_toList (l : List UInt8) : (str l).toList = l := by
  have : (str l).toList = (str l).data.toList := by rw [ByteArray.toList_eq]
  rw [this, str_data]

theorem xor_bit (b : UInt8) (r : Nat) (hr : r < 8) : ∃ y : Nat, bits .xor .u8 (b.toNat : Int) (2 ^ r % 256) = (y : Int) ∧ y < 256 ∧ b ≠ UInt8.ofNat y := by
  have hb : b.toNat < 256 := UInt8.toNat_lt b
  have key : ∀ r : Nat, r < 8 → ∀ n : Nat, n < 256 → bits .xor .u8 (n : Int) (2 ^ r % 256) = ((n ^^^ 2 ^ r : Nat) : Int) ∧ n ^^^ 2 ^ r < 256 ∧ n ≠ n ^^^ 2 ^ r := by decide +kernel
  obtain ⟨h1, h2, h3⟩ := key r hr b.toNat hb
  refine ⟨_, h1, h2, fun e => h3 ?_⟩
  have := congrArg UInt8.toNat e
  rw [UInt8.toNat_ofNat'] at this
  omega

set_option maxRecDepth 100000 in
set_option maxHeartbeats 4000000 in
theorem lawHolds_out (x0 x1 : Int) (w : World) (A : Option Addr) (c : Nat) (l : List UInt8) (k : Int) (h : InB w w.heap.size A c l)
    (hl : 300 < l.length ∨ (l.length ≤ 300 ∧ k < 0) ∨ (l.length ≤ 300 ∧ 0 ≤ k ∧ 8 * (l.length : Int) ≤ k)) :
    Calls Try.prog 4 #[.agg #[.int .u64 x0, .int .u64 x1], .slice A l.length c, .int .i64 k] w fun e w' => e = .returned (.bool true) ∧ Below w.heap.size w w' := by
  have hle := h.le
  have hmax := h.max
  have hb1 : ∀ o, Below w.heap.size w (w.alloc o) := fun o => (Below.refl _ _).alloc (Nat.le_refl _) _
  rcases hl with hl | ⟨hl, hl2⟩ | ⟨hl, hl2, hl3⟩
  · go_enter Try.func4, Try.ntmps4
    go_wp2_with (go_at_call 27; refine (works3_gives _).mono ?_; rintro e w' ⟨rfl, hB⟩)
    go_ret
    exact ⟨rfl, (hb1 _).trans (hB.mono (hb1 _).size)⟩
  · go_enter Try.func4, Try.ntmps4
    go_wp2_with (go_at_call 27; refine (works3_gives _).mono ?_; rintro e w' ⟨rfl, hB⟩)
    go_ret
    exact ⟨rfl, (hb1 _).trans (hB.mono (hb1 _).size)⟩
  · have h8 : IntKind.i64.wrap (8 * (l.length : Int)) = 8 * (l.length : Int) := wrap_i64_id _ (by omega) (by omega)
    go_enter Try.func4, Try.ntmps4
    go_wp2_with (go_at_call 27; refine (works3_gives _).mono ?_; rintro e w' ⟨rfl, hB⟩)
    go_ret
    exact ⟨rfl, (hb1 _).trans (hB.mono (hb1 _).size)⟩

set_option maxRecDepth 100000 in
set_option maxHeartbeats 4000000 in
theorem lawHolds_walk (x0 x1 : Nat) (hn0 : x0 < 2 ^ 64) (hn1 : x1 < 2 ^ 64) (w : World) (A : Option Addr) (c : Nat) (l : List UInt8) (m : Nat) (h : InB w w.heap.size A c l) (hl : l.length ≤ 300) (hm : m < 8 * l.length) :
    Calls Try.prog 4 #[.agg #[.int .u64 x0, .int .u64 x1], .slice A l.length c, .int .i64 m] w fun e w' => e = .returned (.bool true) ∧ Below w.heap.size w w' := by
  have hle := h.le
  have hmax := h.max
  have hx0 := Lib.hid hn0
  have hx1 := Lib.hid hn1
  clear hn0 hn1
  have h8 : IntKind.i64.wrap (8 * (l.length : Int)) = 8 * (l.length : Int) := wrap_i64_id _ (by omega) (by omega)
  have hlt : ¬ 8 * (l.length : Int) ≤ (m : Int) := by omega
  have hb1 : Below w.heap.size w (w.alloc (.cells #[.int .u64 x0, .int .u64 x1] 42)) := (Below.refl _ _).alloc (Nat.le_refl _) _
  have hbk := BlkIs.new w 42 #[.int .u64 x0, .int .u64 x1]
  have hc0 : ∀ w', Grow (w.alloc (.cells #[.int .u64 x0, .int .u64 x1] 42)) w' → w'.cell? ⟨w.heap.size, 0, none⟩ = some (.int .u64 x0) := fun w' hg => (hg.cell (p := ⟨w.heap.size, 0, none⟩) (by simp)).trans (by rw [hbk.cell]; rfl)
  have hc1 : ∀ w', Grow (w.alloc (.cells #[.int .u64 x0, .int .u64 x1] 42)) w' → w'.cell? ⟨w.heap.size, 1, none⟩ = some (.int .u64 x1) := fun w' hg => (hg.cell (p := ⟨w.heap.size, 1, none⟩) (by simp)).trans (by rw [hbk.cell]; rfl)
  go_enter Try.func4, Try.ntmps4
  go_wp2_with fail
  open Reg in
  refine region_acts (by kernel_rfl) (by kernel_rfl) 83 rfl (by kernel_rfl) [26, 27, 28, 29, 30, 31, 7, 8] (by kernel_rfl)
    [(3, .val (.pointer (some ⟨w.heap.size, 0, none⟩)))]
    [(26, .val (.pointer (some ⟨w.heap.size, 0, none⟩))), (27, .val (.int .u64 (x0 : Int))), (28, .res (num x0)), (29, .val (.pointer (some ⟨w.heap.size, 1, none⟩))), (30, .val (.int .u64 (x1 : Int))), (31, .res (num x1)), (7, .res (num x0)), (8, .res (num x1))]
    ⟨rfl, trivial⟩ (by kernel_rfl)
    (allOk_cons (ok_none rfl (l_idx (.tmp 3) (.const (Go.Value.int Go.IntKind.i64 0)) ⟨w.heap.size, 0, none⟩ _ _ 2 0 Try.underlying42 (by decide) (by intro w; simp [go_sem]) rfl (hs 3 (.pointer (some ⟨w.heap.size, 0, none⟩)) (by kernel_rfl) (by kernel_rfl)) (hc _) (by kernel_rfl)))
    <| allOk_cons (ok_none rfl (l_load (.tmp 26) (⟨w.heap.size, 0, none⟩) _ (.int .u64 (x0 : Int)) (by intro w; simp [go_sem, Try.underlying41]) rfl (hs 26 (.pointer (some ⟨w.heap.size, 0, none⟩)) (by kernel_rfl) (by kernel_rfl)) (fun w hg => hc0 w hg) (by kernel_rfl)))
    <| allOk_cons (ok_none rfl (l_call 28 _ _ rfl (enters_of Try.func28 (by kernel_rfl) rfl) #[.int .u64 (x0 : Int)] (.res (num x0)) (args1 (hs 27 (.int .u64 (x0 : Int)) (by kernel_rfl) (by kernel_rfl))) (fun w hg => Reg.gives_res (number_gives x0 hx0.out w)) (by kernel_rfl)))
    <| allOk_cons (ok_none rfl (l_idx (.tmp 3) (.const (Go.Value.int Go.IntKind.i64 1)) ⟨w.heap.size, 0, none⟩ _ _ 2 1 Try.underlying42 (by decide) (by intro w; simp [go_sem]) rfl (hs 3 (.pointer (some ⟨w.heap.size, 0, none⟩)) (by kernel_rfl) (by kernel_rfl)) (hc _) (by kernel_rfl)))
    <| allOk_cons (ok_none rfl (l_load (.tmp 29) (⟨w.heap.size, 1, none⟩) _ (.int .u64 (x1 : Int)) (by intro w; simp [go_sem, Try.underlying41]) rfl (hs 29 (.pointer (some ⟨w.heap.size, 1, none⟩)) (by kernel_rfl) (by kernel_rfl)) (fun w hg => hc1 w hg) (by kernel_rfl)))
    <| allOk_cons (ok_none rfl (l_call 28 _ _ rfl (enters_of Try.func28 (by kernel_rfl) rfl) #[.int .u64 (x1 : Int)] (.res (num x1)) (args1 (hs 30 (.int .u64 (x1 : Int)) (by kernel_rfl) (by kernel_rfl))) (fun w hg => Reg.gives_res (number_gives x1 hx1.out w)) (by kernel_rfl)))
    <| allOk_cons (ok_none rfl (l_mvF 28 (.res (num x0)) (.inr rfl) (by kernel_rfl) (by kernel_rfl) (by kernel_rfl)))
    <| allOk_cons (ok_none rfl (l_mvF 31 (.res (num x1)) (.inr rfl) (by kernel_rfl) (by kernel_rfl) (by kernel_rfl)))
    <| allOk_nil) ?_
  intro a w3 hsz hdef hG hF hU
  obtain ⟨Aa, ca, ea, hina⟩ := hF 7
  obtain ⟨Ab, cb, eb, hinb⟩ := hF 8
  have ha := Reg.acts_eq [26, 27, 28, 29, 30, 31, 7, 8] hsz hdef hU
  clear hF hU hdef
  rw [List.foldl_cons, List.foldl_cons, List.foldl_cons, List.foldl_cons, List.foldl_cons, List.foldl_cons, List.foldl_cons, List.foldl_cons, List.foldl_nil, ea, eb] at ha
  simp only [Exit.then]
  refine ‹∀ (a : Act) (w : World), Code.wp Try.prog _ _ a w → _› a w3 ?_
  clear ea eb hsz
  generalize a.eval (.tmp 26) = v26 at ha
  generalize a.eval (.tmp 27) = v27 at ha
  generalize a.eval (.tmp 28) = v28 at ha
  generalize a.eval (.tmp 29) = v29 at ha
  generalize a.eval (.tmp 30) = v30 at ha
  generalize a.eval (.tmp 31) = v31 at ha
  simp only [Act.put, List.setIfInBounds_toArray, List.set_cons_succ, List.set_cons_zero] at ha
  subst ha
  go_wp2_with fail
  refine Reg.by_stop [32, 33, 34, 35, 36, 37, 38, 39, 40, 41, 42, 43, 44, 45, 46, 9] (fun a w => a.eval (.tmp 9) = .bool ((x0 : Int) == (x1 : Int))) ?_ ?_
  · intro Q' hQ
    by_cases hab : (num x0).length ≤ (num x1).length
    · have hq : ((str ((num x1).take (num x0).length)).toList == (str (num x0)).toList) = ((x0 : Int) == (x1 : Int)) := by
        rw [str_toList, str_toList]
        have h1 := num_prefix x0 x1 hx0.out hx1.out
        have h2 : (num x1).take (num x0).length = num x0 ↔ num x0 <+: num x1 := by rw [List.prefix_iff_eq_take]; exact eq_comm
        rw [Bool.eq_iff_iff, beq_iff_eq, beq_iff_eq, h2, h1]
        omega
      open Reg in
      refine region_acts (by kernel_rfl) (by kernel_rfl) 83 rfl (by kernel_rfl) [32, 33, 34, 35, 36, 37, 38, 39, 40, 41, 42, 43, 44, 45, 46, 9] (by kernel_rfl)
        [(7, .val (.slice Aa (num x0).length ca)), (8, .val (.slice Ab (num x1).length cb))]
        [(32, .val (.slice Aa (num x0).length ca)), (33, .val (.int .i64 ((num x0).length : Int))), (34, .val (.slice Ab (num x1).length cb)), (35, .val (.int .i64 ((num x1).length : Int))), (36, .val (.bool true)), (37, .val (.bool true)), (38, .val (.slice Ab (num x1).length cb)), (39, .val (.slice Aa (num x0).length ca)), (40, .val (.int .i64 ((num x0).length : Int))), (41, .val (.slice Ab ((num x1).take (num x0).length).length cb)), (42, .val (.string (str ((num x1).take (num x0).length)))), (43, .val (.slice Aa (num x0).length ca)), (44, .val (.string (str (num x0)))), (45, .val (.bool ((str ((num x1).take (num x0).length)).toList == (str (num x0)).toList))), (46, .val (.bool ((str ((num x1).take (num x0).length)).toList == (str (num x0)).toList))), (9, .val (.bool ((str ((num x1).take (num x0).length)).toList == (str (num x0)).toList)))]
        ⟨rfl, rfl, trivial⟩ (by kernel_rfl)
        (allOk_cons (ok_none rfl (l_mvF 7 (.val (.slice Aa (num x0).length ca)) (.inl rfl) (by kernel_rfl) (by kernel_rfl) (by kernel_rfl)))
        <| allOk_cons (ok_none rfl (l_len 32 _ _ _ _ (by kernel_rfl) rfl ((hs 32 (.slice Aa (num x0).length ca) (by kernel_rfl) (by kernel_rfl))) (by kernel_rfl)))
        <| allOk_cons (ok_none rfl (l_mvF 8 (.val (.slice Ab (num x1).length cb)) (.inl rfl) (by kernel_rfl) (by kernel_rfl) (by kernel_rfl)))
        <| allOk_cons (ok_none rfl (l_len 34 _ _ _ _ (by kernel_rfl) rfl ((hs 34 (.slice Ab (num x1).length cb) (by kernel_rfl) (by kernel_rfl))) (by kernel_rfl)))
        <| allOk_cons (ok_none rfl (l_leq (.tmp 33) (.tmp 35) _ _ .i64 ((num x0).length : Int) ((num x1).length : Int) rfl (hs 33 _ (by kernel_rfl) (by kernel_rfl)) (hs 35 _ (by kernel_rfl) (by kernel_rfl)) true (by simp; omega) (by kernel_rfl)))
        <| allOk_cons (ok_none rfl (l_mvF 36 (.val (.bool true)) (.inl rfl) (by kernel_rfl) (by kernel_rfl) (by kernel_rfl)))
        <| allOk_cons (okg 5 true 37 rfl (by kernel_rfl) (by kernel_rfl) (by kernel_rfl) (l_mvF 8 (.val (.slice Ab (num x1).length cb)) (.inl rfl) (by kernel_rfl) (by kernel_rfl) (by kernel_rfl)))
        <| allOk_cons (okg 5 true 37 rfl (by kernel_rfl) (by kernel_rfl) (by kernel_rfl) (l_mvF 7 (.val (.slice Aa (num x0).length ca)) (.inl rfl) (by kernel_rfl) (by kernel_rfl) (by kernel_rfl)))
        <| allOk_cons (okg 5 true 37 rfl (by kernel_rfl) (by kernel_rfl) (by kernel_rfl) (l_len 39 _ _ _ _ (by kernel_rfl) rfl ((hs 39 (.slice Aa (num x0).length ca) (by kernel_rfl) (by kernel_rfl))) (by kernel_rfl)))
        <| allOk_cons (okg 5 true 37 rfl (by kernel_rfl) (by kernel_rfl) (by kernel_rfl) (l_run2W (.tmp 38) (.tmp 40) (.val (.slice Ab ((num x1).take (num x0).length).length cb)) (.slice Ab (num x1).length cb) (.int .i64 ((num x0).length : Int)) (hs 38 _ (by kernel_rfl) (by kernel_rfl)) (hs 40 _ (by kernel_rfl) (by kernel_rfl)) (fun ρ w hg h1 h2 => ⟨_, w, cut_take rfl h1 h2 hab hinb.le, Grow.refl _, rfl⟩) (by kernel_rfl)))
        <| allOk_cons (okg 5 true 37 rfl (by kernel_rfl) (by kernel_rfl) (by kernel_rfl) (l_convS (.tmp 41) _ _ (.slice Ab ((num x1).take (num x0).length).length cb) (.string (str ((num x1).take (num x0).length))) rfl (hs 41 (.slice Ab ((num x1).take (num x0).length).length cb) (by kernel_rfl) (by kernel_rfl)) (fun w hg => ((hinb.below hg).take _ cb hab (Nat.le_trans hab hinb.le) (Nat.le_refl _)).string) (by kernel_rfl)))
        <| allOk_cons (okg 5 true 37 rfl (by kernel_rfl) (by kernel_rfl) (by kernel_rfl) (l_mvF 7 (.val (.slice Aa (num x0).length ca)) (.inl rfl) (by kernel_rfl) (by kernel_rfl) (by kernel_rfl)))
        <| allOk_cons (okg 5 true 37 rfl (by kernel_rfl) (by kernel_rfl) (by kernel_rfl) (l_convS (.tmp 43) _ _ (.slice Aa (num x0).length ca) (.string (str (num x0))) rfl (hs 43 (.slice Aa (num x0).length ca) (by kernel_rfl) (by kernel_rfl)) (fun w hg => (hina.below hg).string) (by kernel_rfl)))
        <| allOk_cons (okg 5 true 37 rfl (by kernel_rfl) (by kernel_rfl) (by kernel_rfl) (l_eqsG (.tmp 42) (.tmp 44) _ _ (str ((num x1).take (num x0).length)) (str (num x0)) rfl (hs 42 _ (by kernel_rfl) (by kernel_rfl)) (hs 44 _ (by kernel_rfl) (by kernel_rfl)) (by kernel_rfl)))
        <| allOk_cons (ok_none rfl (l_pickT (.tmp 37) (.tmp 45) (.const (Go.Value.bool false)) (.bool ((str ((num x1).take (num x0).length)).toList == (str (num x0)).toList)) rfl (hs 37 (.bool true) (by kernel_rfl) (by kernel_rfl)) (hs 45 (.bool ((str ((num x1).take (num x0).length)).toList == (str (num x0)).toList)) (by kernel_rfl) (by kernel_rfl)) (by kernel_rfl)))
        <| allOk_cons (ok_none rfl (l_mvF 46 (.val (.bool ((str ((num x1).take (num x0).length)).toList == (str (num x0)).toList))) (.inr rfl) (by kernel_rfl) (by kernel_rfl) (by kernel_rfl)))
        <| allOk_nil) ?_
      intro a w4 hsz hdef hG hF hU
      refine hQ a w4 ⟨hsz, hdef, hG, ?_, hU⟩
      rw [← hq]
      exact hF 9
    · have hq : ((x0 : Int) == (x1 : Int)) = false := by
        by_cases e : x0 = x1
        · subst e; omega
        · simp; omega
      open Reg in
      refine region_acts (by kernel_rfl) (by kernel_rfl) 83 rfl (by kernel_rfl) [32, 33, 34, 35, 36, 37, 38, 39, 40, 41, 42, 43, 44, 45, 46, 9] (by kernel_rfl)
        [(7, .val (.slice Aa (num x0).length ca)), (8, .val (.slice Ab (num x1).length cb))]
        [(32, .val (.slice Aa (num x0).length ca)), (33, .val (.int .i64 ((num x0).length : Int))), (34, .val (.slice Ab (num x1).length cb)), (35, .val (.int .i64 ((num x1).length : Int))), (36, .val (.bool false)), (37, .val (.bool false)), (38, .any), (39, .any), (40, .any), (41, .any), (42, .any), (43, .any), (44, .any), (45, .any), (46, .val ((Go.Value.bool false))), (9, .val ((Go.Value.bool false)))]
        ⟨rfl, rfl, trivial⟩ (by kernel_rfl)
        (allOk_cons (ok_none rfl (l_mvF 7 (.val (.slice Aa (num x0).length ca)) (.inl rfl) (by kernel_rfl) (by kernel_rfl) (by kernel_rfl)))
        <| allOk_cons (ok_none rfl (l_len 32 _ _ _ _ (by kernel_rfl) rfl ((hs 32 (.slice Aa (num x0).length ca) (by kernel_rfl) (by kernel_rfl))) (by kernel_rfl)))
        <| allOk_cons (ok_none rfl (l_mvF 8 (.val (.slice Ab (num x1).length cb)) (.inl rfl) (by kernel_rfl) (by kernel_rfl) (by kernel_rfl)))
        <| allOk_cons (ok_none rfl (l_len 34 _ _ _ _ (by kernel_rfl) rfl ((hs 34 (.slice Ab (num x1).length cb) (by kernel_rfl) (by kernel_rfl))) (by kernel_rfl)))
        <| allOk_cons (ok_none rfl (l_leq (.tmp 33) (.tmp 35) _ _ .i64 ((num x0).length : Int) ((num x1).length : Int) rfl (hs 33 _ (by kernel_rfl) (by kernel_rfl)) (hs 35 _ (by kernel_rfl) (by kernel_rfl)) false (by simp; omega) (by kernel_rfl)))
        <| allOk_cons (ok_none rfl (l_mvF 36 (.val (.bool false)) (.inl rfl) (by kernel_rfl) (by kernel_rfl) (by kernel_rfl)))
        <| allOk_cons (okg_not 5 true 37 rfl (by kernel_rfl) (by kernel_rfl) (by kernel_rfl) (by kernel_rfl))
        <| allOk_cons (okg_not 5 true 37 rfl (by kernel_rfl) (by kernel_rfl) (by kernel_rfl) (by kernel_rfl))
        <| allOk_cons (okg_not 5 true 37 rfl (by kernel_rfl) (by kernel_rfl) (by kernel_rfl) (by kernel_rfl))
        <| allOk_cons (okg_not 5 true 37 rfl (by kernel_rfl) (by kernel_rfl) (by kernel_rfl) (by kernel_rfl))
        <| allOk_cons (okg_not 5 true 37 rfl (by kernel_rfl) (by kernel_rfl) (by kernel_rfl) (by kernel_rfl))
        <| allOk_cons (okg_not 5 true 37 rfl (by kernel_rfl) (by kernel_rfl) (by kernel_rfl) (by kernel_rfl))
        <| allOk_cons (okg_not 5 true 37 rfl (by kernel_rfl) (by kernel_rfl) (by kernel_rfl) (by kernel_rfl))
        <| allOk_cons (okg_not 5 true 37 rfl (by kernel_rfl) (by kernel_rfl) (by kernel_rfl) (by kernel_rfl))
        <| allOk_cons (ok_none rfl (l_pickF (.tmp 37) (.tmp 45) (.const (Go.Value.bool false)) ((Go.Value.bool false)) rfl (hs 37 (.bool false) (by kernel_rfl) (by kernel_rfl)) (hc _) (by kernel_rfl)))
        <| allOk_cons (ok_none rfl (l_mvF 46 (.val ((Go.Value.bool false))) (.inr rfl) (by kernel_rfl) (by kernel_rfl) (by kernel_rfl)))
        <| allOk_nil) ?_
      intro a w4 hsz hdef hG hF hU
      refine hQ a w4 ⟨hsz, hdef, hG, ?_, hU⟩
      rw [hq]
      exact hF 9
  rintro a w4 ⟨hsz, hdef, hG4, hr9, hU⟩
  have ha := Reg.acts_eq [32, 33, 34, 35, 36, 37, 38, 39, 40, 41, 42, 43, 44, 45, 46, 9] hsz hdef hU
  clear hU hdef
  simp only [List.foldl_cons, List.foldl_nil, hr9] at ha
  simp only [Exit.then]
  refine ‹∀ (a : Act) (w : World), Code.wp Try.prog _ _ a w → _› a w4 ?_
  clear hr9 hsz
  generalize a.eval (.tmp 32) = v32 at ha
  generalize a.eval (.tmp 33) = v33 at ha
  generalize a.eval (.tmp 34) = v34 at ha
  generalize a.eval (.tmp 35) = v35 at ha
  generalize a.eval (.tmp 36) = v36 at ha
  generalize a.eval (.tmp 37) = v37 at ha
  generalize a.eval (.tmp 38) = v38 at ha
  generalize a.eval (.tmp 39) = v39 at ha
  generalize a.eval (.tmp 40) = v40 at ha
  generalize a.eval (.tmp 41) = v41 at ha
  generalize a.eval (.tmp 42) = v42 at ha
  generalize a.eval (.tmp 43) = v43 at ha
  generalize a.eval (.tmp 44) = v44 at ha
  generalize a.eval (.tmp 45) = v45 at ha
  generalize a.eval (.tmp 46) = v46 at ha
  simp only [Act.put, List.setIfInBounds_toArray, List.set_cons_succ, List.set_cons_zero] at ha
  subst ha
  obtain ⟨q, hqm⟩ : ∃ q, q = m / 8 := ⟨_, rfl⟩
  obtain ⟨r, hrm⟩ : ∃ r, r = m % 8 := ⟨_, rfl⟩
  have hq : (m : Int) / 8 = (q : Int) := by omega
  have hr : (m : Int) % 8 = (r : Int) := by omega
  have hql : q < l.length := by omega
  have hr8 : r < 8 := by omega
  obtain ⟨y, hy, hy256, hyne⟩ := xor_bit l[q] r hr8
  have HQ := Lib.hid hqm
  have HR := Lib.hid hrm
  clear hqm hrm
  have hB3 : Below w.heap.size w w3 := hb1.trans (hG.mono hb1.size)
  have hB4 : Below w.heap.size w w4 := hB3.trans (hG4.mono hB3.size)
  have hin4 := (h.below hB4).more hB4.size
  have hG04 := hG.trans hG4
  have hd0 := hc0 w4 hG04
  have hd1 := hc1 w4 hG04
  have e0 : OwnB (w4.alloc (.cells #[] 5)) w4.heap.size (.slice (some ⟨w4.heap.size, 0, none⟩) 0 0) [] := World.ownsRow_lit w4 #[] 0 (Nat.le_refl _) (by unfold maxLen; omega) rfl
  have hbe : Below w4.heap.size w4 (w4.alloc (.cells #[] 5)) := (Below.refl _ _).alloc (Nat.le_refl _) _
  go_wp2_with (at_builtin; refine wp_appB rfl (.tmp 47) (.tmp 48) rfl w4.heap.size _ [] rfl e0 _ A c l rfl (hin4.below hbe) (by simp; omega) (by simp) ?_; intro v5 w5 hown5 hg5; have hb5 := e0.below hbe hg5; obtain ⟨g, cap, rfl, hgb, hgl, hcap⟩ := hown5.at_ (by simp; omega); have hcell := hown5.cell q (by simp; omega); have hfree := hown5.free q; simp only [List.nil_append] at hcell hown5; have hd0 := hc0 w5 (hG04.trans hb5); have hd1 := hc1 w5 (hG04.trans hb5); have hne : ¬ g = w.heap.size := (by have := hB4.size; have := hG.size; simp at this; have := hG4.size; omega))
  have hs6 : (w5.setCell ⟨g, q, none⟩ (.int .u8 (y : Int))).heap.size = w5.heap.size := by simp
  have hown6 := hown5.set q y hy256
  have hns := sumL_set l q hql (UInt8.ofNat y) hyne
  have hB6 : Below w.heap.size w (w5.setCell ⟨g, q, none⟩ (.int .u8 (y : Int))) := (hB4.trans (hb5.mono hB4.size)).setCell (p := ⟨g, q, none⟩) (by have := hB4.size; simp; omega) _
  rw [← hs6]
  generalize w5.setCell ⟨g, q, none⟩ (.int .u8 (y : Int)) = w6 at *
  refine (sum1_gives w6 A c l ((h.below hB6).more hB6.size)).mono ?_
  rintro e w7 ⟨rfl, hB7⟩
  have hin7 := (hown6.inB' |>.below hB7).more hB7.size
  have H := sum1_gives w7 _ _ _ hin7
  rw [List.length_set] at H
  have hB7w := hB6.trans (hB7.mono hB6.size)
  clear hcell hown5 hown6 hfree hin7
  generalize l.set q (UInt8.ofNat y) = out at *
  go_wp2_with fail
  refine H.mono ?_
  clear H
  rintro e w8 ⟨rfl, hB8⟩
  have hB8w := hB7w.trans (hB8.mono hB7w.size)
  go_wp2_with (go_at_call 27; refine (works3_gives _).mono ?_; rintro e w' ⟨rfl, hB⟩)
  go_ret
  have hbn : ((sumL l : Int) != (sumL out : Int)) = true := by simpa using fun e => hns (by omega)
  exact ⟨congrArg (fun b => Ending.returned (.bool b)) hbn, hB8w.trans (hB.mono hB8w.size)⟩
end Go.Proofs.Ytlelckdcmlpmdaa
/- louperef05.DecodeHead. -/
namespace Go.Proofs.Ytlelckdcmlpmdaa
open Go Go.RowKit Lou

theorem InB.dropAt {w : World} {B g o c : Nat} {l : List UInt8} (h : InB w B (some ⟨g, o, none⟩) c l) (n : Nat) (hn : n ≤ l.length) (hc : n < c) : InB w B (some ⟨g, o + n, none⟩) (c - n) (l.drop n) := by
  have := h.drop n hn
  unfold cutA at this
  rw [if_neg (by omega)] at this
  have e : (⟨g, o, none⟩ : Addr).add n = ⟨g, o + n, none⟩ := by cases n <;> simp [Addr.add]
  simpa [e] using this

set_option maxRecDepth 100000 in
set_option maxHeartbeats 4000000 in
theorem refDecodeHead_len (w : World) (A : Option Addr) (c : Nat) (l : List UInt8) (h : InB w w.heap.size A c l) (hl : l.length ≠ 64) :
    Calls Try.prog 73 #[.slice A l.length c] w fun x w' => x = .returned (decHV l) ∧ Below w.heap.size w w' := by
  have hb0 := BlkIs.new w 109 #[.int .u64 0, .int .u64 0, .int .i64 0, .int .i64 0]
  have hB0 : Below w.heap.size w (w.alloc (.cells #[.int .u64 0, .int .u64 0, .int .i64 0, .int .i64 0] 109)) := (Below.refl _ w).alloc (Nat.le_refl _) _
  have hle := h.le
  have hmx := h.max
  have hno : isHead l = false := by cases hi : isHead l; rfl; exact absurd ((isHead_iff l).1 hi).1 hl
  rw [decHV_no hno]
  have hq : ((l.length : Int) == 64) = false := by simp; omega
  have hq2 : ((l.length : Int) != 64) = true := by simp; omega
  clear hno hl
  go_enter Try.func73, Try.ntmps73
  go_wp2_with (refine wp_storeW rfl 109 (.tmp 2) (.tmp 18) rfl w.heap.size rfl rfl rowHead hb0 (by rfl) (by rfl) zeroHead_one ?_)
  refine bodyPost_ret_by (results_cellW_tmp 2 3 rfl rfl rfl rowHead (hb0.setRow _) (by rfl)) rfl ⟨rfl, below_setRow hB0 (Nat.le_refl _) _⟩

set_option maxRecDepth 100000 in
set_option maxHeartbeats 8000000 in
theorem refDecodeHead_64 (w : World) (A : Option Addr) (c : Nat) (l : List UInt8) (h : InB w w.heap.size A c l) (hl64 : l.length = 64) :
    Calls Try.prog 73 #[.slice A 64 c] w fun x w' => x = .returned (decHV l) ∧ Below w.heap.size w w' := by
  have hle := h.le
  have hmx := h.max
  rw [hl64] at hle
  have hle' : (64 : Int) ≤ (c : Int) := by omega
  obtain ⟨g, o, rfl, hg, hcs⟩ := h.lies (by omega)
  have hb0 := BlkIs.new w 109 #[.int .u64 0, .int .u64 0, .int .i64 0, .int .i64 0]
  have hB0 : Below w.heap.size w (w.alloc (.cells #[.int .u64 0, .int .u64 0, .int .i64 0, .int .i64 0] 109)) := (Below.refl _ w).alloc (Nat.le_refl _) _
  have h0 := h.below hB0
  have hlen : ∀ n, (l.drop n).length = 64 - n := fun n => by simp [hl64]
  have F : ∀ (n m : Nat), m ≤ 8 → n + m ≤ 64 → ∀ W (A : Option Addr) k, InB W w.heap.size A k (l.drop n) → Calls Try.prog 41 #[.slice A (64 - n) k, .int .i64 (m : Int)] W fun x w' => x = .returned (.tuple #[.int .u64 (rfix ((l.drop n).take m) : Int), .int .i64 0]) ∧ W = w' := by
    intro n m hm hnm W A k hin
    have := refReadFixed_gives W _ A k (l.drop n) m hm hin
    rw [hlen, fixV_ge (by rw [hlen]; omega)] at this
    exact this
  have F0 : Calls Try.prog 41 #[.slice (some ⟨g, o, none⟩) 64 (c), .int .i64 8] (w.alloc (.cells #[.int .u64 0, .int .u64 0, .int .i64 0, .int .i64 0] 109)) fun x w' => x = .returned (.tuple #[.int .u64 (rfix ((l.drop 0).take 8) : Int), .int .i64 0]) ∧ (w.alloc (.cells #[.int .u64 0, .int .u64 0, .int .i64 0, .int .i64 0] 109)) = w' := F 0 8 (by omega) (by omega) _ (some ⟨g, o, none⟩) c h0
  have F1 : Calls Try.prog 41 #[.slice (some ⟨g, o + 8, none⟩) 56 (c - 8), .int .i64 8] (w.alloc (.cells #[.int .u64 0, .int .u64 0, .int .i64 0, .int .i64 0] 109)) fun x w' => x = .returned (.tuple #[.int .u64 (rfix ((l.drop 8).take 8) : Int), .int .i64 0]) ∧ (w.alloc (.cells #[.int .u64 0, .int .u64 0, .int .i64 0, .int .i64 0] 109)) = w' := F 8 8 (by omega) (by omega) _ _ _ (h0.dropAt 8 (by rw [hl64]; omega) (by omega))
  have F2 : Calls Try.prog 41 #[.slice (some ⟨g, o + 16, none⟩) 48 (c - 16), .int .i64 4] (w.alloc (.cells #[.int .u64 0, .int .u64 0, .int .i64 0, .int .i64 0] 109)) fun x w' => x = .returned (.tuple #[.int .u64 (rfix ((l.drop 16).take 4) : Int), .int .i64 0]) ∧ (w.alloc (.cells #[.int .u64 0, .int .u64 0, .int .i64 0, .int .i64 0] 109)) = w' := F 16 4 (by omega) (by omega) _ _ _ (h0.dropAt 16 (by rw [hl64]; omega) (by omega))
  have F3 : Calls Try.prog 41 #[.slice (some ⟨g, o + 20, none⟩) 44 (c - 20), .int .i64 4] (w.alloc (.cells #[.int .u64 0, .int .u64 0, .int .i64 0, .int .i64 0] 109)) fun x w' => x = .returned (.tuple #[.int .u64 (rfix ((l.drop 20).take 4) : Int), .int .i64 0]) ∧ (w.alloc (.cells #[.int .u64 0, .int .u64 0, .int .i64 0, .int .i64 0] 109)) = w' := F 20 4 (by omega) (by omega) _ _ _ (h0.dropAt 20 (by rw [hl64]; omega) (by omega))
  have eS : rfix ((l.drop 0).take 8) = hdS l := rfl
  have eE : rfix ((l.drop 8).take 8) = hdE l := rfl
  have eZ : rfix ((l.drop 16).take 4) = hdZ l := rfl
  have eC : rfix ((l.drop 20).take 4) = hdC l := rfl
  have hzb : hdZ l < 4294967296 := rfix_take4 _
  have hcb : hdC l < 4294967296 := rfix_take4 _
  have hsb : hdS l < 2 ^ 64 := rfix_take8 _
  have heb : hdE l < 2 ^ 64 := rfix_take8 _
  have hiff : isHead l = (headOk (hdZ l) (hdC l) && (headW (hdS l) (hdE l) (hdZ l) (hdC l) == l)) := by
    rw [Bool.eq_iff_iff, isHead_iff, Bool.and_eq_true, headOk_iff, beq_iff_eq]
    constructor
    · rintro ⟨_, a1, a2, a3⟩
      exact ⟨by omega, a3⟩
    · rintro ⟨a1, a2⟩
      exact ⟨hl64, by omega, by omega, a2⟩
  have hdv : decHV l = if isHead l then .tuple #[.agg #[.int .u64 (hdS l : Int), .int .u64 (hdE l : Int), .int .i64 (hdZ l : Int), .int .i64 (hdC l : Int)], .int .i64 0] else .tuple #[.agg #[.int .u64 0, .int .u64 0, .int .i64 0, .int .i64 0], .int .i64 150] := rfl
  rw [eS] at F0
  rw [eE] at F1
  rw [eZ] at F2
  rw [eC] at F3
  have EN := fun W => refEncodeHead_gives (hdS l) (hdE l) (hdZ l) (hdC l) W hsb heb
  clear eS eE eZ eC F hsb heb hlen
  generalize hdS l = s at *
  generalize hdE l = e at *
  generalize hdZ l = z at *
  generalize hdC l = cc at *
  have hzw : IntKind.i64.wrap (z : Int) = (z : Int) := wrap_i64_fr _ (by omega) (by omega)
  have hcw : IntKind.i64.wrap (cc : Int) = (cc : Int) := wrap_i64_fr _ (by omega) (by omega)
  have HI := Lib.hid hiff
  have HD := Lib.hid hdv
  have HL := Lib.hid hl64
  clear hiff hdv hl64
  go_enter Try.func73, Try.ntmps73
  go_wp2_with (first
    | (go_at_call 41; first
      | ((with_reducible refine F0.mono ?_); rintro x w' ⟨rfl, rfl⟩)
      | ((with_reducible refine F1.mono ?_); rintro x w' ⟨rfl, rfl⟩)
      | ((with_reducible refine F2.mono ?_); rintro x w' ⟨rfl, rfl⟩)
      | ((with_reducible refine F3.mono ?_); rintro x w' ⟨rfl, rfl⟩)))
  have hz2 := hb0.alloc (.cells #[.int .u64 (s : Int), .int .u64 (e : Int), .int .i64 (z : Int), .int .i64 (cc : Int)] 109)
  have hk2 := BlkIs.new (w.alloc (.cells #[.int .u64 0, .int .u64 0, .int .i64 0, .int .i64 0] 109)) 109 #[.int .u64 (s : Int), .int .u64 (e : Int), .int .i64 (z : Int), .int .i64 (cc : Int)]
  rw [World.size_alloc] at hk2
  have hin2 := h0.below ((Below.refl w.heap.size (w.alloc (.cells #[.int .u64 0, .int .u64 0, .int .i64 0, .int .i64 0] 109))).alloc (by simp) (.cells #[.int .u64 (s : Int), .int .u64 (e : Int), .int .i64 (z : Int), .int .i64 (cc : Int)] 109))
  have hB2 : Below w.heap.size w ((w.alloc (.cells #[.int .u64 0, .int .u64 0, .int .i64 0, .int .i64 0] 109)).alloc (.cells #[.int .u64 (s : Int), .int .u64 (e : Int), .int .i64 (z : Int), .int .i64 (cc : Int)] 109)) := hB0.alloc (by simp) _
  clear F0 F1 F2 F3 hb0 h0 hcs hB0
  refine (EN _).mono ?_
  generalize (w.alloc (.cells #[.int .u64 0, .int .u64 0, .int .i64 0, .int .i64 0] 109)).alloc (.cells #[.int .u64 (s : Int), .int .u64 (e : Int), .int .i64 (z : Int), .int .i64 (cc : Int)] 109) = W2 at *
  rintro x W4 ⟨A4, c4, rfl, hin4, hB4⟩
  have hz4 := hz2.below hB4 hz2.lt
  have hk4 := hk2.below hB4 hk2.lt
  have hl4 := (hin2.more hB2.size).below hB4
  have hB04 : Below w.heap.size w W4 := hB2.trans (hB4.mono hB2.size)
  clear EN hz2 hk2 hin2 hB2 hB4
  cases hk : headOk z cc with
  | false =>
    have h1 : hEnc s e z cc = [] := by simp [hEnc, hk]
    have h2 : hErr z cc = 2 := by simp [hErr, hk]
    have hno : isHead l = false := by rw [HI.out, hk]; rfl
    have HN := Lib.hid hno
    rw [h1, h2]
    clear h1 h2 hk hin4 hno
    go_wp2_with (refine wp_storeW rfl 109 (.tmp 2) (.tmp 63) rfl w.heap.size rfl rfl rowHead hz4 (by rfl) (by rfl) zeroHead_one ?_)
    refine bodyPost_ret_by (results_cellW_tmp 2 3 rfl rfl rfl rowHead (hz4.setRow _) (by rfl)) rfl ⟨?_, below_setRow hB04 (Nat.le_refl _) _⟩
    rw [HD.out, HN.out]
    rfl
  | true =>
    obtain ⟨⟨_, hz1⟩, _, hc1⟩ := (headOk_iff _ _).1 hk
    obtain ⟨h1, h2⟩ := hEnc_ok (s := s) (e := e) (z := z) (c := cc) (by omega) (by omega)
    rw [h1] at hin4
    rw [h1, h2]
    have hyes : isHead l = (headW s e z cc == l) := by rw [HI.out, hk]; rfl
    clear h1 h2 HI
    generalize headW s e z cc = HW at *
    have HY := Lib.hid hyes
    have hst1 := hin4.string
    have hst2 := hl4.string
    rw [HL.out] at hst2
    clear hyes hk
    cases hq : (HW == l) with
    | false =>
      have hs1 : ((str HW).toList == (str l).toList) = false := by rw [str_toList, str_toList]; exact hq
      have hs2 : ((str HW).toList != (str l).toList) = true := by rw [bne, hs1]; rfl
      have HQ := Lib.hid hq
      clear hq
      go_wp2_with (refine wp_storeW rfl 109 (.tmp 2) (.tmp 63) rfl w.heap.size rfl rfl rowHead hz4 (by rfl) (by rfl) zeroHead_one ?_)
      refine bodyPost_ret_by (results_cellW_tmp 2 3 rfl rfl rfl rowHead (hz4.setRow _) (by rfl)) rfl ⟨?_, below_setRow hB04 (Nat.le_refl _) _⟩
      rw [HD.out, HY.out, HQ.out]
      rfl
    | true =>
      have hs1 : ((str HW).toList == (str l).toList) = true := by rw [str_toList, str_toList]; exact hq
      have hs2 : ((str HW).toList != (str l).toList) = false := by rw [bne, hs1]; rfl
      have HQ := Lib.hid hq
      clear hq
      go_wp2_with (first
        | (refine wp_loadW rfl 109 (.tmp 12) rfl (w.heap.size + 1) rfl rowHead hk4 (by rfl) ?_)
        | (refine wp_storeW rfl 109 (.tmp 2) (.tmp 64) rfl w.heap.size rfl rfl rowHead hz4 (by rfl) (by rfl) (head_one _ _ _ _) ?_))
      refine bodyPost_ret_by (results_cellW_tmp 2 3 rfl rfl rfl rowHead (hz4.setRow _) (by rfl)) rfl ⟨?_, below_setRow hB04 (Nat.le_refl _) _⟩
      rw [HD.out, HY.out, HQ.out]
      rfl
theorem refDecodeHead_gives (w : World) (A : Option Addr) (c : Nat) (l : List UInt8) (h : InB w w.heap.size A c l) :
    Calls Try.prog 73 #[.slice A l.length c] w fun x w' => x = .returned (decHV l) ∧ Below w.heap.size w w' := by
  by_cases hl : l.length = 64
  · rw [hl]
    exact refDecodeHead_64 w A c l h hl
  · exact refDecodeHead_len w A c l h hl
end Go.Proofs.Ytlelckdcmlpmdaa
