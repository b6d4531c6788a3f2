/- frame.front. -/
import Derived.Test.YtlelckdcmlpmdaaFrLaid
import Derived.Test.YtlelckdcmlpmdaaFrRight
import Derived.Test.YtlelckdcmlpmdaaFrFlags
import Derived.Test.YtlelckdcmlpmdaaReg7
namespace Go.Proofs.Ytlelckdcmlpmdaa
open Go Go.RowKit Lou
namespace Reg
variable {L : List (Nat × Fact)} {ops : Array Oper} {w0 : World} {o : Oper}
theorem l_build6 (t1 t2 t3 t4 t5 t6 : Tmp) (l1 l2 l3 l4 l5 l6 : List UInt8) (ho : o.op = .buildSlice 168 6 #[(0, .tmp t1), (1, .tmp t2), (2, .tmp t3), (3, .tmp t4), (4, .tmp t5), (5, .tmp t6)])
    (c1 : (o.looksAt ops).contains t1 = true) (c2 : (o.looksAt ops).contains t2 = true) (c3 : (o.looksAt ops).contains t3 = true) (c4 : (o.looksAt ops).contains t4 = true) (c5 : (o.looksAt ops).contains t5 = true) (c6 : (o.looksAt ops).contains t6 = true)
    (f1 : factOf L t1 = .res l1) (f2 : factOf L t2 = .res l2) (f3 : factOf L t3 = .res l3) (f4 : factOf L t4 = .res l4) (f5 : factOf L t5 = .res l5) (f6 : factOf L t6 = .res l6) (hd : FD L o.dst = .pred (Lists [l1, l2, l3, l4, l5, l6]) (lists_stable _)) : RunOk Try.prog ops (FSof L) w0 o := by
  intro a w K Q hG hl hK
  have g1 : (factOf L t1).holds (a.eval (.tmp t1)) w := hl t1 c1
  have g2 : (factOf L t2).holds (a.eval (.tmp t2)) w := hl t2 c2
  have g3 : (factOf L t3).holds (a.eval (.tmp t3)) w := hl t3 c3
  have g4 : (factOf L t4).holds (a.eval (.tmp t4)) w := hl t4 c4
  have g5 : (factOf L t5).holds (a.eval (.tmp t5)) w := hl t5 c5
  have g6 : (factOf L t6).holds (a.eval (.tmp t6)) w := hl t6 c6
  rw [f1] at g1
  obtain ⟨A1, k1, e1, h1⟩ := g1
  rw [f2] at g2
  obtain ⟨A2, k2, e2, h2⟩ := g2
  rw [f3] at g3
  obtain ⟨A3, k3, e3, h3⟩ := g3
  rw [f4] at g4
  obtain ⟨A4, k4, e4, h4⟩ := g4
  rw [f5] at g5
  obtain ⟨A5, k5, e5, h5⟩ := g5
  rw [f6] at g6
  obtain ⟨A6, k6, e6, h6⟩ := g6
  have hN := Lists.new (w := w) [((A1, k1), l1), ((A2, k2), l2), ((A3, k3), l3), ((A4, k4), l4), ((A5, k5), l5), ((A6, k6), l6)] (by
    intro x hx
    simp only [List.mem_cons, List.not_mem_nil, or_false] at hx
    rcases hx with rfl | rfl | rfl | rfl | rfl | rfl
    · exact h1
    · exact h2
    · exact h3
    · exact h4
    · exact h5
    · exact h6)
  have key : ∀ ρ : Operand → Value, ρ (.tmp t1) = .slice A1 l1.length k1 → ρ (.tmp t2) = .slice A2 l2.length k2 → ρ (.tmp t3) = .slice A3 l3.length k3 → ρ (.tmp t4) = .slice A4 l4.length k4 → ρ (.tmp t5) = .slice A5 l5.length k5 → ρ (.tmp t6) = .slice A6 l6.length k6 →
      (execOp ρ o).run Try.prog w = .ok (.value (.slice (some ⟨w.heap.size, 0, none⟩) 6 6)) (w.alloc (.cells #[.slice A1 l1.length k1, .slice A2 l2.length k2, .slice A3 l3.length k3, .slice A4 l4.length k4, .slice A5 l5.length k5, .slice A6 l6.length k6] 30)) :=
    fun ρ h1 h2 h3 h4 h5 h6 => by simp [execOp, ho, h1, h2, h3, h4, h5, h6, go_sem, Result.andThen]
  unfold Oper.wp
  rw [key _ e1 e2 e3 e4 e5 e6]
  exact hK _ _ (Grow.alloc _ _) (fsd hd hN)
/-- A call of two arguments, the second known by a predicate. -/
theorem l_callVP {P : Program} (f : FuncId) (x : Operand) (t : Tmp) (v1 : Value) (p : Value → World → Prop) (hp : ∀ v w w', p v w → Grow w w' → p v w') (ts : Array TypeId) (ho : o.op = .call { callee := .value (.func f), args := #[x, .tmp t], argTypes := ts }) (hent : ∀ args w, (callFunc f args).run P w = .ok (.enter f args) w)
    (g : Fact) (hx : Has ops (FSof L) o x v1) (hc : (o.looksAt ops).contains t = true) (hF : factOf L t = .pred p hp)
    (hC : ∀ w u, Grow w0 w → p u w → Calls P f #[v1, u] w fun e w' => ∃ v, e = .returned v ∧ Grow w w' ∧ g.holds v w') (hd : FD L o.dst = g) : RunOk P ops (FSof L) w0 o := by
  intro a w K Q hG hl hK
  have h' : (factOf L t).holds (a.eval (.tmp t)) w := hl t hc
  rw [hF] at h'
  have e1 := hx a w hl
  have hr : (execOp a.eval o).run P w = .ok (.enter f #[v1, a.eval (.tmp t)]) w := by
    have ef : a.eval (.func f) = .func (.func f) #[] #[] := rfl
    have h := hent #[v1, a.eval (.tmp t)] w
    simp [execOp, ho, resolve, e1, ef, Deferred.ofValue, invoke, Result.andThen, h]
  unfold Oper.wp
  rw [hr, Oper.upon_enter]
  refine (hC w _ hG h').mono ?_
  rintro e w' ⟨v, rfl, hg, hf⟩
  exact hK v w' hg (fsd hd hf)
/-- Any operation of one slot known by a predicate and another operand. -/
theorem l_runP (t : Tmp) (y : Operand) (p : Value → World → Prop) (hp : ∀ v w w', p v w → Grow w w' → p v w') (v2 : Value) (g : Fact) (hc : (o.looksAt ops).contains t = true) (hF : factOf L t = .pred p hp) (hy : Has ops (FSof L) o y v2) {P : Program}
    (hrun : ∀ (ρ : Operand → Value) (w : World), Grow w0 w → p (ρ (.tmp t)) w → ρ y = v2 → ∃ r w', (execOp ρ o).run P w = .ok (.value r) w' ∧ Grow w w' ∧ g.holds r w') (hd : FD L o.dst = g) : RunOk P ops (FSof L) w0 o := by
  intro a w K Q hG hl hK
  have h' : (factOf L t).holds (a.eval (.tmp t)) w := hl t hc
  rw [hF] at h'
  obtain ⟨r, w', h1, h2, h3⟩ := hrun a.eval w hG h' (hy a w hl)
  unfold Oper.wp
  rw [h1]
  exact hK r w' h2 (fsd hd h3)
/-- A flag's function. -/
def FlagFn (f : Bool) (v : Value) (w : World) : Prop := ∃ g, v = .func (.func 207) #[] #[.pointer (some ⟨g, 0, none⟩)] ∧ BlkIs w g 5 #[.int .u8 (((if f then 1 else 0 : UInt8)).toNat : Int)]
theorem flagFn_stable (f : Bool) : ∀ v w w', FlagFn f v w → Grow w w' → FlagFn f v w' := by
  rintro v w w' ⟨g, rfl, h⟩ hg
  exact ⟨g, rfl, h.below hg h.lt⟩
theorem flagsAt_stable : ∀ v w w', FlagsAt w v → Grow w w' → FlagsAt w' v := fun _ _ _ h hg => h.below hg
theorem run_flag (f : Bool) {ρ : Operand → Value} {w : World} {t : Tmp} {y : Operand} (ho : o.op = .lookup 283 (.tmp t) y false) (h : FlagsAt w (ρ (.tmp t))) (hy : ρ y = .bool f) : ∃ r, (execOp ρ o).run Try.prog w = .ok (.value r) w ∧ FlagFn f r w := by
  obtain ⟨r, g0, g1, clock, hv, h1, h2, h3⟩ := h
  cases f with
  | false =>
    have := run_get (P := Try.prog) Try.underlying283 Try.underlying4 (key_bool false) h1 (i := 0) rfl
    exact ⟨_, by simp [execOp, ho, hv, hy, this, Result.andThen], g0, rfl, h2⟩
  | true =>
    have := run_get (P := Try.prog) Try.underlying283 Try.underlying4 (key_bool true) h1 (i := 1) rfl
    exact ⟨_, by simp [execOp, ho, hv, hy, this, Result.andThen], g1, rfl, h3⟩
theorem l_callFlag (f : Bool) (t : Tmp) (ts : Array TypeId) (ho : o.op = .call { callee := .value (.tmp t), args := #[], argTypes := ts }) (hc : (o.looksAt ops).contains t = true) (hF : factOf L t = .pred (FlagFn f) (flagFn_stable f)) (hd : FD L o.dst = .res [if f then 1 else 0]) : RunOk Try.prog ops (FSof L) w0 o := by
  intro a w K Q hG hl hK
  have h' : (factOf L t).holds (a.eval (.tmp t)) w := hl t hc
  rw [hF] at h'
  obtain ⟨g, hv, hb⟩ := h'
  have hr : (execOp a.eval o).run Try.prog w = .ok (.enter 207 #[.pointer (some ⟨g, 0, none⟩)]) w := by
    have h := enters_of Try.func207 (by kernel_rfl) rfl #[.pointer (some ⟨g, 0, none⟩)] w
    simp [execOp, ho, resolve, hv, Deferred.ofValue, invoke, Result.andThen, h]
  unfold Oper.wp
  rw [hr, Oper.upon_enter]
  refine (gives_res (flag11_gives w g _ hb)).mono ?_
  rintro e w' ⟨v, rfl, hg, hf⟩
  exact hK v w' hg (fsd hd hf)
end Reg
set_option maxRecDepth 100000 in
set_option maxHeartbeats 8000000 in
theorem front_gives (e i p z n : Nat) (f : Bool) (A : Option Addr) (k : Nat) (y : List UInt8) (w : World) (hi : i ≤ 2000) (hp : p ≤ 2000) (hz : z ≤ 2000) (hin : InB w w.heap.size A k y) (hy : y.length = 512) :
    Calls Try.prog 141 #[.agg (frCells e i p f z n A y.length k)] w fun x w' => x = .returned (.agg ((sectB (partB e i p f z n) y).map b8).toArray) ∧ Below w.heap.size w w' := by
  have hi32 := conv_3_45 i (by omega)
  have hp32 := conv_3_45 p (by omega)
  have hz32 := conv_3_45 z (by omega)
  have hbf := (BlkIs.new w 120 (frCells e i p f z n A y.length k)).alloc (.cells #[.int .u8 0, .int .u8 0, .int .u8 0, .int .u8 0, .int .u8 0, .int .u8 0, .int .u8 0, .int .u8 0, .int .u8 0, .int .u8 0, .int .u8 0, .int .u8 0, .int .u8 0, .int .u8 0, .int .u8 0, .int .u8 0, .int .u8 0, .int .u8 0, .int .u8 0, .int .u8 0, .int .u8 0, .int .u8 0, .int .u8 0, .int .u8 0, .int .u8 0, .int .u8 0, .int .u8 0, .int .u8 0, .int .u8 0, .int .u8 0, .int .u8 0, .int .u8 0, .int .u8 0, .int .u8 0, .int .u8 0, .int .u8 0, .int .u8 0, .int .u8 0, .int .u8 0, .int .u8 0, .int .u8 0, .int .u8 0, .int .u8 0, .int .u8 0, .int .u8 0, .int .u8 0, .int .u8 0, .int .u8 0, .int .u8 0, .int .u8 0, .int .u8 0, .int .u8 0, .int .u8 0, .int .u8 0, .int .u8 0, .int .u8 0, .int .u8 0, .int .u8 0, .int .u8 0, .int .u8 0, .int .u8 0, .int .u8 0, .int .u8 0, .int .u8 0] 236)
  have hbs := BlkIs.new (w.alloc (.cells (frCells e i p f z n A y.length k) 120)) 236 #[.int .u8 0, .int .u8 0, .int .u8 0, .int .u8 0, .int .u8 0, .int .u8 0, .int .u8 0, .int .u8 0, .int .u8 0, .int .u8 0, .int .u8 0, .int .u8 0, .int .u8 0, .int .u8 0, .int .u8 0, .int .u8 0, .int .u8 0, .int .u8 0, .int .u8 0, .int .u8 0, .int .u8 0, .int .u8 0, .int .u8 0, .int .u8 0, .int .u8 0, .int .u8 0, .int .u8 0, .int .u8 0, .int .u8 0, .int .u8 0, .int .u8 0, .int .u8 0, .int .u8 0, .int .u8 0, .int .u8 0, .int .u8 0, .int .u8 0, .int .u8 0, .int .u8 0, .int .u8 0, .int .u8 0, .int .u8 0, .int .u8 0, .int .u8 0, .int .u8 0, .int .u8 0, .int .u8 0, .int .u8 0, .int .u8 0, .int .u8 0, .int .u8 0, .int .u8 0, .int .u8 0, .int .u8 0, .int .u8 0, .int .u8 0, .int .u8 0, .int .u8 0, .int .u8 0, .int .u8 0, .int .u8 0, .int .u8 0, .int .u8 0, .int .u8 0]
  rw [World.size_alloc] at hbs
  have hBw : Below w.heap.size w ((w.alloc (.cells (frCells e i p f z n A y.length k) 120)).alloc (.cells #[.int .u8 0, .int .u8 0, .int .u8 0, .int .u8 0, .int .u8 0, .int .u8 0, .int .u8 0, .int .u8 0, .int .u8 0, .int .u8 0, .int .u8 0, .int .u8 0, .int .u8 0, .int .u8 0, .int .u8 0, .int .u8 0, .int .u8 0, .int .u8 0, .int .u8 0, .int .u8 0, .int .u8 0, .int .u8 0, .int .u8 0, .int .u8 0, .int .u8 0, .int .u8 0, .int .u8 0, .int .u8 0, .int .u8 0, .int .u8 0, .int .u8 0, .int .u8 0, .int .u8 0, .int .u8 0, .int .u8 0, .int .u8 0, .int .u8 0, .int .u8 0, .int .u8 0, .int .u8 0, .int .u8 0, .int .u8 0, .int .u8 0, .int .u8 0, .int .u8 0, .int .u8 0, .int .u8 0, .int .u8 0, .int .u8 0, .int .u8 0, .int .u8 0, .int .u8 0, .int .u8 0, .int .u8 0, .int .u8 0, .int .u8 0, .int .u8 0, .int .u8 0, .int .u8 0, .int .u8 0, .int .u8 0, .int .u8 0, .int .u8 0, .int .u8 0] 236)) := ((Below.refl _ w).alloc (Nat.le_refl _) _).alloc (by simp) _
  unfold frCells at *
  have HYL := Lib.hid hy
  clear hy
  go_enter Try.func141, Try.ntmps141
  go_wp2_with fail
  generalize (w.alloc (.cells #[.int .u64 (e : Int), .int .i64 (i : Int), .int .i64 (p : Int), .bool f, .int .i64 (z : Int), .int .u32 (n : Int), .slice A y.length k] 120)).alloc (.cells #[.int .u8 0, .int .u8 0, .int .u8 0, .int .u8 0, .int .u8 0, .int .u8 0, .int .u8 0, .int .u8 0, .int .u8 0, .int .u8 0, .int .u8 0, .int .u8 0, .int .u8 0, .int .u8 0, .int .u8 0, .int .u8 0, .int .u8 0, .int .u8 0, .int .u8 0, .int .u8 0, .int .u8 0, .int .u8 0, .int .u8 0, .int .u8 0, .int .u8 0, .int .u8 0, .int .u8 0, .int .u8 0, .int .u8 0, .int .u8 0, .int .u8 0, .int .u8 0, .int .u8 0, .int .u8 0, .int .u8 0, .int .u8 0, .int .u8 0, .int .u8 0, .int .u8 0, .int .u8 0, .int .u8 0, .int .u8 0, .int .u8 0, .int .u8 0, .int .u8 0, .int .u8 0, .int .u8 0, .int .u8 0, .int .u8 0, .int .u8 0, .int .u8 0, .int .u8 0, .int .u8 0, .int .u8 0, .int .u8 0, .int .u8 0, .int .u8 0, .int .u8 0, .int .u8 0, .int .u8 0, .int .u8 0, .int .u8 0, .int .u8 0, .int .u8 0] 236) = W1 at *
  have hc0 : ∀ w', Grow W1 w' → w'.cell? ⟨w.heap.size, 0, none⟩ = some (.int .u64 e) := fun w' hg => (hg.cell (p := ⟨w.heap.size, 0, none⟩) hbf.lt).trans (by rw [hbf.cell]; rfl)
  have hc1 : ∀ w', Grow W1 w' → w'.cell? ⟨w.heap.size, 1, none⟩ = some (.int .i64 i) := fun w' hg => (hg.cell (p := ⟨w.heap.size, 1, none⟩) hbf.lt).trans (by rw [hbf.cell]; rfl)
  have hc2 : ∀ w', Grow W1 w' → w'.cell? ⟨w.heap.size, 2, none⟩ = some (.int .i64 p) := fun w' hg => (hg.cell (p := ⟨w.heap.size, 2, none⟩) hbf.lt).trans (by rw [hbf.cell]; rfl)
  have hc3 : ∀ w', Grow W1 w' → w'.cell? ⟨w.heap.size, 3, none⟩ = some (.bool f) := fun w' hg => (hg.cell (p := ⟨w.heap.size, 3, none⟩) hbf.lt).trans (by rw [hbf.cell]; rfl)
  have hc4 : ∀ w', Grow W1 w' → w'.cell? ⟨w.heap.size, 4, none⟩ = some (.int .i64 z) := fun w' hg => (hg.cell (p := ⟨w.heap.size, 4, none⟩) hbf.lt).trans (by rw [hbf.cell]; rfl)
  have hc5 : ∀ w', Grow W1 w' → w'.cell? ⟨w.heap.size, 5, none⟩ = some (.int .u32 n) := fun w' hg => (hg.cell (p := ⟨w.heap.size, 5, none⟩) hbf.lt).trans (by rw [hbf.cell]; rfl)
  have hc6 : ∀ w', Grow W1 w' → w'.cell? ⟨w.heap.size, 6, none⟩ = some (.slice A y.length k) := fun w' hg => (hg.cell (p := ⟨w.heap.size, 6, none⟩) hbf.lt).trans (by rw [hbf.cell]; rfl)
  have hin1 := (hin.below hBw).more hBw.size
  have hlaid : ∀ w' u, Grow W1 w' → Lists [fixL 8 e, fixL 4 i, fixL 4 p, [if f then 1 else 0], fixL 4 z, fixL 4 n] u w' → Calls Try.prog 182 #[.slice A y.length k, u] w' fun x w2 => x = .returned (.agg ((sectB [fixL 8 e, fixL 4 i, fixL 4 p, [if f then 1 else 0], fixL 4 z, fixL 4 n].flatten y).map b8).toArray) ∧ Below w'.heap.size w' w2 := fun w' u hg hu =>
    laid_gives w' A k y _ u ((hin1.below hg).more hg.size) hu (by simp) (partB_length e i p f z n) (by rw [HYL.out]; omega)
  open Reg in
  refine region_tail_facts (by kernel_rfl) (by kernel_rfl) 30 rfl (by kernel_rfl) 27 (by decide) (by kernel_rfl) (by kernel_rfl) [3, 4, 5, 6, 7, 8, 9, 10, 11, 12, 13, 14, 15, 16, 17, 18, 19, 20, 21, 22, 23, 24, 25, 26, 27, 28, 29] (by kernel_rfl)
    [(1, .val (.pointer (some ⟨w.heap.size, 0, none⟩)))]
    [(3, .val (.pointer (some ⟨w.heap.size, 6, none⟩))), (4, .val (.slice A y.length k)), (5, .val (.pointer (some ⟨w.heap.size, 0, none⟩))), (6, .val (.int .u64 (e : Int))), (7, .res (fixL 8 e)), (8, .val (.pointer (some ⟨w.heap.size, 1, none⟩))), (9, .val (.int .i64 (i : Int))), (10, .val (.int .u32 (i : Int))), (11, .res (fixL 4 i)), (12, .val (.pointer (some ⟨w.heap.size, 2, none⟩))), (13, .val (.int .i64 (p : Int))), (14, .val (.int .u32 (p : Int))), (15, .res (fixL 4 p)), (16, .pred ((fun v w => FlagsAt w v)) (flagsAt_stable)), (17, .val (.pointer (some ⟨w.heap.size, 3, none⟩))), (18, .val (.bool f)), (19, .pred (FlagFn f) (flagFn_stable f)), (20, .res ([if f then 1 else 0])), (21, .val (.pointer (some ⟨w.heap.size, 4, none⟩))), (22, .val (.int .i64 (z : Int))), (23, .val (.int .u32 (z : Int))), (24, .res (fixL 4 z)), (25, .val (.pointer (some ⟨w.heap.size, 5, none⟩))), (26, .val (.int .u32 (n : Int))), (27, .res (fixL 4 n)), (28, .pred (Lists [fixL 8 e, fixL 4 i, fixL 4 p, [if f then 1 else 0], fixL 4 z, fixL 4 n]) (lists_stable _)), (29, .val (.agg ((sectB [fixL 8 e, fixL 4 i, fixL 4 p, [if f then 1 else 0], fixL 4 z, fixL 4 n].flatten y).map b8).toArray))]
    ⟨rfl, trivial⟩ (by kernel_rfl) (by kernel_rfl)
    (allOk_cons (ok_none rfl (l_run1 (.tmp 1) (.pointer (some ⟨w.heap.size, 0, none⟩)) (.pointer (some ⟨w.heap.size, 6, none⟩)) (hs 1 _ (by kernel_rfl) (by kernel_rfl)) (fun ρ w h => by simp [execOp, h, go_sem, Result.andThen]) (by kernel_rfl)))
    <| allOk_cons (ok_none rfl (l_load (.tmp 3) (⟨w.heap.size, 6, none⟩) _ (.slice A y.length k) (by intro w; simp [go_sem, Try.underlying30]) rfl (hs 3 (.pointer (some ⟨w.heap.size, 6, none⟩)) (by kernel_rfl) (by kernel_rfl)) (fun w hg => hc6 w hg) (by kernel_rfl)))
    <| allOk_cons (ok_none rfl (l_run1 (.tmp 1) (.pointer (some ⟨w.heap.size, 0, none⟩)) (.pointer (some ⟨w.heap.size, 0, none⟩)) (hs 1 _ (by kernel_rfl) (by kernel_rfl)) (fun ρ w h => by simp [execOp, h, go_sem, Result.andThen]) (by kernel_rfl)))
    <| allOk_cons (ok_none rfl (l_load (.tmp 5) (⟨w.heap.size, 0, none⟩) _ (.int .u64 (e : Int)) (by intro w; simp [go_sem, Try.underlying41]) rfl (hs 5 (.pointer (some ⟨w.heap.size, 0, none⟩)) (by kernel_rfl) (by kernel_rfl)) (fun w hg => hc0 w hg) (by kernel_rfl)))
    <| allOk_cons (ok_none rfl (l_call 45 _ _ rfl (enters_of Try.func45 (by kernel_rfl) rfl) #[.int .u64 (e : Int)] (.res (fixL 8 e)) (args1 (hs 6 (.int .u64 (e : Int)) (by kernel_rfl) (by kernel_rfl))) (fun w hg => gives_res (eight_gives e w)) (by kernel_rfl)))
    <| allOk_cons (ok_none rfl (l_run1 (.tmp 1) (.pointer (some ⟨w.heap.size, 0, none⟩)) (.pointer (some ⟨w.heap.size, 1, none⟩)) (hs 1 _ (by kernel_rfl) (by kernel_rfl)) (fun ρ w h => by simp [execOp, h, go_sem, Result.andThen]) (by kernel_rfl)))
    <| allOk_cons (ok_none rfl (l_load (.tmp 8) (⟨w.heap.size, 1, none⟩) _ (.int .i64 (i : Int)) (by intro w; simp [go_sem, Try.underlying3]) rfl (hs 8 (.pointer (some ⟨w.heap.size, 1, none⟩)) (by kernel_rfl) (by kernel_rfl)) (fun w hg => hc1 w hg) (by kernel_rfl)))
    <| allOk_cons (ok_none rfl (l_convS (.tmp 9) _ _ (.int .i64 (i : Int)) (.int .u32 (i : Int)) rfl (hs 9 (.int .i64 (i : Int)) (by kernel_rfl) (by kernel_rfl)) (fun w hg => hi32 w) (by kernel_rfl)))
    <| allOk_cons (ok_none rfl (l_call 43 _ _ rfl (enters_of Try.func43 (by kernel_rfl) rfl) #[.int .u32 (i : Int)] (.res (fixL 4 i)) (args1 (hs 10 (.int .u32 (i : Int)) (by kernel_rfl) (by kernel_rfl))) (fun w hg => gives_res (four_gives i w)) (by kernel_rfl)))
    <| allOk_cons (ok_none rfl (l_run1 (.tmp 1) (.pointer (some ⟨w.heap.size, 0, none⟩)) (.pointer (some ⟨w.heap.size, 2, none⟩)) (hs 1 _ (by kernel_rfl) (by kernel_rfl)) (fun ρ w h => by simp [execOp, h, go_sem, Result.andThen]) (by kernel_rfl)))
    <| allOk_cons (ok_none rfl (l_load (.tmp 12) (⟨w.heap.size, 2, none⟩) _ (.int .i64 (p : Int)) (by intro w; simp [go_sem, Try.underlying3]) rfl (hs 12 (.pointer (some ⟨w.heap.size, 2, none⟩)) (by kernel_rfl) (by kernel_rfl)) (fun w hg => hc2 w hg) (by kernel_rfl)))
    <| allOk_cons (ok_none rfl (l_convS (.tmp 13) _ _ (.int .i64 (p : Int)) (.int .u32 (p : Int)) rfl (hs 13 (.int .i64 (p : Int)) (by kernel_rfl) (by kernel_rfl)) (fun w hg => hp32 w) (by kernel_rfl)))
    <| allOk_cons (ok_none rfl (l_call 43 _ _ rfl (enters_of Try.func43 (by kernel_rfl) rfl) #[.int .u32 (p : Int)] (.res (fixL 4 p)) (args1 (hs 14 (.int .u32 (p : Int)) (by kernel_rfl) (by kernel_rfl))) (fun w hg => gives_res (four_gives p w)) (by kernel_rfl)))
    <| allOk_cons (ok_none rfl (l_call 183 _ _ rfl (enters_of Try.func183 (by kernel_rfl) rfl) #[] (.pred ((fun v w => FlagsAt w v)) (flagsAt_stable)) (fun _ _ _ => by simp) (fun w hg => (flags_gives w).mono (fun _ _ ⟨v, he, h1, h2⟩ => ⟨v, he, h2, h1⟩)) (by kernel_rfl)))
    <| allOk_cons (ok_none rfl (l_run1 (.tmp 1) (.pointer (some ⟨w.heap.size, 0, none⟩)) (.pointer (some ⟨w.heap.size, 3, none⟩)) (hs 1 _ (by kernel_rfl) (by kernel_rfl)) (fun ρ w h => by simp [execOp, h, go_sem, Result.andThen]) (by kernel_rfl)))
    <| allOk_cons (ok_none rfl (l_load (.tmp 17) (⟨w.heap.size, 3, none⟩) _ (.bool f) (by intro w; simp [go_sem, Try.underlying4]) rfl (hs 17 (.pointer (some ⟨w.heap.size, 3, none⟩)) (by kernel_rfl) (by kernel_rfl)) (fun w hg => hc3 w hg) (by kernel_rfl)))
    <| allOk_cons (ok_none rfl (l_runP 16 (.tmp 18) _ flagsAt_stable (.bool f) (.pred (FlagFn f) (flagFn_stable f)) (by kernel_rfl) (by kernel_rfl) (hs 18 _ (by kernel_rfl) (by kernel_rfl)) (fun ρ w hg h1 h2 => let ⟨r, q1, q2⟩ := run_flag f rfl h1 h2; ⟨r, w, q1, Grow.refl _, q2⟩) (by kernel_rfl)))
    <| allOk_cons (ok_none rfl (l_callFlag f 19 _ rfl (by kernel_rfl) (by kernel_rfl) (by kernel_rfl)))
    <| allOk_cons (ok_none rfl (l_run1 (.tmp 1) (.pointer (some ⟨w.heap.size, 0, none⟩)) (.pointer (some ⟨w.heap.size, 4, none⟩)) (hs 1 _ (by kernel_rfl) (by kernel_rfl)) (fun ρ w h => by simp [execOp, h, go_sem, Result.andThen]) (by kernel_rfl)))
    <| allOk_cons (ok_none rfl (l_load (.tmp 21) (⟨w.heap.size, 4, none⟩) _ (.int .i64 (z : Int)) (by intro w; simp [go_sem, Try.underlying3]) rfl (hs 21 (.pointer (some ⟨w.heap.size, 4, none⟩)) (by kernel_rfl) (by kernel_rfl)) (fun w hg => hc4 w hg) (by kernel_rfl)))
    <| allOk_cons (ok_none rfl (l_convS (.tmp 22) _ _ (.int .i64 (z : Int)) (.int .u32 (z : Int)) rfl (hs 22 (.int .i64 (z : Int)) (by kernel_rfl) (by kernel_rfl)) (fun w hg => hz32 w) (by kernel_rfl)))
    <| allOk_cons (ok_none rfl (l_call 43 _ _ rfl (enters_of Try.func43 (by kernel_rfl) rfl) #[.int .u32 (z : Int)] (.res (fixL 4 z)) (args1 (hs 23 (.int .u32 (z : Int)) (by kernel_rfl) (by kernel_rfl))) (fun w hg => gives_res (four_gives z w)) (by kernel_rfl)))
    <| allOk_cons (ok_none rfl (l_run1 (.tmp 1) (.pointer (some ⟨w.heap.size, 0, none⟩)) (.pointer (some ⟨w.heap.size, 5, none⟩)) (hs 1 _ (by kernel_rfl) (by kernel_rfl)) (fun ρ w h => by simp [execOp, h, go_sem, Result.andThen]) (by kernel_rfl)))
    <| allOk_cons (ok_none rfl (l_load (.tmp 25) (⟨w.heap.size, 5, none⟩) _ (.int .u32 (n : Int)) (by intro w; simp [go_sem, Try.underlying45]) rfl (hs 25 (.pointer (some ⟨w.heap.size, 5, none⟩)) (by kernel_rfl) (by kernel_rfl)) (fun w hg => hc5 w hg) (by kernel_rfl)))
    <| allOk_cons (ok_none rfl (l_call 43 _ _ rfl (enters_of Try.func43 (by kernel_rfl) rfl) #[.int .u32 (n : Int)] (.res (fixL 4 n)) (args1 (hs 26 (.int .u32 (n : Int)) (by kernel_rfl) (by kernel_rfl))) (fun w hg => gives_res (four_gives n w)) (by kernel_rfl)))
    <| allOk_cons (ok_none rfl (l_build6 7 11 15 20 24 27 (fixL 8 e) (fixL 4 i) (fixL 4 p) [if f then 1 else 0] (fixL 4 z) (fixL 4 n) rfl (by kernel_rfl) (by kernel_rfl) (by kernel_rfl) (by kernel_rfl) (by kernel_rfl) (by kernel_rfl) (by kernel_rfl) (by kernel_rfl) (by kernel_rfl) (by kernel_rfl) (by kernel_rfl) (by kernel_rfl) (by kernel_rfl)))
    <| allOk_cons (ok_none rfl (l_callVP 182 (.tmp 4) 28 (.slice A y.length k) (Lists [fixL 8 e, fixL 4 i, fixL 4 p, [if f then 1 else 0], fixL 4 z, fixL 4 n]) (lists_stable _) _ rfl (enters_of Try.func182 (by kernel_rfl) rfl) (.val (.agg ((sectB [fixL 8 e, fixL 4 i, fixL 4 p, [if f then 1 else 0], fixL 4 z, fixL 4 n].flatten y).map b8).toArray)) (hs 4 _ (by kernel_rfl) (by kernel_rfl)) (by kernel_rfl) (by kernel_rfl) (fun w u hg hu => gives_grow (hlaid w u hg hu)) (by kernel_rfl)))
    <| allOk_nil) ?_
  intro a W3 hsz hdef hGW3 hF hU
  have e29 : a.eval (.tmp 29) = .agg ((sectB [fixL 8 e, fixL 4 i, fixL 4 p, [if f then 1 else 0], fixL 4 z, fixL 4 n].flatten y).map b8).toArray := hF 29
  have ha := Reg.acts_eq [3, 4, 5, 6, 7, 8, 9, 10, 11, 12, 13, 14, 15, 16, 17, 18, 19, 20, 21, 22, 23, 24, 25, 26, 27, 28, 29] hsz hdef hU
  clear hF hU hdef
  simp only [List.foldl_cons, List.foldl_nil, e29] at ha
  clear e29 hsz
  generalize a.eval (.tmp 3) = v3 at *
  generalize a.eval (.tmp 4) = v4 at *
  generalize a.eval (.tmp 5) = v5 at *
  generalize a.eval (.tmp 6) = v6 at *
  generalize a.eval (.tmp 7) = v7 at *
  generalize a.eval (.tmp 8) = v8 at *
  generalize a.eval (.tmp 9) = v9 at *
  generalize a.eval (.tmp 10) = v10 at *
  generalize a.eval (.tmp 11) = v11 at *
  generalize a.eval (.tmp 12) = v12 at *
  generalize a.eval (.tmp 13) = v13 at *
  generalize a.eval (.tmp 14) = v14 at *
  generalize a.eval (.tmp 15) = v15 at *
  generalize a.eval (.tmp 16) = v16 at *
  generalize a.eval (.tmp 17) = v17 at *
  generalize a.eval (.tmp 18) = v18 at *
  generalize a.eval (.tmp 19) = v19 at *
  generalize a.eval (.tmp 20) = v20 at *
  generalize a.eval (.tmp 21) = v21 at *
  generalize a.eval (.tmp 22) = v22 at *
  generalize a.eval (.tmp 23) = v23 at *
  generalize a.eval (.tmp 24) = v24 at *
  generalize a.eval (.tmp 25) = v25 at *
  generalize a.eval (.tmp 26) = v26 at *
  generalize a.eval (.tmp 27) = v27 at *
  generalize a.eval (.tmp 28) = v28 at *
  simp only [Act.put, List.setIfInBounds_toArray, List.set_cons_succ, List.set_cons_zero] at ha
  subst ha
  simp only [Reg.Rest, List.drop_succ_cons, List.drop_zero]
  have hs3 := hbs.below hGW3 hbs.lt
  have hB3 : Below w.heap.size w W3 := hBw.trans (hGW3.mono hBw.size)
  have hpb : [fixL 8 e, fixL 4 i, fixL 4 p, [if f then 1 else 0], fixL 4 z, fixL 4 n].flatten = partB e i p f z n := rfl
  have hl25 := partB_length e i p f z n
  rw [hpb]
  clear hlaid hc0 hc1 hc2 hc3 hc4 hc5 hc6 hbf hbs hin1 hpb hi32 hp32 hz32
  generalize hPq : partB e i p f z n = P at *
  have HPq := Lib.hid hPq
  clear hPq
  have h64 : ((sectB P y).map b8).toArray.size = 64 := by
    simp [sectB_length]; omega
  have hRow : RowTy Try.prog 236 ((sectB P y).map b8).toArray.size := by rw [h64]; exact rowSector
  refine wp_storeW rfl 236 (.tmp 2) (.tmp 29) rfl (w.heap.size + 1) rfl rfl rowSector hs3 (by simp) (by rw [h64]; simp) (b8_one _) ?_
  have hb4 := hs3.setRow ((sectB P y).map b8).toArray
  have hB4 : Below w.heap.size w (W3.setRow (w.heap.size + 1) ((sectB P y).map b8).toArray) := below_setRow hB3 (by omega) _
  generalize W3.setRow (w.heap.size + 1) ((sectB P y).map b8).toArray = W4 at *
  clear h64 hs3 hl25
  simp only [wpList, Act.put, Exit.then]
  refine ‹∀ (a : Act) (w : World), Code.wp Try.prog Code.ret _ a w → _› _ W4 ?_
  refine wp_ret (bodyPost_ret_by (results_cellW 2 rfl rfl hRow hb4 rfl) rfl ⟨?_, hB4⟩)
  rw [HPq.out]
end Go.Proofs.Ytlelckdcmlpmdaa
