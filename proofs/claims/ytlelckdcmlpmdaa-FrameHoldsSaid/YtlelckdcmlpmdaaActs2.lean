/- More rules for single operations of regions that draw their order. -/
import Derived.Test.YtlelckdcmlpmdaaActs
import Derived.Test.YtlelckdcmlpmdaaLawStr
import Derived.Test.YtlelckdcmlpmdaaWhole
import Derived.Stop.BytesEq
namespace Go.Proofs.Ytlelckdcmlpmdaa
open Go Go.RowKit Lou
theorem cut_mid {ρ : Operand → Value} {w : World} {o : Oper} {x y z : Operand} {A : Option Addr} {c m k : Nat} {l : List UInt8} (ho : o.op = .slice 30 x (some y) (some z) none) (h1 : ρ x = .slice A l.length c) (h2 : ρ y = .int .i64 (m : Int)) (h3 : ρ z = .int .i64 (k : Int)) (hm : m ≤ k) (hk : k ≤ l.length) (hle : l.length ≤ c) :
    (execOp ρ o).run Try.prog w = .ok (.value (.slice (cutA A c m) ((l.drop m).take (k - m)).length (c - m))) w := by
  have ht : Try.prog.underlying 30 = some (.slice (Try.prog.elem 30)) := by kernel_rfl
  have e1 : ((l.drop m).take (k - m)).length = k - m := by simp; omega
  rw [e1]
  have a1 : m ≤ k := hm
  have a2 : k ≤ c := by omega
  have e2 : Try.prog.elem 30 = 5 := by kernel_rfl
  have e3 : (Try.prog.info? 5).map (·.size) = some 1 := by kernel_rfl
  unfold cutA
  by_cases hc : c = m
  · subst hc
    simp [execOp, ho, h1, h2, h3, go_sem, run_sliceAt_slice _ _ _ _ _ _ ht, Result.andThen, a1, a2]
  · have hc' : ¬ c - m = 0 := by omega
    simp [execOp, ho, h1, h2, h3, go_sem, run_sliceAt_slice _ _ _ _ _ _ ht, Result.andThen, a1, a2, hc]
namespace Reg
variable {L : List (Nat × Fact)} {ops : Array Oper} {w0 : World} {o : Oper} {P : Program}
theorem l_run3W (x y z : Operand) (g : Fact) (u v r : Value) (hx : Has ops (FSof L) o x u) (hy : Has ops (FSof L) o y v) (hz : Has ops (FSof L) o z r)
    (hrun : ∀ (ρ : Operand → Value) (w : World), Grow w0 w → ρ x = u → ρ y = v → ρ z = r → ∃ q w', (execOp ρ o).run P w = .ok (.value q) w' ∧ Grow w w' ∧ g.holds q w') (hd : FD L o.dst = g) : RunOk P ops (FSof L) w0 o := by
  intro a w K Q hG hl hK
  obtain ⟨q, w', h1, h2, h3⟩ := hrun a.eval w hG (hx a w hl) (hy a w hl) (hz a w hl)
  unfold Oper.wp
  rw [h1]
  exact hK q w' h2 (fsd hd h3)
theorem l_add (x y : Operand) (T T' : TypeId) (k : IntKind) (m n r : Int) (ho : o.op = .binOp .add T x y T') (hT : Try.prog.underlying T = some (.int k)) (hx : Has ops (FSof L) o x (.int k m)) (hy : Has ops (FSof L) o y (.int k n)) (hr : k.wrap (m + n) = r) (hd : FD L o.dst = .val (.int k r)) : RunOk Try.prog ops (FSof L) w0 o :=
  run2 x y hx hy (fun ρ w h1 h2 => by subst hr; simp [execOp, ho, h1, h2, go_sem, Result.andThen]) fun _ => fsd hd rfl
theorem l_eqI (x y : Operand) (T T' : TypeId) (k : IntKind) (m n : Int) (b : Bool) (ho : o.op = .binOp .eql T x y T') (hT : Try.prog.underlying T = some (.int k)) (hx : Has ops (FSof L) o x (.int k m)) (hy : Has ops (FSof L) o y (.int k n)) (hb : (m == n) = b) (hd : FD L o.dst = .val (.bool b)) : RunOk Try.prog ops (FSof L) w0 o :=
  run2 x y hx hy (fun ρ w h1 h2 => by subst hb; simp [execOp, ho, h1, h2, go_sem, Result.andThen]) fun _ => fsd hd rfl
theorem l_neI (x y : Operand) (T T' : TypeId) (k : IntKind) (m n : Int) (b : Bool) (ho : o.op = .binOp .neq T x y T') (hT : Try.prog.underlying T = some (.int k)) (hx : Has ops (FSof L) o x (.int k m)) (hy : Has ops (FSof L) o y (.int k n)) (hb : (m != n) = b) (hd : FD L o.dst = .val (.bool b)) : RunOk Try.prog ops (FSof L) w0 o :=
  run2 x y hx hy (fun ρ w h1 h2 => by subst hb; simp [execOp, ho, h1, h2, go_sem, Result.andThen, bne]) fun _ => fsd hd rfl
/-- The address of a slice's byte. -/
theorem l_idxS (x y : Operand) (g q n c k : Nat) (hk : k < n) (ho : o.op = .indexAddr 30 x y) (hx : Has ops (FSof L) o x (.slice (some ⟨g, q, none⟩) n c)) (hy : Has ops (FSof L) o y (.int .i64 (k : Int))) (hd : FD L o.dst = .val (.pointer (some ⟨g, q + k, none⟩))) : RunOk Try.prog ops (FSof L) w0 o := by
  refine run2 x y hx hy (fun ρ w h1 h2 => ?_) fun _ => fsd hd rfl
  have ea : (⟨g, q, none⟩ : Addr).add k = ⟨g, q + k, none⟩ := by cases k <;> simp [Addr.add]
  have k0 : (0 : Int) ≤ (k : Int) := by omega
  have k1 : (k : Int) < (n : Int) := by omega
  simp [execOp, ho, h1, h2, go_sem, hk, k0, k1, Result.andThen, ea, Try.underlying30]
/-- A load whose run is known. -/
theorem l_loadV (x : Operand) (p : Addr) (T : TypeId) (v : Value) (ho : o.op = .load T x) (hx : Has ops (FSof L) o x (.pointer (some p))) (hload : ∀ w, Grow w0 w → (loadVar T p).run P w = .ok v w) (hd : FD L o.dst = .val v) : RunOk P ops (FSof L) w0 o :=
  l_run1W x (.val v) _ hx (fun ρ w hg h => ⟨v, w, by simp only [execOp, ho, h, Instr.loadAt, Instr.sureAddr, Sem.run_bind, Sem.run_pure, Result.andThen_ok, hload w hg], Grow.refl _, rfl⟩) hd
/-- A slice of at least 64 bytes as a pointer to a sector. -/
theorem l_s2a (x : Operand) (g q n c : Nat) (hn : 64 ≤ n) (ho : o.op = .sliceToArrayPointer 236 x) (hx : Has ops (FSof L) o x (.slice (some ⟨g, q, none⟩) n c)) (hd : FD L o.dst = .val (.pointer (some ⟨g, q, none⟩))) : RunOk Try.prog ops (FSof L) w0 o := by
  refine run1 x hx (fun ρ w h => ?_) fun _ => fsd hd rfl
  have hn2 : ¬ n < 64 := by omega
  simp [execOp, ho, h, go_sem, Instr.arrayAt, run_underlying Try.underlying236, Result.andThen, hn2, hn]
theorem l_eqArr (x y : Operand) (T : TypeId) (xs ys : List UInt8) (hx1 : xs.length = 64) (hy1 : ys.length = 64) (ho : o.op = .binOp .eql 236 x y T) (hx : Has ops (FSof L) o x (.agg (xs.map b8).toArray)) (hy : Has ops (FSof L) o y (.agg (ys.map b8).toArray)) (hd : FD L o.dst = .val (.bool (xs == ys))) : RunOk Try.prog ops (FSof L) w0 o := by
  refine run2 x y hx hy (fun ρ w h1 h2 => ?_) fun _ => fsd hd rfl
  have hr : (binOp .eql 236 (.agg (xs.map b8).toArray) (.agg (ys.map b8).toArray)).run Try.prog w = .ok (.bool (xs == ys)) w :=
    run_eql_bytes w 236 5 64 Try.underlying236 Try.underlying5 (fun w => by simp [go_sem]) xs ys hx1 hy1
  have hm : Try.prog.eqGuardType Try.prog.depth 236 = false := by kernel_rfl
  simp only [execOp, ho, h1, h2, Sem.run_bind, run_eqGuard_agg w .eql 236 x y _ _ hm, Result.andThen_ok, hr, Sem.run_pure]
end Reg
end Go.Proofs.Ytlelckdcmlpmdaa
