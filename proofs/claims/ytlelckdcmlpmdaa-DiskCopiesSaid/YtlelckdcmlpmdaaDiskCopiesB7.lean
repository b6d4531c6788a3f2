/- Texts that the proof of DiskCopies leans on, part 7. -/
import Derived.Test.YtlelckdcmlpmdaaDiskCopiesB6
/- disk: Same. -/
namespace Go.Proofs.Ytlelckdcmlpmdaa
open Go Go.RowKit Lou

/-- An operation whose guard isn't met. -/
theorem opU {P : Program} {ops : Array Oper} {Q : Exit → Act → World → Prop} {i : Nat} {o : Oper} {K : Act → World → Prop} {a : Act} {w : World} (ho : ops[i]? = some o) (hw : Region.wanted o (yielded ops a.tmps) = false) (h : K (a.put o.dst undef) w) : wpOp P ops Q i K a w := by
  unfold wpOp
  simp only [ho, hw, Bool.false_eq_true, if_false]
  exact h
/-- A call whose guard is met. -/
theorem opCG {P : Program} {ops : Array Oper} {Q : Exit → Act → World → Prop} {i : Nat} {o : Oper} {K : Act → World → Prop} {a : Act} {w : World} (f : FuncId) (xs : Array Operand) (ts : Array TypeId) (ho : ops[i]? = some o) (hw : Region.wanted o (yielded ops a.tmps) = true) (hc : o.op = .call { callee := .value (.func f), args := xs, argTypes := ts })
    (hent : ∀ args w, (callFunc f args).run P w = .ok (.enter f args) w) (args : Array Value) (ha : xs.map a.eval = args) (h : Calls P f args w fun e w' => ∃ v, e = .returned v ∧ K (a.put o.dst v) w') : wpOp P ops Q i K a w := by
  unfold wpOp
  simp only [ho]
  rw [if_pos hw]
  left
  have hr : (execOp a.eval o).run P w = .ok (.enter f args) w := by
    have ef : a.eval (.func f) = .func (.func f) #[] #[] := rfl
    simp [execOp, hc, resolve, ha, ef, Deferred.ofValue, invoke, hent args w]
  unfold Oper.wp
  rw [hr, Oper.upon_enter]
  refine h.mono ?_
  rintro e w' ⟨v, rfl, hK⟩
  exact hK
theorem InW.grow' {w w' : World} {A : Option Addr} {c : Nat} {xs : List (Nat × List UInt8)} (h : InW w w.heap.size A c xs) (hb : Below w.heap.size w w') : InW w' w'.heap.size A c xs := h.grow hb
section
variable (w : World) (p q many many' : Nat) (g g' : Nat → List UInt8) (xs xs' : List (Nat × List UInt8)) (left left' : Int) (stops stops' : Bool)
set_option maxRecDepth 100000 in
set_option maxHeartbeats 8000000 in
theorem dsame_many (hD : DkIs w p many g xs left stops) (hD' : DkIs w q many' g' xs' left' stops') (hl : xs.length ≤ 1000000) (hne : ¬ many = many') :
    Calls Try.prog 86 #[.pointer (some ⟨p, 0, none⟩), .pointer (some ⟨q, 0, none⟩)] w fun e w' => e = .returned (.bool false) ∧ Below w.heap.size w w' := by
  have h0 : ¬ (many : Int) = (many' : Int) := by omega
  have h0b : ((many : Int) == (many' : Int)) = false := by simpa using h0
  clear hne
  have HN := none_gives w p many g xs left stops hD
  have HN' := none_gives w q many' g' xs' left' stops' hD'
  obtain ⟨r, A, c, hb, hm, hx⟩ := hD.has
  obtain ⟨r', A', c', hb', hm', hx'⟩ := hD'.has
  have hS : ∀ W, Below w.heap.size w W → (W.cell? ⟨p, 0, none⟩ = some (.map (some r)) ∧ W.cell? ⟨p, 1, none⟩ = some (.int .i64 (many : Int)) ∧ W.cell? ⟨p, 2, none⟩ = some (.slice A xs.length c) ∧ W.cell? ⟨p, 3, none⟩ = some (.int .i64 left) ∧ W.cell? ⟨p, 4, none⟩ = some (.bool stops)) ∧ (W.cell? ⟨q, 0, none⟩ = some (.map (some r')) ∧ W.cell? ⟨q, 1, none⟩ = some (.int .i64 (many' : Int)) ∧ W.cell? ⟨q, 2, none⟩ = some (.slice A' xs'.length c') ∧ W.cell? ⟨q, 3, none⟩ = some (.int .i64 left') ∧ W.cell? ⟨q, 4, none⟩ = some (.bool stops')) := fun W hB => by
    have h1 := hb.below hB hb.lt
    have h2 := hb'.below hB hb'.lt
    refine ⟨⟨?_, ?_, ?_, ?_, ?_⟩, ?_, ?_, ?_, ?_, ?_⟩
    · rw [h1.cell]; rfl
    · rw [h1.cell]; rfl
    · rw [h1.cell]; rfl
    · rw [h1.cell]; rfl
    · rw [h1.cell]; rfl
    · rw [h2.cell]; rfl
    · rw [h2.cell]; rfl
    · rw [h2.cell]; rfl
    · rw [h2.cell]; rfl
    · rw [h2.cell]; rfl
  have hBd : Below w.heap.size w w.drew := (Below.refl _ w).drew
  have hSd := hS _ hBd
  go_enter Try.func86, Try.ntmps86
  go_wp2_with (go_at_call 95; first | (with_reducible refine HN.mono ?_; rintro e W9 ⟨rfl, rfl⟩) | (with_reducible refine HN'.mono ?_; rintro e W9 ⟨rfl, rfl⟩))
  refine RegF.start (fun W => (W.cell? ⟨p, 0, none⟩ = some (.map (some r)) ∧ W.cell? ⟨p, 1, none⟩ = some (.int .i64 (many : Int)) ∧ W.cell? ⟨p, 2, none⟩ = some (.slice A xs.length c) ∧ W.cell? ⟨p, 3, none⟩ = some (.int .i64 left) ∧ W.cell? ⟨p, 4, none⟩ = some (.bool stops)) ∧ (W.cell? ⟨q, 0, none⟩ = some (.map (some r')) ∧ W.cell? ⟨q, 1, none⟩ = some (.int .i64 (many' : Int)) ∧ W.cell? ⟨q, 2, none⟩ = some (.slice A' xs'.length c') ∧ W.cell? ⟨q, 3, none⟩ = some (.int .i64 left') ∧ W.cell? ⟨q, 4, none⟩ = some (.bool stops'))) 99 (by kernel_rfl) ?_
  refine RegF.take0 0 (.pointer (some ⟨p, 0, none⟩)) rfl (by kernel_rfl) (by kernel_rfl) (by kernel_rfl) rfl (fun _ _ _ h => h) hSd (RegF.yld rfl (fun W hW => by obtain ⟨⟨k0, k1, k2, k3, k4⟩, j0, j1, j2, j3, j4⟩ := hW; go_simp)) ?_
  simp only [List.getElem_toArray, List.getElem_cons_zero, Act.put, List.setIfInBounds_toArray, List.set_cons_zero, List.set_cons_succ]
  refine RegF.take0 1 (.pointer (some ⟨p, 0, none⟩)) rfl (by kernel_rfl) (by kernel_rfl) (by kernel_rfl) rfl (fun _ _ _ h => h) hSd (RegF.yld rfl (fun W hW => by obtain ⟨⟨k0, k1, k2, k3, k4⟩, j0, j1, j2, j3, j4⟩ := hW; go_simp)) ?_
  simp only [List.getElem_toArray, List.getElem_cons_succ, List.getElem_cons_zero, Act.put, List.setIfInBounds_toArray, List.set_cons_zero, List.set_cons_succ]
  refine RegF.take0 2 (.pointer (some ⟨p, 1, none⟩)) rfl (by kernel_rfl) (by kernel_rfl) (by kernel_rfl) rfl (fun _ _ _ h => h) hSd (RegF.yld rfl (fun W hW => by obtain ⟨⟨k0, k1, k2, k3, k4⟩, j0, j1, j2, j3, j4⟩ := hW; go_simp)) ?_
  simp only [List.getElem_toArray, List.getElem_cons_succ, List.getElem_cons_zero, Act.put, List.setIfInBounds_toArray, List.set_cons_zero, List.set_cons_succ]
  refine RegF.take0 3 (.int .i64 (many : Int)) rfl (by kernel_rfl) (by kernel_rfl) (by kernel_rfl) rfl (fun _ _ _ h => h) hSd (RegF.yld rfl (fun W hW => by obtain ⟨⟨k0, k1, k2, k3, k4⟩, j0, j1, j2, j3, j4⟩ := hW; go_simp)) ?_
  simp only [List.getElem_toArray, List.getElem_cons_succ, List.getElem_cons_zero, Act.put, List.setIfInBounds_toArray, List.set_cons_zero, List.set_cons_succ]
  refine RegF.take0 4 (.pointer (some ⟨q, 0, none⟩)) rfl (by kernel_rfl) (by kernel_rfl) (by kernel_rfl) rfl (fun _ _ _ h => h) hSd (RegF.yld rfl (fun W hW => by obtain ⟨⟨k0, k1, k2, k3, k4⟩, j0, j1, j2, j3, j4⟩ := hW; go_simp)) ?_
  simp only [List.getElem_toArray, List.getElem_cons_succ, List.getElem_cons_zero, Act.put, List.setIfInBounds_toArray, List.set_cons_zero, List.set_cons_succ]
  refine RegF.take0 5 (.pointer (some ⟨q, 0, none⟩)) rfl (by kernel_rfl) (by kernel_rfl) (by kernel_rfl) rfl (fun _ _ _ h => h) hSd (RegF.yld rfl (fun W hW => by obtain ⟨⟨k0, k1, k2, k3, k4⟩, j0, j1, j2, j3, j4⟩ := hW; go_simp)) ?_
  simp only [List.getElem_toArray, List.getElem_cons_succ, List.getElem_cons_zero, Act.put, List.setIfInBounds_toArray, List.set_cons_zero, List.set_cons_succ]
  refine RegF.take0 6 (.pointer (some ⟨q, 1, none⟩)) rfl (by kernel_rfl) (by kernel_rfl) (by kernel_rfl) rfl (fun _ _ _ h => h) hSd (RegF.yld rfl (fun W hW => by obtain ⟨⟨k0, k1, k2, k3, k4⟩, j0, j1, j2, j3, j4⟩ := hW; go_simp)) ?_
  simp only [List.getElem_toArray, List.getElem_cons_succ, List.getElem_cons_zero, Act.put, List.setIfInBounds_toArray, List.set_cons_zero, List.set_cons_succ]
  refine RegF.take0 7 (.int .i64 (many' : Int)) rfl (by kernel_rfl) (by kernel_rfl) (by kernel_rfl) rfl (fun _ _ _ h => h) hSd (RegF.yld rfl (fun W hW => by obtain ⟨⟨k0, k1, k2, k3, k4⟩, j0, j1, j2, j3, j4⟩ := hW; go_simp)) ?_
  simp only [List.getElem_toArray, List.getElem_cons_succ, List.getElem_cons_zero, Act.put, List.setIfInBounds_toArray, List.set_cons_zero, List.set_cons_succ]
  refine RegF.take0 8 (.bool false) rfl (by kernel_rfl) (by kernel_rfl) (by kernel_rfl) rfl (fun _ _ _ h => h) hSd (RegF.yld rfl (fun W hW => by obtain ⟨⟨k0, k1, k2, k3, k4⟩, j0, j1, j2, j3, j4⟩ := hW; go_simp)) ?_
  simp only [List.getElem_toArray, List.getElem_cons_succ, List.getElem_cons_zero, Act.put, List.setIfInBounds_toArray, List.set_cons_zero, List.set_cons_succ]
  refine RegF.take0 9 (.bool false) rfl (by kernel_rfl) (by kernel_rfl) (by kernel_rfl) rfl (fun _ _ _ h => h) hSd (RegF.yld rfl (fun W hW => by obtain ⟨⟨k0, k1, k2, k3, k4⟩, j0, j1, j2, j3, j4⟩ := hW; go_simp)) ?_
  simp only [List.getElem_toArray, List.getElem_cons_succ, List.getElem_cons_zero, Act.put, List.setIfInBounds_toArray, List.set_cons_zero, List.set_cons_succ]
  refine RegF.take0 10 (undef) rfl (by kernel_rfl) (by kernel_rfl) (by kernel_rfl) rfl (fun _ _ _ h => h) hSd (.inr ⟨by first | rfl | simp [Region.wanted, yielded, Act.put], rfl⟩) ?_
  simp only [List.getElem_toArray, List.getElem_cons_succ, List.getElem_cons_zero, Act.put, List.setIfInBounds_toArray, List.set_cons_zero, List.set_cons_succ]
  refine RegF.take0 11 (undef) rfl (by kernel_rfl) (by kernel_rfl) (by kernel_rfl) rfl (fun _ _ _ h => h) hSd (.inr ⟨by first | rfl | simp [Region.wanted, yielded, Act.put], rfl⟩) ?_
  simp only [List.getElem_toArray, List.getElem_cons_succ, List.getElem_cons_zero, Act.put, List.setIfInBounds_toArray, List.set_cons_zero, List.set_cons_succ]
  refine RegF.take0 12 (undef) rfl (by kernel_rfl) (by kernel_rfl) (by kernel_rfl) rfl (fun _ _ _ h => h) hSd (.inr ⟨by first | rfl | simp [Region.wanted, yielded, Act.put], rfl⟩) ?_
  simp only [List.getElem_toArray, List.getElem_cons_succ, List.getElem_cons_zero, Act.put, List.setIfInBounds_toArray, List.set_cons_zero, List.set_cons_succ]
  refine RegF.take0 13 (undef) rfl (by kernel_rfl) (by kernel_rfl) (by kernel_rfl) rfl (fun _ _ _ h => h) hSd (.inr ⟨by first | rfl | simp [Region.wanted, yielded, Act.put], rfl⟩) ?_
  simp only [List.getElem_toArray, List.getElem_cons_succ, List.getElem_cons_zero, Act.put, List.setIfInBounds_toArray, List.set_cons_zero, List.set_cons_succ]
  refine RegF.take0 14 (undef) rfl (by kernel_rfl) (by kernel_rfl) (by kernel_rfl) rfl (fun _ _ _ h => h) hSd (.inr ⟨by first | rfl | simp [Region.wanted, yielded, Act.put], rfl⟩) ?_
  simp only [List.getElem_toArray, List.getElem_cons_succ, List.getElem_cons_zero, Act.put, List.setIfInBounds_toArray, List.set_cons_zero, List.set_cons_succ]
  refine RegF.take0 15 (undef) rfl (by kernel_rfl) (by kernel_rfl) (by kernel_rfl) rfl (fun _ _ _ h => h) hSd (.inr ⟨by first | rfl | simp [Region.wanted, yielded, Act.put], rfl⟩) ?_
  simp only [List.getElem_toArray, List.getElem_cons_succ, List.getElem_cons_zero, Act.put, List.setIfInBounds_toArray, List.set_cons_zero, List.set_cons_succ]
  refine RegF.take0 16 (undef) rfl (by kernel_rfl) (by kernel_rfl) (by kernel_rfl) rfl (fun _ _ _ h => h) hSd (.inr ⟨by first | rfl | simp [Region.wanted, yielded, Act.put], rfl⟩) ?_
  simp only [List.getElem_toArray, List.getElem_cons_succ, List.getElem_cons_zero, Act.put, List.setIfInBounds_toArray, List.set_cons_zero, List.set_cons_succ]
  refine RegF.take0 17 (undef) rfl (by kernel_rfl) (by kernel_rfl) (by kernel_rfl) rfl (fun _ _ _ h => h) hSd (.inr ⟨by first | rfl | simp [Region.wanted, yielded, Act.put], rfl⟩) ?_
  simp only [List.getElem_toArray, List.getElem_cons_succ, List.getElem_cons_zero, Act.put, List.setIfInBounds_toArray, List.set_cons_zero, List.set_cons_succ]
  refine RegF.take0 18 (undef) rfl (by kernel_rfl) (by kernel_rfl) (by kernel_rfl) rfl (fun _ _ _ h => h) hSd (.inr ⟨by first | rfl | simp [Region.wanted, yielded, Act.put], rfl⟩) ?_
  simp only [List.getElem_toArray, List.getElem_cons_succ, List.getElem_cons_zero, Act.put, List.setIfInBounds_toArray, List.set_cons_zero, List.set_cons_succ]
  refine RegF.take0 19 (.bool false) rfl (by kernel_rfl) (by kernel_rfl) (by kernel_rfl) rfl (fun _ _ _ h => h) hSd (RegF.yld rfl (fun W hW => by obtain ⟨⟨k0, k1, k2, k3, k4⟩, j0, j1, j2, j3, j4⟩ := hW; go_simp)) ?_
  simp only [List.getElem_toArray, List.getElem_cons_succ, List.getElem_cons_zero, Act.put, List.setIfInBounds_toArray, List.set_cons_zero, List.set_cons_succ]
  refine RegF.take0 20 (.bool false) rfl (by kernel_rfl) (by kernel_rfl) (by kernel_rfl) rfl (fun _ _ _ h => h) hSd (RegF.yld rfl (fun W hW => by obtain ⟨⟨k0, k1, k2, k3, k4⟩, j0, j1, j2, j3, j4⟩ := hW; go_simp)) ?_
  simp only [List.getElem_toArray, List.getElem_cons_succ, List.getElem_cons_zero, Act.put, List.setIfInBounds_toArray, List.set_cons_zero, List.set_cons_succ]
  refine RegF.take0 21 (undef) rfl (by kernel_rfl) (by kernel_rfl) (by kernel_rfl) rfl (fun _ _ _ h => h) hSd (.inr ⟨by first | rfl | simp [Region.wanted, yielded, Act.put], rfl⟩) ?_
  simp only [List.getElem_toArray, List.getElem_cons_succ, List.getElem_cons_zero, Act.put, List.setIfInBounds_toArray, List.set_cons_zero, List.set_cons_succ]
  refine RegF.take0 22 (undef) rfl (by kernel_rfl) (by kernel_rfl) (by kernel_rfl) rfl (fun _ _ _ h => h) hSd (.inr ⟨by first | rfl | simp [Region.wanted, yielded, Act.put], rfl⟩) ?_
  simp only [List.getElem_toArray, List.getElem_cons_succ, List.getElem_cons_zero, Act.put, List.setIfInBounds_toArray, List.set_cons_zero, List.set_cons_succ]
  refine RegF.take0 23 (undef) rfl (by kernel_rfl) (by kernel_rfl) (by kernel_rfl) rfl (fun _ _ _ h => h) hSd (.inr ⟨by first | rfl | simp [Region.wanted, yielded, Act.put], rfl⟩) ?_
  simp only [List.getElem_toArray, List.getElem_cons_succ, List.getElem_cons_zero, Act.put, List.setIfInBounds_toArray, List.set_cons_zero, List.set_cons_succ]
  refine RegF.take0 24 (undef) rfl (by kernel_rfl) (by kernel_rfl) (by kernel_rfl) rfl (fun _ _ _ h => h) hSd (.inr ⟨by first | rfl | simp [Region.wanted, yielded, Act.put], rfl⟩) ?_
  simp only [List.getElem_toArray, List.getElem_cons_succ, List.getElem_cons_zero, Act.put, List.setIfInBounds_toArray, List.set_cons_zero, List.set_cons_succ]
  refine RegF.take0 25 (undef) rfl (by kernel_rfl) (by kernel_rfl) (by kernel_rfl) rfl (fun _ _ _ h => h) hSd (.inr ⟨by first | rfl | simp [Region.wanted, yielded, Act.put], rfl⟩) ?_
  simp only [List.getElem_toArray, List.getElem_cons_succ, List.getElem_cons_zero, Act.put, List.setIfInBounds_toArray, List.set_cons_zero, List.set_cons_succ]
  refine RegF.take0 26 (undef) rfl (by kernel_rfl) (by kernel_rfl) (by kernel_rfl) rfl (fun _ _ _ h => h) hSd (.inr ⟨by first | rfl | simp [Region.wanted, yielded, Act.put], rfl⟩) ?_
  simp only [List.getElem_toArray, List.getElem_cons_succ, List.getElem_cons_zero, Act.put, List.setIfInBounds_toArray, List.set_cons_zero, List.set_cons_succ]
  refine RegF.take0 27 (undef) rfl (by kernel_rfl) (by kernel_rfl) (by kernel_rfl) rfl (fun _ _ _ h => h) hSd (.inr ⟨by first | rfl | simp [Region.wanted, yielded, Act.put], rfl⟩) ?_
  simp only [List.getElem_toArray, List.getElem_cons_succ, List.getElem_cons_zero, Act.put, List.setIfInBounds_toArray, List.set_cons_zero, List.set_cons_succ]
  refine RegF.take0 28 (undef) rfl (by kernel_rfl) (by kernel_rfl) (by kernel_rfl) rfl (fun _ _ _ h => h) hSd (.inr ⟨by first | rfl | simp [Region.wanted, yielded, Act.put], rfl⟩) ?_
  simp only [List.getElem_toArray, List.getElem_cons_succ, List.getElem_cons_zero, Act.put, List.setIfInBounds_toArray, List.set_cons_zero, List.set_cons_succ]
  refine RegF.take0 29 (undef) rfl (by kernel_rfl) (by kernel_rfl) (by kernel_rfl) rfl (fun _ _ _ h => h) hSd (.inr ⟨by first | rfl | simp [Region.wanted, yielded, Act.put], rfl⟩) ?_
  simp only [List.getElem_toArray, List.getElem_cons_succ, List.getElem_cons_zero, Act.put, List.setIfInBounds_toArray, List.set_cons_zero, List.set_cons_succ]
  refine RegF.take0 30 (.bool false) rfl (by kernel_rfl) (by kernel_rfl) (by kernel_rfl) rfl (fun _ _ _ h => h) hSd (RegF.yld rfl (fun W hW => by obtain ⟨⟨k0, k1, k2, k3, k4⟩, j0, j1, j2, j3, j4⟩ := hW; go_simp)) ?_
  simp only [List.getElem_toArray, List.getElem_cons_succ, List.getElem_cons_zero, Act.put, List.setIfInBounds_toArray, List.set_cons_zero, List.set_cons_succ]
  refine RegF.take0 31 (.bool false) rfl (by kernel_rfl) (by kernel_rfl) (by kernel_rfl) rfl (fun _ _ _ h => h) hSd (RegF.yld rfl (fun W hW => by obtain ⟨⟨k0, k1, k2, k3, k4⟩, j0, j1, j2, j3, j4⟩ := hW; go_simp)) ?_
  simp only [List.getElem_toArray, List.getElem_cons_succ, List.getElem_cons_zero, Act.put, List.setIfInBounds_toArray, List.set_cons_zero, List.set_cons_succ]
  refine RegF.take0 32 (undef) rfl (by kernel_rfl) (by kernel_rfl) (by kernel_rfl) rfl (fun _ _ _ h => h) hSd (.inr ⟨by first | rfl | simp [Region.wanted, yielded, Act.put], rfl⟩) ?_
  simp only [List.getElem_toArray, List.getElem_cons_succ, List.getElem_cons_zero, Act.put, List.setIfInBounds_toArray, List.set_cons_zero, List.set_cons_succ]
  refine RegF.take0 33 (undef) rfl (by kernel_rfl) (by kernel_rfl) (by kernel_rfl) rfl (fun _ _ _ h => h) hSd (.inr ⟨by first | rfl | simp [Region.wanted, yielded, Act.put], rfl⟩) ?_
  simp only [List.getElem_toArray, List.getElem_cons_succ, List.getElem_cons_zero, Act.put, List.setIfInBounds_toArray, List.set_cons_zero, List.set_cons_succ]
  refine RegF.take0 34 (undef) rfl (by kernel_rfl) (by kernel_rfl) (by kernel_rfl) rfl (fun _ _ _ h => h) hSd (.inr ⟨by first | rfl | simp [Region.wanted, yielded, Act.put], rfl⟩) ?_
  simp only [List.getElem_toArray, List.getElem_cons_succ, List.getElem_cons_zero, Act.put, List.setIfInBounds_toArray, List.set_cons_zero, List.set_cons_succ]
  refine RegF.take0 35 (undef) rfl (by kernel_rfl) (by kernel_rfl) (by kernel_rfl) rfl (fun _ _ _ h => h) hSd (.inr ⟨by first | rfl | simp [Region.wanted, yielded, Act.put], rfl⟩) ?_
  simp only [List.getElem_toArray, List.getElem_cons_succ, List.getElem_cons_zero, Act.put, List.setIfInBounds_toArray, List.set_cons_zero, List.set_cons_succ]
  refine RegF.take0 36 (undef) rfl (by kernel_rfl) (by kernel_rfl) (by kernel_rfl) rfl (fun _ _ _ h => h) hSd (.inr ⟨by first | rfl | simp [Region.wanted, yielded, Act.put], rfl⟩) ?_
  simp only [List.getElem_toArray, List.getElem_cons_succ, List.getElem_cons_zero, Act.put, List.setIfInBounds_toArray, List.set_cons_zero, List.set_cons_succ]
  refine RegF.take0 37 (undef) rfl (by kernel_rfl) (by kernel_rfl) (by kernel_rfl) rfl (fun _ _ _ h => h) hSd (.inr ⟨by first | rfl | simp [Region.wanted, yielded, Act.put], rfl⟩) ?_
  simp only [List.getElem_toArray, List.getElem_cons_succ, List.getElem_cons_zero, Act.put, List.setIfInBounds_toArray, List.set_cons_zero, List.set_cons_succ]
  refine RegF.take0 38 (undef) rfl (by kernel_rfl) (by kernel_rfl) (by kernel_rfl) rfl (fun _ _ _ h => h) hSd (.inr ⟨by first | rfl | simp [Region.wanted, yielded, Act.put], rfl⟩) ?_
  simp only [List.getElem_toArray, List.getElem_cons_succ, List.getElem_cons_zero, Act.put, List.setIfInBounds_toArray, List.set_cons_zero, List.set_cons_succ]
  refine RegF.take0 39 (undef) rfl (by kernel_rfl) (by kernel_rfl) (by kernel_rfl) rfl (fun _ _ _ h => h) hSd (.inr ⟨by first | rfl | simp [Region.wanted, yielded, Act.put], rfl⟩) ?_
  simp only [List.getElem_toArray, List.getElem_cons_succ, List.getElem_cons_zero, Act.put, List.setIfInBounds_toArray, List.set_cons_zero, List.set_cons_succ]
  refine RegF.one 40 (by kernel_rfl) ?_
  refine opU rfl (by first | rfl | simp [Region.wanted, yielded, Act.put]) ⟨fun _ => hSd, ?_⟩
  simp only [List.getElem_toArray, List.getElem_cons_succ, List.getElem_cons_zero, Act.put, List.setIfInBounds_toArray, List.set_cons_zero, List.set_cons_succ]
  refine RegF.take0 41 (.bool false) rfl (by kernel_rfl) (by kernel_rfl) (by kernel_rfl) rfl (fun _ _ _ h => h) hSd (RegF.yld rfl (fun W hW => by obtain ⟨⟨k0, k1, k2, k3, k4⟩, j0, j1, j2, j3, j4⟩ := hW; go_simp)) ?_
  simp only [List.getElem_toArray, List.getElem_cons_succ, List.getElem_cons_zero, Act.put, List.setIfInBounds_toArray, List.set_cons_zero, List.set_cons_succ]
  refine RegF.take0 42 (.bool false) rfl (by kernel_rfl) (by kernel_rfl) (by kernel_rfl) rfl (fun _ _ _ h => h) hSd (RegF.yld rfl (fun W hW => by obtain ⟨⟨k0, k1, k2, k3, k4⟩, j0, j1, j2, j3, j4⟩ := hW; go_simp)) ?_
  simp only [List.getElem_toArray, List.getElem_cons_succ, List.getElem_cons_zero, Act.put, List.setIfInBounds_toArray, List.set_cons_zero, List.set_cons_succ]
  refine RegF.take0 43 (undef) rfl (by kernel_rfl) (by kernel_rfl) (by kernel_rfl) rfl (fun _ _ _ h => h) hSd (.inr ⟨by first | rfl | simp [Region.wanted, yielded, Act.put], rfl⟩) ?_
  simp only [List.getElem_toArray, List.getElem_cons_succ, List.getElem_cons_zero, Act.put, List.setIfInBounds_toArray, List.set_cons_zero, List.set_cons_succ]
  refine RegF.take0 44 (undef) rfl (by kernel_rfl) (by kernel_rfl) (by kernel_rfl) rfl (fun _ _ _ h => h) hSd (.inr ⟨by first | rfl | simp [Region.wanted, yielded, Act.put], rfl⟩) ?_
  simp only [List.getElem_toArray, List.getElem_cons_succ, List.getElem_cons_zero, Act.put, List.setIfInBounds_toArray, List.set_cons_zero, List.set_cons_succ]
  refine RegF.take0 45 (undef) rfl (by kernel_rfl) (by kernel_rfl) (by kernel_rfl) rfl (fun _ _ _ h => h) hSd (.inr ⟨by first | rfl | simp [Region.wanted, yielded, Act.put], rfl⟩) ?_
  simp only [List.getElem_toArray, List.getElem_cons_succ, List.getElem_cons_zero, Act.put, List.setIfInBounds_toArray, List.set_cons_zero, List.set_cons_succ]
  refine RegF.take0 46 (undef) rfl (by kernel_rfl) (by kernel_rfl) (by kernel_rfl) rfl (fun _ _ _ h => h) hSd (.inr ⟨by first | rfl | simp [Region.wanted, yielded, Act.put], rfl⟩) ?_
  simp only [List.getElem_toArray, List.getElem_cons_succ, List.getElem_cons_zero, Act.put, List.setIfInBounds_toArray, List.set_cons_zero, List.set_cons_succ]
  refine RegF.take0 47 (undef) rfl (by kernel_rfl) (by kernel_rfl) (by kernel_rfl) rfl (fun _ _ _ h => h) hSd (.inr ⟨by first | rfl | simp [Region.wanted, yielded, Act.put], rfl⟩) ?_
  simp only [List.getElem_toArray, List.getElem_cons_succ, List.getElem_cons_zero, Act.put, List.setIfInBounds_toArray, List.set_cons_zero, List.set_cons_succ]
  refine RegF.take0 48 (undef) rfl (by kernel_rfl) (by kernel_rfl) (by kernel_rfl) rfl (fun _ _ _ h => h) hSd (.inr ⟨by first | rfl | simp [Region.wanted, yielded, Act.put], rfl⟩) ?_
  simp only [List.getElem_toArray, List.getElem_cons_succ, List.getElem_cons_zero, Act.put, List.setIfInBounds_toArray, List.set_cons_zero, List.set_cons_succ]
  refine RegF.take0 49 (undef) rfl (by kernel_rfl) (by kernel_rfl) (by kernel_rfl) rfl (fun _ _ _ h => h) hSd (.inr ⟨by first | rfl | simp [Region.wanted, yielded, Act.put], rfl⟩) ?_
  simp only [List.getElem_toArray, List.getElem_cons_succ, List.getElem_cons_zero, Act.put, List.setIfInBounds_toArray, List.set_cons_zero, List.set_cons_succ]
  refine RegF.take0 50 (undef) rfl (by kernel_rfl) (by kernel_rfl) (by kernel_rfl) rfl (fun _ _ _ h => h) hSd (.inr ⟨by first | rfl | simp [Region.wanted, yielded, Act.put], rfl⟩) ?_
  simp only [List.getElem_toArray, List.getElem_cons_succ, List.getElem_cons_zero, Act.put, List.setIfInBounds_toArray, List.set_cons_zero, List.set_cons_succ]
  refine RegF.one 51 (by kernel_rfl) ?_
  refine opU rfl (by first | rfl | simp [Region.wanted, yielded, Act.put]) ⟨fun _ => hSd, ?_⟩
  simp only [List.getElem_toArray, List.getElem_cons_succ, List.getElem_cons_zero, Act.put, List.setIfInBounds_toArray, List.set_cons_zero, List.set_cons_succ]
  refine RegF.take0 52 (.bool false) rfl (by kernel_rfl) (by kernel_rfl) (by kernel_rfl) rfl (fun _ _ _ h => h) hSd (RegF.yld rfl (fun W hW => by obtain ⟨⟨k0, k1, k2, k3, k4⟩, j0, j1, j2, j3, j4⟩ := hW; go_simp)) ?_
  simp only [List.getElem_toArray, List.getElem_cons_succ, List.getElem_cons_zero, Act.put, List.setIfInBounds_toArray, List.set_cons_zero, List.set_cons_succ]
  refine RegF.one 53 (by kernel_rfl) ?_
  refine RegF.opV (w' := w.drew) (.bool false) rfl rfl (by go_simp) ⟨fun _ => hSd, ?_⟩
  simp only [List.getElem_toArray, List.getElem_cons_succ, List.getElem_cons_zero, Act.put, List.setIfInBounds_toArray, List.set_cons_zero, List.set_cons_succ]
  refine RegF.done (by kernel_rfl) ?_
  go_wp2
  go_ret
  exact ⟨rfl, hBd⟩
set_option maxRecDepth 100000 in
set_option maxHeartbeats 8000000 in
theorem dsame_left (hD : DkIs w p many g xs left stops) (hD' : DkIs w q many g' xs' left' stops') (hl : xs.length ≤ 1000000) (hne : ¬ left = left') :
    Calls Try.prog 86 #[.pointer (some ⟨p, 0, none⟩), .pointer (some ⟨q, 0, none⟩)] w fun e w' => e = .returned (.bool false) ∧ Below w.heap.size w w' := by
  have h0b : (left == left') = false := by simpa using hne
  have HN := none_gives w p many g xs left stops hD
  have HN' := none_gives w q many g' xs' left' stops' hD'
  obtain ⟨r, A, c, hb, hm, hx⟩ := hD.has
  obtain ⟨r', A', c', hb', hm', hx'⟩ := hD'.has
  have hS : ∀ W, Below w.heap.size w W → (W.cell? ⟨p, 0, none⟩ = some (.map (some r)) ∧ W.cell? ⟨p, 1, none⟩ = some (.int .i64 (many : Int)) ∧ W.cell? ⟨p, 2, none⟩ = some (.slice A xs.length c) ∧ W.cell? ⟨p, 3, none⟩ = some (.int .i64 left) ∧ W.cell? ⟨p, 4, none⟩ = some (.bool stops)) ∧ (W.cell? ⟨q, 0, none⟩ = some (.map (some r')) ∧ W.cell? ⟨q, 1, none⟩ = some (.int .i64 (many : Int)) ∧ W.cell? ⟨q, 2, none⟩ = some (.slice A' xs'.length c') ∧ W.cell? ⟨q, 3, none⟩ = some (.int .i64 left') ∧ W.cell? ⟨q, 4, none⟩ = some (.bool stops')) := fun W hB => by
    have h1 := hb.below hB hb.lt
    have h2 := hb'.below hB hb'.lt
    refine ⟨⟨?_, ?_, ?_, ?_, ?_⟩, ?_, ?_, ?_, ?_, ?_⟩
    · rw [h1.cell]; rfl
    · rw [h1.cell]; rfl
    · rw [h1.cell]; rfl
    · rw [h1.cell]; rfl
    · rw [h1.cell]; rfl
    · rw [h2.cell]; rfl
    · rw [h2.cell]; rfl
    · rw [h2.cell]; rfl
    · rw [h2.cell]; rfl
    · rw [h2.cell]; rfl
  have hBd : Below w.heap.size w w.drew := (Below.refl _ w).drew
  have hSd := hS _ hBd
  go_enter Try.func86, Try.ntmps86
  go_wp2_with (go_at_call 95; first | (with_reducible refine HN.mono ?_; rintro e W9 ⟨rfl, rfl⟩) | (with_reducible refine HN'.mono ?_; rintro e W9 ⟨rfl, rfl⟩))
  refine RegF.start (fun W => (W.cell? ⟨p, 0, none⟩ = some (.map (some r)) ∧ W.cell? ⟨p, 1, none⟩ = some (.int .i64 (many : Int)) ∧ W.cell? ⟨p, 2, none⟩ = some (.slice A xs.length c) ∧ W.cell? ⟨p, 3, none⟩ = some (.int .i64 left) ∧ W.cell? ⟨p, 4, none⟩ = some (.bool stops)) ∧ (W.cell? ⟨q, 0, none⟩ = some (.map (some r')) ∧ W.cell? ⟨q, 1, none⟩ = some (.int .i64 (many : Int)) ∧ W.cell? ⟨q, 2, none⟩ = some (.slice A' xs'.length c') ∧ W.cell? ⟨q, 3, none⟩ = some (.int .i64 left') ∧ W.cell? ⟨q, 4, none⟩ = some (.bool stops'))) 99 (by kernel_rfl) ?_
  refine RegF.take0 0 (.pointer (some ⟨p, 0, none⟩)) rfl (by kernel_rfl) (by kernel_rfl) (by kernel_rfl) rfl (fun _ _ _ h => h) hSd (RegF.yld rfl (fun W hW => by obtain ⟨⟨k0, k1, k2, k3, k4⟩, j0, j1, j2, j3, j4⟩ := hW; go_simp)) ?_
  simp only [List.getElem_toArray, List.getElem_cons_zero, Act.put, List.setIfInBounds_toArray, List.set_cons_zero, List.set_cons_succ]
  refine RegF.take0 1 (.pointer (some ⟨p, 0, none⟩)) rfl (by kernel_rfl) (by kernel_rfl) (by kernel_rfl) rfl (fun _ _ _ h => h) hSd (RegF.yld rfl (fun W hW => by obtain ⟨⟨k0, k1, k2, k3, k4⟩, j0, j1, j2, j3, j4⟩ := hW; go_simp)) ?_
  simp only [List.getElem_toArray, List.getElem_cons_succ, List.getElem_cons_zero, Act.put, List.setIfInBounds_toArray, List.set_cons_zero, List.set_cons_succ]
  refine RegF.take0 2 (.pointer (some ⟨p, 1, none⟩)) rfl (by kernel_rfl) (by kernel_rfl) (by kernel_rfl) rfl (fun _ _ _ h => h) hSd (RegF.yld rfl (fun W hW => by obtain ⟨⟨k0, k1, k2, k3, k4⟩, j0, j1, j2, j3, j4⟩ := hW; go_simp)) ?_
  simp only [List.getElem_toArray, List.getElem_cons_succ, List.getElem_cons_zero, Act.put, List.setIfInBounds_toArray, List.set_cons_zero, List.set_cons_succ]
  refine RegF.take0 3 (.int .i64 (many : Int)) rfl (by kernel_rfl) (by kernel_rfl) (by kernel_rfl) rfl (fun _ _ _ h => h) hSd (RegF.yld rfl (fun W hW => by obtain ⟨⟨k0, k1, k2, k3, k4⟩, j0, j1, j2, j3, j4⟩ := hW; go_simp)) ?_
  simp only [List.getElem_toArray, List.getElem_cons_succ, List.getElem_cons_zero, Act.put, List.setIfInBounds_toArray, List.set_cons_zero, List.set_cons_succ]
  refine RegF.take0 4 (.pointer (some ⟨q, 0, none⟩)) rfl (by kernel_rfl) (by kernel_rfl) (by kernel_rfl) rfl (fun _ _ _ h => h) hSd (RegF.yld rfl (fun W hW => by obtain ⟨⟨k0, k1, k2, k3, k4⟩, j0, j1, j2, j3, j4⟩ := hW; go_simp)) ?_
  simp only [List.getElem_toArray, List.getElem_cons_succ, List.getElem_cons_zero, Act.put, List.setIfInBounds_toArray, List.set_cons_zero, List.set_cons_succ]
  refine RegF.take0 5 (.pointer (some ⟨q, 0, none⟩)) rfl (by kernel_rfl) (by kernel_rfl) (by kernel_rfl) rfl (fun _ _ _ h => h) hSd (RegF.yld rfl (fun W hW => by obtain ⟨⟨k0, k1, k2, k3, k4⟩, j0, j1, j2, j3, j4⟩ := hW; go_simp)) ?_
  simp only [List.getElem_toArray, List.getElem_cons_succ, List.getElem_cons_zero, Act.put, List.setIfInBounds_toArray, List.set_cons_zero, List.set_cons_succ]
  refine RegF.take0 6 (.pointer (some ⟨q, 1, none⟩)) rfl (by kernel_rfl) (by kernel_rfl) (by kernel_rfl) rfl (fun _ _ _ h => h) hSd (RegF.yld rfl (fun W hW => by obtain ⟨⟨k0, k1, k2, k3, k4⟩, j0, j1, j2, j3, j4⟩ := hW; go_simp)) ?_
  simp only [List.getElem_toArray, List.getElem_cons_succ, List.getElem_cons_zero, Act.put, List.setIfInBounds_toArray, List.set_cons_zero, List.set_cons_succ]
  refine RegF.take0 7 (.int .i64 (many : Int)) rfl (by kernel_rfl) (by kernel_rfl) (by kernel_rfl) rfl (fun _ _ _ h => h) hSd (RegF.yld rfl (fun W hW => by obtain ⟨⟨k0, k1, k2, k3, k4⟩, j0, j1, j2, j3, j4⟩ := hW; go_simp)) ?_
  simp only [List.getElem_toArray, List.getElem_cons_succ, List.getElem_cons_zero, Act.put, List.setIfInBounds_toArray, List.set_cons_zero, List.set_cons_succ]
  refine RegF.take0 8 (.bool true) rfl (by kernel_rfl) (by kernel_rfl) (by kernel_rfl) rfl (fun _ _ _ h => h) hSd (RegF.yld rfl (fun W hW => by obtain ⟨⟨k0, k1, k2, k3, k4⟩, j0, j1, j2, j3, j4⟩ := hW; go_simp)) ?_
  simp only [List.getElem_toArray, List.getElem_cons_succ, List.getElem_cons_zero, Act.put, List.setIfInBounds_toArray, List.set_cons_zero, List.set_cons_succ]
  refine RegF.take0 9 (.bool true) rfl (by kernel_rfl) (by kernel_rfl) (by kernel_rfl) rfl (fun _ _ _ h => h) hSd (RegF.yld rfl (fun W hW => by obtain ⟨⟨k0, k1, k2, k3, k4⟩, j0, j1, j2, j3, j4⟩ := hW; go_simp)) ?_
  simp only [List.getElem_toArray, List.getElem_cons_succ, List.getElem_cons_zero, Act.put, List.setIfInBounds_toArray, List.set_cons_zero, List.set_cons_succ]
  refine RegF.take0 10 (.pointer (some ⟨p, 0, none⟩)) rfl (by kernel_rfl) (by kernel_rfl) (by kernel_rfl) rfl (fun _ _ _ h => h) hSd (.inl ⟨by first | rfl | simp [Region.wanted, yielded, Act.put], fun W hW => by obtain ⟨⟨k0, k1, k2, k3, k4⟩, j0, j1, j2, j3, j4⟩ := hW; go_simp⟩) ?_
  simp only [List.getElem_toArray, List.getElem_cons_succ, List.getElem_cons_zero, Act.put, List.setIfInBounds_toArray, List.set_cons_zero, List.set_cons_succ]
  refine RegF.take0 11 (.pointer (some ⟨p, 0, none⟩)) rfl (by kernel_rfl) (by kernel_rfl) (by kernel_rfl) rfl (fun _ _ _ h => h) hSd (.inl ⟨by first | rfl | simp [Region.wanted, yielded, Act.put], fun W hW => by obtain ⟨⟨k0, k1, k2, k3, k4⟩, j0, j1, j2, j3, j4⟩ := hW; go_simp⟩) ?_
  simp only [List.getElem_toArray, List.getElem_cons_succ, List.getElem_cons_zero, Act.put, List.setIfInBounds_toArray, List.set_cons_zero, List.set_cons_succ]
  refine RegF.take0 12 (.pointer (some ⟨p, 3, none⟩)) rfl (by kernel_rfl) (by kernel_rfl) (by kernel_rfl) rfl (fun _ _ _ h => h) hSd (.inl ⟨by first | rfl | simp [Region.wanted, yielded, Act.put], fun W hW => by obtain ⟨⟨k0, k1, k2, k3, k4⟩, j0, j1, j2, j3, j4⟩ := hW; go_simp⟩) ?_
  simp only [List.getElem_toArray, List.getElem_cons_succ, List.getElem_cons_zero, Act.put, List.setIfInBounds_toArray, List.set_cons_zero, List.set_cons_succ]
  refine RegF.take0 13 (.int .i64 left) rfl (by kernel_rfl) (by kernel_rfl) (by kernel_rfl) rfl (fun _ _ _ h => h) hSd (.inl ⟨by first | rfl | simp [Region.wanted, yielded, Act.put], fun W hW => by obtain ⟨⟨k0, k1, k2, k3, k4⟩, j0, j1, j2, j3, j4⟩ := hW; go_simp⟩) ?_
  simp only [List.getElem_toArray, List.getElem_cons_succ, List.getElem_cons_zero, Act.put, List.setIfInBounds_toArray, List.set_cons_zero, List.set_cons_succ]
  refine RegF.take0 14 (.pointer (some ⟨q, 0, none⟩)) rfl (by kernel_rfl) (by kernel_rfl) (by kernel_rfl) rfl (fun _ _ _ h => h) hSd (.inl ⟨by first | rfl | simp [Region.wanted, yielded, Act.put], fun W hW => by obtain ⟨⟨k0, k1, k2, k3, k4⟩, j0, j1, j2, j3, j4⟩ := hW; go_simp⟩) ?_
  simp only [List.getElem_toArray, List.getElem_cons_succ, List.getElem_cons_zero, Act.put, List.setIfInBounds_toArray, List.set_cons_zero, List.set_cons_succ]
  refine RegF.take0 15 (.pointer (some ⟨q, 0, none⟩)) rfl (by kernel_rfl) (by kernel_rfl) (by kernel_rfl) rfl (fun _ _ _ h => h) hSd (.inl ⟨by first | rfl | simp [Region.wanted, yielded, Act.put], fun W hW => by obtain ⟨⟨k0, k1, k2, k3, k4⟩, j0, j1, j2, j3, j4⟩ := hW; go_simp⟩) ?_
  simp only [List.getElem_toArray, List.getElem_cons_succ, List.getElem_cons_zero, Act.put, List.setIfInBounds_toArray, List.set_cons_zero, List.set_cons_succ]
  refine RegF.take0 16 (.pointer (some ⟨q, 3, none⟩)) rfl (by kernel_rfl) (by kernel_rfl) (by kernel_rfl) rfl (fun _ _ _ h => h) hSd (.inl ⟨by first | rfl | simp [Region.wanted, yielded, Act.put], fun W hW => by obtain ⟨⟨k0, k1, k2, k3, k4⟩, j0, j1, j2, j3, j4⟩ := hW; go_simp⟩) ?_
  simp only [List.getElem_toArray, List.getElem_cons_succ, List.getElem_cons_zero, Act.put, List.setIfInBounds_toArray, List.set_cons_zero, List.set_cons_succ]
  refine RegF.take0 17 (.int .i64 left') rfl (by kernel_rfl) (by kernel_rfl) (by kernel_rfl) rfl (fun _ _ _ h => h) hSd (.inl ⟨by first | rfl | simp [Region.wanted, yielded, Act.put], fun W hW => by obtain ⟨⟨k0, k1, k2, k3, k4⟩, j0, j1, j2, j3, j4⟩ := hW; go_simp⟩) ?_
  simp only [List.getElem_toArray, List.getElem_cons_succ, List.getElem_cons_zero, Act.put, List.setIfInBounds_toArray, List.set_cons_zero, List.set_cons_succ]
  refine RegF.take0 18 (.bool false) rfl (by kernel_rfl) (by kernel_rfl) (by kernel_rfl) rfl (fun _ _ _ h => h) hSd (.inl ⟨by first | rfl | simp [Region.wanted, yielded, Act.put], fun W hW => by obtain ⟨⟨k0, k1, k2, k3, k4⟩, j0, j1, j2, j3, j4⟩ := hW; go_simp⟩) ?_
  simp only [List.getElem_toArray, List.getElem_cons_succ, List.getElem_cons_zero, Act.put, List.setIfInBounds_toArray, List.set_cons_zero, List.set_cons_succ]
  refine RegF.take0 19 (.bool false) rfl (by kernel_rfl) (by kernel_rfl) (by kernel_rfl) rfl (fun _ _ _ h => h) hSd (RegF.yld rfl (fun W hW => by obtain ⟨⟨k0, k1, k2, k3, k4⟩, j0, j1, j2, j3, j4⟩ := hW; go_simp)) ?_
  simp only [List.getElem_toArray, List.getElem_cons_succ, List.getElem_cons_zero, Act.put, List.setIfInBounds_toArray, List.set_cons_zero, List.set_cons_succ]
  refine RegF.take0 20 (.bool false) rfl (by kernel_rfl) (by kernel_rfl) (by kernel_rfl) rfl (fun _ _ _ h => h) hSd (RegF.yld rfl (fun W hW => by obtain ⟨⟨k0, k1, k2, k3, k4⟩, j0, j1, j2, j3, j4⟩ := hW; go_simp)) ?_
  simp only [List.getElem_toArray, List.getElem_cons_succ, List.getElem_cons_zero, Act.put, List.setIfInBounds_toArray, List.set_cons_zero, List.set_cons_succ]
  refine RegF.take0 21 (undef) rfl (by kernel_rfl) (by kernel_rfl) (by kernel_rfl) rfl (fun _ _ _ h => h) hSd (.inr ⟨by first | rfl | simp [Region.wanted, yielded, Act.put], rfl⟩) ?_
  simp only [List.getElem_toArray, List.getElem_cons_succ, List.getElem_cons_zero, Act.put, List.setIfInBounds_toArray, List.set_cons_zero, List.set_cons_succ]
  refine RegF.take0 22 (undef) rfl (by kernel_rfl) (by kernel_rfl) (by kernel_rfl) rfl (fun _ _ _ h => h) hSd (.inr ⟨by first | rfl | simp [Region.wanted, yielded, Act.put], rfl⟩) ?_
  simp only [List.getElem_toArray, List.getElem_cons_succ, List.getElem_cons_zero, Act.put, List.setIfInBounds_toArray, List.set_cons_zero, List.set_cons_succ]
  refine RegF.take0 23 (undef) rfl (by kernel_rfl) (by kernel_rfl) (by kernel_rfl) rfl (fun _ _ _ h => h) hSd (.inr ⟨by first | rfl | simp [Region.wanted, yielded, Act.put], rfl⟩) ?_
  simp only [List.getElem_toArray, List.getElem_cons_succ, List.getElem_cons_zero, Act.put, List.setIfInBounds_toArray, List.set_cons_zero, List.set_cons_succ]
  refine RegF.take0 24 (undef) rfl (by kernel_rfl) (by kernel_rfl) (by kernel_rfl) rfl (fun _ _ _ h => h) hSd (.inr ⟨by first | rfl | simp [Region.wanted, yielded, Act.put], rfl⟩) ?_
  simp only [List.getElem_toArray, List.getElem_cons_succ, List.getElem_cons_zero, Act.put, List.setIfInBounds_toArray, List.set_cons_zero, List.set_cons_succ]
  refine RegF.take0 25 (undef) rfl (by kernel_rfl) (by kernel_rfl) (by kernel_rfl) rfl (fun _ _ _ h => h) hSd (.inr ⟨by first | rfl | simp [Region.wanted, yielded, Act.put], rfl⟩) ?_
  simp only [List.getElem_toArray, List.getElem_cons_succ, List.getElem_cons_zero, Act.put, List.setIfInBounds_toArray, List.set_cons_zero, List.set_cons_succ]
  refine RegF.take0 26 (undef) rfl (by kernel_rfl) (by kernel_rfl) (by kernel_rfl) rfl (fun _ _ _ h => h) hSd (.inr ⟨by first | rfl | simp [Region.wanted, yielded, Act.put], rfl⟩) ?_
  simp only [List.getElem_toArray, List.getElem_cons_succ, List.getElem_cons_zero, Act.put, List.setIfInBounds_toArray, List.set_cons_zero, List.set_cons_succ]
  refine RegF.take0 27 (undef) rfl (by kernel_rfl) (by kernel_rfl) (by kernel_rfl) rfl (fun _ _ _ h => h) hSd (.inr ⟨by first | rfl | simp [Region.wanted, yielded, Act.put], rfl⟩) ?_
  simp only [List.getElem_toArray, List.getElem_cons_succ, List.getElem_cons_zero, Act.put, List.setIfInBounds_toArray, List.set_cons_zero, List.set_cons_succ]
  refine RegF.take0 28 (undef) rfl (by kernel_rfl) (by kernel_rfl) (by kernel_rfl) rfl (fun _ _ _ h => h) hSd (.inr ⟨by first | rfl | simp [Region.wanted, yielded, Act.put], rfl⟩) ?_
  simp only [List.getElem_toArray, List.getElem_cons_succ, List.getElem_cons_zero, Act.put, List.setIfInBounds_toArray, List.set_cons_zero, List.set_cons_succ]
  refine RegF.take0 29 (undef) rfl (by kernel_rfl) (by kernel_rfl) (by kernel_rfl) rfl (fun _ _ _ h => h) hSd (.inr ⟨by first | rfl | simp [Region.wanted, yielded, Act.put], rfl⟩) ?_
  simp only [List.getElem_toArray, List.getElem_cons_succ, List.getElem_cons_zero, Act.put, List.setIfInBounds_toArray, List.set_cons_zero, List.set_cons_succ]
  refine RegF.take0 30 (.bool false) rfl (by kernel_rfl) (by kernel_rfl) (by kernel_rfl) rfl (fun _ _ _ h => h) hSd (RegF.yld rfl (fun W hW => by obtain ⟨⟨k0, k1, k2, k3, k4⟩, j0, j1, j2, j3, j4⟩ := hW; go_simp)) ?_
  simp only [List.getElem_toArray, List.getElem_cons_succ, List.getElem_cons_zero, Act.put, List.setIfInBounds_toArray, List.set_cons_zero, List.set_cons_succ]
  refine RegF.take0 31 (.bool false) rfl (by kernel_rfl) (by kernel_rfl) (by kernel_rfl) rfl (fun _ _ _ h => h) hSd (RegF.yld rfl (fun W hW => by obtain ⟨⟨k0, k1, k2, k3, k4⟩, j0, j1, j2, j3, j4⟩ := hW; go_simp)) ?_
  simp only [List.getElem_toArray, List.getElem_cons_succ, List.getElem_cons_zero, Act.put, List.setIfInBounds_toArray, List.set_cons_zero, List.set_cons_succ]
  refine RegF.take0 32 (undef) rfl (by kernel_rfl) (by kernel_rfl) (by kernel_rfl) rfl (fun _ _ _ h => h) hSd (.inr ⟨by first | rfl | simp [Region.wanted, yielded, Act.put], rfl⟩) ?_
  simp only [List.getElem_toArray, List.getElem_cons_succ, List.getElem_cons_zero, Act.put, List.setIfInBounds_toArray, List.set_cons_zero, List.set_cons_succ]
  refine RegF.take0 33 (undef) rfl (by kernel_rfl) (by kernel_rfl) (by kernel_rfl) rfl (fun _ _ _ h => h) hSd (.inr ⟨by first | rfl | simp [Region.wanted, yielded, Act.put], rfl⟩) ?_
  simp only [List.getElem_toArray, List.getElem_cons_succ, List.getElem_cons_zero, Act.put, List.setIfInBounds_toArray, List.set_cons_zero, List.set_cons_succ]
  refine RegF.take0 34 (undef) rfl (by kernel_rfl) (by kernel_rfl) (by kernel_rfl) rfl (fun _ _ _ h => h) hSd (.inr ⟨by first | rfl | simp [Region.wanted, yielded, Act.put], rfl⟩) ?_
  simp only [List.getElem_toArray, List.getElem_cons_succ, List.getElem_cons_zero, Act.put, List.setIfInBounds_toArray, List.set_cons_zero, List.set_cons_succ]
  refine RegF.take0 35 (undef) rfl (by kernel_rfl) (by kernel_rfl) (by kernel_rfl) rfl (fun _ _ _ h => h) hSd (.inr ⟨by first | rfl | simp [Region.wanted, yielded, Act.put], rfl⟩) ?_
  simp only [List.getElem_toArray, List.getElem_cons_succ, List.getElem_cons_zero, Act.put, List.setIfInBounds_toArray, List.set_cons_zero, List.set_cons_succ]
  refine RegF.take0 36 (undef) rfl (by kernel_rfl) (by kernel_rfl) (by kernel_rfl) rfl (fun _ _ _ h => h) hSd (.inr ⟨by first | rfl | simp [Region.wanted, yielded, Act.put], rfl⟩) ?_
  simp only [List.getElem_toArray, List.getElem_cons_succ, List.getElem_cons_zero, Act.put, List.setIfInBounds_toArray, List.set_cons_zero, List.set_cons_succ]
  refine RegF.take0 37 (undef) rfl (by kernel_rfl) (by kernel_rfl) (by kernel_rfl) rfl (fun _ _ _ h => h) hSd (.inr ⟨by first | rfl | simp [Region.wanted, yielded, Act.put], rfl⟩) ?_
  simp only [List.getElem_toArray, List.getElem_cons_succ, List.getElem_cons_zero, Act.put, List.setIfInBounds_toArray, List.set_cons_zero, List.set_cons_succ]
  refine RegF.take0 38 (undef) rfl (by kernel_rfl) (by kernel_rfl) (by kernel_rfl) rfl (fun _ _ _ h => h) hSd (.inr ⟨by first | rfl | simp [Region.wanted, yielded, Act.put], rfl⟩) ?_
  simp only [List.getElem_toArray, List.getElem_cons_succ, List.getElem_cons_zero, Act.put, List.setIfInBounds_toArray, List.set_cons_zero, List.set_cons_succ]
  refine RegF.take0 39 (undef) rfl (by kernel_rfl) (by kernel_rfl) (by kernel_rfl) rfl (fun _ _ _ h => h) hSd (.inr ⟨by first | rfl | simp [Region.wanted, yielded, Act.put], rfl⟩) ?_
  simp only [List.getElem_toArray, List.getElem_cons_succ, List.getElem_cons_zero, Act.put, List.setIfInBounds_toArray, List.set_cons_zero, List.set_cons_succ]
  refine RegF.one 40 (by kernel_rfl) ?_
  refine opU rfl (by first | rfl | simp [Region.wanted, yielded, Act.put]) ⟨fun _ => hSd, ?_⟩
  simp only [List.getElem_toArray, List.getElem_cons_succ, List.getElem_cons_zero, Act.put, List.setIfInBounds_toArray, List.set_cons_zero, List.set_cons_succ]
  refine RegF.take0 41 (.bool false) rfl (by kernel_rfl) (by kernel_rfl) (by kernel_rfl) rfl (fun _ _ _ h => h) hSd (RegF.yld rfl (fun W hW => by obtain ⟨⟨k0, k1, k2, k3, k4⟩, j0, j1, j2, j3, j4⟩ := hW; go_simp)) ?_
  simp only [List.getElem_toArray, List.getElem_cons_succ, List.getElem_cons_zero, Act.put, List.setIfInBounds_toArray, List.set_cons_zero, List.set_cons_succ]
  refine RegF.take0 42 (.bool false) rfl (by kernel_rfl) (by kernel_rfl) (by kernel_rfl) rfl (fun _ _ _ h => h) hSd (RegF.yld rfl (fun W hW => by obtain ⟨⟨k0, k1, k2, k3, k4⟩, j0, j1, j2, j3, j4⟩ := hW; go_simp)) ?_
  simp only [List.getElem_toArray, List.getElem_cons_succ, List.getElem_cons_zero, Act.put, List.setIfInBounds_toArray, List.set_cons_zero, List.set_cons_succ]
  refine RegF.take0 43 (undef) rfl (by kernel_rfl) (by kernel_rfl) (by kernel_rfl) rfl (fun _ _ _ h => h) hSd (.inr ⟨by first | rfl | simp [Region.wanted, yielded, Act.put], rfl⟩) ?_
  simp only [List.getElem_toArray, List.getElem_cons_succ, List.getElem_cons_zero, Act.put, List.setIfInBounds_toArray, List.set_cons_zero, List.set_cons_succ]
  refine RegF.take0 44 (undef) rfl (by kernel_rfl) (by kernel_rfl) (by kernel_rfl) rfl (fun _ _ _ h => h) hSd (.inr ⟨by first | rfl | simp [Region.wanted, yielded, Act.put], rfl⟩) ?_
  simp only [List.getElem_toArray, List.getElem_cons_succ, List.getElem_cons_zero, Act.put, List.setIfInBounds_toArray, List.set_cons_zero, List.set_cons_succ]
  refine RegF.take0 45 (undef) rfl (by kernel_rfl) (by kernel_rfl) (by kernel_rfl) rfl (fun _ _ _ h => h) hSd (.inr ⟨by first | rfl | simp [Region.wanted, yielded, Act.put], rfl⟩) ?_
  simp only [List.getElem_toArray, List.getElem_cons_succ, List.getElem_cons_zero, Act.put, List.setIfInBounds_toArray, List.set_cons_zero, List.set_cons_succ]
  refine RegF.take0 46 (undef) rfl (by kernel_rfl) (by kernel_rfl) (by kernel_rfl) rfl (fun _ _ _ h => h) hSd (.inr ⟨by first | rfl | simp [Region.wanted, yielded, Act.put], rfl⟩) ?_
  simp only [List.getElem_toArray, List.getElem_cons_succ, List.getElem_cons_zero, Act.put, List.setIfInBounds_toArray, List.set_cons_zero, List.set_cons_succ]
  refine RegF.take0 47 (undef) rfl (by kernel_rfl) (by kernel_rfl) (by kernel_rfl) rfl (fun _ _ _ h => h) hSd (.inr ⟨by first | rfl | simp [Region.wanted, yielded, Act.put], rfl⟩) ?_
  simp only [List.getElem_toArray, List.getElem_cons_succ, List.getElem_cons_zero, Act.put, List.setIfInBounds_toArray, List.set_cons_zero, List.set_cons_succ]
  refine RegF.take0 48 (undef) rfl (by kernel_rfl) (by kernel_rfl) (by kernel_rfl) rfl (fun _ _ _ h => h) hSd (.inr ⟨by first | rfl | simp [Region.wanted, yielded, Act.put], rfl⟩) ?_
  simp only [List.getElem_toArray, List.getElem_cons_succ, List.getElem_cons_zero, Act.put, List.setIfInBounds_toArray, List.set_cons_zero, List.set_cons_succ]
  refine RegF.take0 49 (undef) rfl (by kernel_rfl) (by kernel_rfl) (by kernel_rfl) rfl (fun _ _ _ h => h) hSd (.inr ⟨by first | rfl | simp [Region.wanted, yielded, Act.put], rfl⟩) ?_
  simp only [List.getElem_toArray, List.getElem_cons_succ, List.getElem_cons_zero, Act.put, List.setIfInBounds_toArray, List.set_cons_zero, List.set_cons_succ]
  refine RegF.take0 50 (undef) rfl (by kernel_rfl) (by kernel_rfl) (by kernel_rfl) rfl (fun _ _ _ h => h) hSd (.inr ⟨by first | rfl | simp [Region.wanted, yielded, Act.put], rfl⟩) ?_
  simp only [List.getElem_toArray, List.getElem_cons_succ, List.getElem_cons_zero, Act.put, List.setIfInBounds_toArray, List.set_cons_zero, List.set_cons_succ]
  refine RegF.one 51 (by kernel_rfl) ?_
  refine opU rfl (by first | rfl | simp [Region.wanted, yielded, Act.put]) ⟨fun _ => hSd, ?_⟩
  simp only [List.getElem_toArray, List.getElem_cons_succ, List.getElem_cons_zero, Act.put, List.setIfInBounds_toArray, List.set_cons_zero, List.set_cons_succ]
  refine RegF.take0 52 (.bool false) rfl (by kernel_rfl) (by kernel_rfl) (by kernel_rfl) rfl (fun _ _ _ h => h) hSd (RegF.yld rfl (fun W hW => by obtain ⟨⟨k0, k1, k2, k3, k4⟩, j0, j1, j2, j3, j4⟩ := hW; go_simp)) ?_
  simp only [List.getElem_toArray, List.getElem_cons_succ, List.getElem_cons_zero, Act.put, List.setIfInBounds_toArray, List.set_cons_zero, List.set_cons_succ]
  refine RegF.one 53 (by kernel_rfl) ?_
  refine RegF.opV (w' := w.drew) (.bool false) rfl rfl (by go_simp) ⟨fun _ => hSd, ?_⟩
  simp only [List.getElem_toArray, List.getElem_cons_succ, List.getElem_cons_zero, Act.put, List.setIfInBounds_toArray, List.set_cons_zero, List.set_cons_succ]
  refine RegF.done (by kernel_rfl) ?_
  go_wp2
  go_ret
  exact ⟨rfl, hBd⟩
set_option maxRecDepth 100000 in
set_option maxHeartbeats 8000000 in
theorem dsame_stops (hD : DkIs w p many g xs left stops) (hD' : DkIs w q many g' xs' left stops') (hl : xs.length ≤ 1000000) (hne : ¬ stops = stops') :
    Calls Try.prog 86 #[.pointer (some ⟨p, 0, none⟩), .pointer (some ⟨q, 0, none⟩)] w fun e w' => e = .returned (.bool false) ∧ Below w.heap.size w w' := by
  have h0b : (stops == stops') = false := by simpa using hne
  have HN := none_gives w p many g xs left stops hD
  have HN' := none_gives w q many g' xs' left stops' hD'
  obtain ⟨r, A, c, hb, hm, hx⟩ := hD.has
  obtain ⟨r', A', c', hb', hm', hx'⟩ := hD'.has
  have hS : ∀ W, Below w.heap.size w W → (W.cell? ⟨p, 0, none⟩ = some (.map (some r)) ∧ W.cell? ⟨p, 1, none⟩ = some (.int .i64 (many : Int)) ∧ W.cell? ⟨p, 2, none⟩ = some (.slice A xs.length c) ∧ W.cell? ⟨p, 3, none⟩ = some (.int .i64 left) ∧ W.cell? ⟨p, 4, none⟩ = some (.bool stops)) ∧ (W.cell? ⟨q, 0, none⟩ = some (.map (some r')) ∧ W.cell? ⟨q, 1, none⟩ = some (.int .i64 (many : Int)) ∧ W.cell? ⟨q, 2, none⟩ = some (.slice A' xs'.length c') ∧ W.cell? ⟨q, 3, none⟩ = some (.int .i64 left) ∧ W.cell? ⟨q, 4, none⟩ = some (.bool stops')) := fun W hB => by
    have h1 := hb.below hB hb.lt
    have h2 := hb'.below hB hb'.lt
    refine ⟨⟨?_, ?_, ?_, ?_, ?_⟩, ?_, ?_, ?_, ?_, ?_⟩
    · rw [h1.cell]; rfl
    · rw [h1.cell]; rfl
    · rw [h1.cell]; rfl
    · rw [h1.cell]; rfl
    · rw [h1.cell]; rfl
    · rw [h2.cell]; rfl
    · rw [h2.cell]; rfl
    · rw [h2.cell]; rfl
    · rw [h2.cell]; rfl
    · rw [h2.cell]; rfl
  have hBd : Below w.heap.size w w.drew := (Below.refl _ w).drew
  have hSd := hS _ hBd
  go_enter Try.func86, Try.ntmps86
  go_wp2_with (go_at_call 95; first | (with_reducible refine HN.mono ?_; rintro e W9 ⟨rfl, rfl⟩) | (with_reducible refine HN'.mono ?_; rintro e W9 ⟨rfl, rfl⟩))
  refine RegF.start (fun W => (W.cell? ⟨p, 0, none⟩ = some (.map (some r)) ∧ W.cell? ⟨p, 1, none⟩ = some (.int .i64 (many : Int)) ∧ W.cell? ⟨p, 2, none⟩ = some (.slice A xs.length c) ∧ W.cell? ⟨p, 3, none⟩ = some (.int .i64 left) ∧ W.cell? ⟨p, 4, none⟩ = some (.bool stops)) ∧ (W.cell? ⟨q, 0, none⟩ = some (.map (some r')) ∧ W.cell? ⟨q, 1, none⟩ = some (.int .i64 (many : Int)) ∧ W.cell? ⟨q, 2, none⟩ = some (.slice A' xs'.length c') ∧ W.cell? ⟨q, 3, none⟩ = some (.int .i64 left) ∧ W.cell? ⟨q, 4, none⟩ = some (.bool stops'))) 99 (by kernel_rfl) ?_
  refine RegF.take0 0 (.pointer (some ⟨p, 0, none⟩)) rfl (by kernel_rfl) (by kernel_rfl) (by kernel_rfl) rfl (fun _ _ _ h => h) hSd (RegF.yld rfl (fun W hW => by obtain ⟨⟨k0, k1, k2, k3, k4⟩, j0, j1, j2, j3, j4⟩ := hW; go_simp)) ?_
  simp only [List.getElem_toArray, List.getElem_cons_zero, Act.put, List.setIfInBounds_toArray, List.set_cons_zero, List.set_cons_succ]
  refine RegF.take0 1 (.pointer (some ⟨p, 0, none⟩)) rfl (by kernel_rfl) (by kernel_rfl) (by kernel_rfl) rfl (fun _ _ _ h => h) hSd (RegF.yld rfl (fun W hW => by obtain ⟨⟨k0, k1, k2, k3, k4⟩, j0, j1, j2, j3, j4⟩ := hW; go_simp)) ?_
  simp only [List.getElem_toArray, List.getElem_cons_succ, List.getElem_cons_zero, Act.put, List.setIfInBounds_toArray, List.set_cons_zero, List.set_cons_succ]
  refine RegF.take0 2 (.pointer (some ⟨p, 1, none⟩)) rfl (by kernel_rfl) (by kernel_rfl) (by kernel_rfl) rfl (fun _ _ _ h => h) hSd (RegF.yld rfl (fun W hW => by obtain ⟨⟨k0, k1, k2, k3, k4⟩, j0, j1, j2, j3, j4⟩ := hW; go_simp)) ?_
  simp only [List.getElem_toArray, List.getElem_cons_succ, List.getElem_cons_zero, Act.put, List.setIfInBounds_toArray, List.set_cons_zero, List.set_cons_succ]
  refine RegF.take0 3 (.int .i64 (many : Int)) rfl (by kernel_rfl) (by kernel_rfl) (by kernel_rfl) rfl (fun _ _ _ h => h) hSd (RegF.yld rfl (fun W hW => by obtain ⟨⟨k0, k1, k2, k3, k4⟩, j0, j1, j2, j3, j4⟩ := hW; go_simp)) ?_
  simp only [List.getElem_toArray, List.getElem_cons_succ, List.getElem_cons_zero, Act.put, List.setIfInBounds_toArray, List.set_cons_zero, List.set_cons_succ]
  refine RegF.take0 4 (.pointer (some ⟨q, 0, none⟩)) rfl (by kernel_rfl) (by kernel_rfl) (by kernel_rfl) rfl (fun _ _ _ h => h) hSd (RegF.yld rfl (fun W hW => by obtain ⟨⟨k0, k1, k2, k3, k4⟩, j0, j1, j2, j3, j4⟩ := hW; go_simp)) ?_
  simp only [List.getElem_toArray, List.getElem_cons_succ, List.getElem_cons_zero, Act.put, List.setIfInBounds_toArray, List.set_cons_zero, List.set_cons_succ]
  refine RegF.take0 5 (.pointer (some ⟨q, 0, none⟩)) rfl (by kernel_rfl) (by kernel_rfl) (by kernel_rfl) rfl (fun _ _ _ h => h) hSd (RegF.yld rfl (fun W hW => by obtain ⟨⟨k0, k1, k2, k3, k4⟩, j0, j1, j2, j3, j4⟩ := hW; go_simp)) ?_
  simp only [List.getElem_toArray, List.getElem_cons_succ, List.getElem_cons_zero, Act.put, List.setIfInBounds_toArray, List.set_cons_zero, List.set_cons_succ]
  refine RegF.take0 6 (.pointer (some ⟨q, 1, none⟩)) rfl (by kernel_rfl) (by kernel_rfl) (by kernel_rfl) rfl (fun _ _ _ h => h) hSd (RegF.yld rfl (fun W hW => by obtain ⟨⟨k0, k1, k2, k3, k4⟩, j0, j1, j2, j3, j4⟩ := hW; go_simp)) ?_
  simp only [List.getElem_toArray, List.getElem_cons_succ, List.getElem_cons_zero, Act.put, List.setIfInBounds_toArray, List.set_cons_zero, List.set_cons_succ]
  refine RegF.take0 7 (.int .i64 (many : Int)) rfl (by kernel_rfl) (by kernel_rfl) (by kernel_rfl) rfl (fun _ _ _ h => h) hSd (RegF.yld rfl (fun W hW => by obtain ⟨⟨k0, k1, k2, k3, k4⟩, j0, j1, j2, j3, j4⟩ := hW; go_simp)) ?_
  simp only [List.getElem_toArray, List.getElem_cons_succ, List.getElem_cons_zero, Act.put, List.setIfInBounds_toArray, List.set_cons_zero, List.set_cons_succ]
  refine RegF.take0 8 (.bool true) rfl (by kernel_rfl) (by kernel_rfl) (by kernel_rfl) rfl (fun _ _ _ h => h) hSd (RegF.yld rfl (fun W hW => by obtain ⟨⟨k0, k1, k2, k3, k4⟩, j0, j1, j2, j3, j4⟩ := hW; go_simp)) ?_
  simp only [List.getElem_toArray, List.getElem_cons_succ, List.getElem_cons_zero, Act.put, List.setIfInBounds_toArray, List.set_cons_zero, List.set_cons_succ]
  refine RegF.take0 9 (.bool true) rfl (by kernel_rfl) (by kernel_rfl) (by kernel_rfl) rfl (fun _ _ _ h => h) hSd (RegF.yld rfl (fun W hW => by obtain ⟨⟨k0, k1, k2, k3, k4⟩, j0, j1, j2, j3, j4⟩ := hW; go_simp)) ?_
  simp only [List.getElem_toArray, List.getElem_cons_succ, List.getElem_cons_zero, Act.put, List.setIfInBounds_toArray, List.set_cons_zero, List.set_cons_succ]
  refine RegF.take0 10 (.pointer (some ⟨p, 0, none⟩)) rfl (by kernel_rfl) (by kernel_rfl) (by kernel_rfl) rfl (fun _ _ _ h => h) hSd (.inl ⟨by first | rfl | simp [Region.wanted, yielded, Act.put], fun W hW => by obtain ⟨⟨k0, k1, k2, k3, k4⟩, j0, j1, j2, j3, j4⟩ := hW; go_simp⟩) ?_
  simp only [List.getElem_toArray, List.getElem_cons_succ, List.getElem_cons_zero, Act.put, List.setIfInBounds_toArray, List.set_cons_zero, List.set_cons_succ]
  refine RegF.take0 11 (.pointer (some ⟨p, 0, none⟩)) rfl (by kernel_rfl) (by kernel_rfl) (by kernel_rfl) rfl (fun _ _ _ h => h) hSd (.inl ⟨by first | rfl | simp [Region.wanted, yielded, Act.put], fun W hW => by obtain ⟨⟨k0, k1, k2, k3, k4⟩, j0, j1, j2, j3, j4⟩ := hW; go_simp⟩) ?_
  simp only [List.getElem_toArray, List.getElem_cons_succ, List.getElem_cons_zero, Act.put, List.setIfInBounds_toArray, List.set_cons_zero, List.set_cons_succ]
  refine RegF.take0 12 (.pointer (some ⟨p, 3, none⟩)) rfl (by kernel_rfl) (by kernel_rfl) (by kernel_rfl) rfl (fun _ _ _ h => h) hSd (.inl ⟨by first | rfl | simp [Region.wanted, yielded, Act.put], fun W hW => by obtain ⟨⟨k0, k1, k2, k3, k4⟩, j0, j1, j2, j3, j4⟩ := hW; go_simp⟩) ?_
  simp only [List.getElem_toArray, List.getElem_cons_succ, List.getElem_cons_zero, Act.put, List.setIfInBounds_toArray, List.set_cons_zero, List.set_cons_succ]
  refine RegF.take0 13 (.int .i64 left) rfl (by kernel_rfl) (by kernel_rfl) (by kernel_rfl) rfl (fun _ _ _ h => h) hSd (.inl ⟨by first | rfl | simp [Region.wanted, yielded, Act.put], fun W hW => by obtain ⟨⟨k0, k1, k2, k3, k4⟩, j0, j1, j2, j3, j4⟩ := hW; go_simp⟩) ?_
  simp only [List.getElem_toArray, List.getElem_cons_succ, List.getElem_cons_zero, Act.put, List.setIfInBounds_toArray, List.set_cons_zero, List.set_cons_succ]
  refine RegF.take0 14 (.pointer (some ⟨q, 0, none⟩)) rfl (by kernel_rfl) (by kernel_rfl) (by kernel_rfl) rfl (fun _ _ _ h => h) hSd (.inl ⟨by first | rfl | simp [Region.wanted, yielded, Act.put], fun W hW => by obtain ⟨⟨k0, k1, k2, k3, k4⟩, j0, j1, j2, j3, j4⟩ := hW; go_simp⟩) ?_
  simp only [List.getElem_toArray, List.getElem_cons_succ, List.getElem_cons_zero, Act.put, List.setIfInBounds_toArray, List.set_cons_zero, List.set_cons_succ]
  refine RegF.take0 15 (.pointer (some ⟨q, 0, none⟩)) rfl (by kernel_rfl) (by kernel_rfl) (by kernel_rfl) rfl (fun _ _ _ h => h) hSd (.inl ⟨by first | rfl | simp [Region.wanted, yielded, Act.put], fun W hW => by obtain ⟨⟨k0, k1, k2, k3, k4⟩, j0, j1, j2, j3, j4⟩ := hW; go_simp⟩) ?_
  simp only [List.getElem_toArray, List.getElem_cons_succ, List.getElem_cons_zero, Act.put, List.setIfInBounds_toArray, List.set_cons_zero, List.set_cons_succ]
  refine RegF.take0 16 (.pointer (some ⟨q, 3, none⟩)) rfl (by kernel_rfl) (by kernel_rfl) (by kernel_rfl) rfl (fun _ _ _ h => h) hSd (.inl ⟨by first | rfl | simp [Region.wanted, yielded, Act.put], fun W hW => by obtain ⟨⟨k0, k1, k2, k3, k4⟩, j0, j1, j2, j3, j4⟩ := hW; go_simp⟩) ?_
  simp only [List.getElem_toArray, List.getElem_cons_succ, List.getElem_cons_zero, Act.put, List.setIfInBounds_toArray, List.set_cons_zero, List.set_cons_succ]
  refine RegF.take0 17 (.int .i64 left) rfl (by kernel_rfl) (by kernel_rfl) (by kernel_rfl) rfl (fun _ _ _ h => h) hSd (.inl ⟨by first | rfl | simp [Region.wanted, yielded, Act.put], fun W hW => by obtain ⟨⟨k0, k1, k2, k3, k4⟩, j0, j1, j2, j3, j4⟩ := hW; go_simp⟩) ?_
  simp only [List.getElem_toArray, List.getElem_cons_succ, List.getElem_cons_zero, Act.put, List.setIfInBounds_toArray, List.set_cons_zero, List.set_cons_succ]
  refine RegF.take0 18 (.bool true) rfl (by kernel_rfl) (by kernel_rfl) (by kernel_rfl) rfl (fun _ _ _ h => h) hSd (.inl ⟨by first | rfl | simp [Region.wanted, yielded, Act.put], fun W hW => by obtain ⟨⟨k0, k1, k2, k3, k4⟩, j0, j1, j2, j3, j4⟩ := hW; go_simp⟩) ?_
  simp only [List.getElem_toArray, List.getElem_cons_succ, List.getElem_cons_zero, Act.put, List.setIfInBounds_toArray, List.set_cons_zero, List.set_cons_succ]
  refine RegF.take0 19 (.bool true) rfl (by kernel_rfl) (by kernel_rfl) (by kernel_rfl) rfl (fun _ _ _ h => h) hSd (RegF.yld rfl (fun W hW => by obtain ⟨⟨k0, k1, k2, k3, k4⟩, j0, j1, j2, j3, j4⟩ := hW; go_simp)) ?_
  simp only [List.getElem_toArray, List.getElem_cons_succ, List.getElem_cons_zero, Act.put, List.setIfInBounds_toArray, List.set_cons_zero, List.set_cons_succ]
  refine RegF.take0 20 (.bool true) rfl (by kernel_rfl) (by kernel_rfl) (by kernel_rfl) rfl (fun _ _ _ h => h) hSd (RegF.yld rfl (fun W hW => by obtain ⟨⟨k0, k1, k2, k3, k4⟩, j0, j1, j2, j3, j4⟩ := hW; go_simp)) ?_
  simp only [List.getElem_toArray, List.getElem_cons_succ, List.getElem_cons_zero, Act.put, List.setIfInBounds_toArray, List.set_cons_zero, List.set_cons_succ]
  refine RegF.take0 21 (.pointer (some ⟨p, 0, none⟩)) rfl (by kernel_rfl) (by kernel_rfl) (by kernel_rfl) rfl (fun _ _ _ h => h) hSd (.inl ⟨by first | rfl | simp [Region.wanted, yielded, Act.put], fun W hW => by obtain ⟨⟨k0, k1, k2, k3, k4⟩, j0, j1, j2, j3, j4⟩ := hW; go_simp⟩) ?_
  simp only [List.getElem_toArray, List.getElem_cons_succ, List.getElem_cons_zero, Act.put, List.setIfInBounds_toArray, List.set_cons_zero, List.set_cons_succ]
  refine RegF.take0 22 (.pointer (some ⟨p, 0, none⟩)) rfl (by kernel_rfl) (by kernel_rfl) (by kernel_rfl) rfl (fun _ _ _ h => h) hSd (.inl ⟨by first | rfl | simp [Region.wanted, yielded, Act.put], fun W hW => by obtain ⟨⟨k0, k1, k2, k3, k4⟩, j0, j1, j2, j3, j4⟩ := hW; go_simp⟩) ?_
  simp only [List.getElem_toArray, List.getElem_cons_succ, List.getElem_cons_zero, Act.put, List.setIfInBounds_toArray, List.set_cons_zero, List.set_cons_succ]
  refine RegF.take0 23 (.pointer (some ⟨p, 4, none⟩)) rfl (by kernel_rfl) (by kernel_rfl) (by kernel_rfl) rfl (fun _ _ _ h => h) hSd (.inl ⟨by first | rfl | simp [Region.wanted, yielded, Act.put], fun W hW => by obtain ⟨⟨k0, k1, k2, k3, k4⟩, j0, j1, j2, j3, j4⟩ := hW; go_simp⟩) ?_
  simp only [List.getElem_toArray, List.getElem_cons_succ, List.getElem_cons_zero, Act.put, List.setIfInBounds_toArray, List.set_cons_zero, List.set_cons_succ]
  refine RegF.take0 24 (.bool stops) rfl (by kernel_rfl) (by kernel_rfl) (by kernel_rfl) rfl (fun _ _ _ h => h) hSd (.inl ⟨by first | rfl | simp [Region.wanted, yielded, Act.put], fun W hW => by obtain ⟨⟨k0, k1, k2, k3, k4⟩, j0, j1, j2, j3, j4⟩ := hW; go_simp⟩) ?_
  simp only [List.getElem_toArray, List.getElem_cons_succ, List.getElem_cons_zero, Act.put, List.setIfInBounds_toArray, List.set_cons_zero, List.set_cons_succ]
  refine RegF.take0 25 (.pointer (some ⟨q, 0, none⟩)) rfl (by kernel_rfl) (by kernel_rfl) (by kernel_rfl) rfl (fun _ _ _ h => h) hSd (.inl ⟨by first | rfl | simp [Region.wanted, yielded, Act.put], fun W hW => by obtain ⟨⟨k0, k1, k2, k3, k4⟩, j0, j1, j2, j3, j4⟩ := hW; go_simp⟩) ?_
  simp only [List.getElem_toArray, List.getElem_cons_succ, List.getElem_cons_zero, Act.put, List.setIfInBounds_toArray, List.set_cons_zero, List.set_cons_succ]
  refine RegF.take0 26 (.pointer (some ⟨q, 0, none⟩)) rfl (by kernel_rfl) (by kernel_rfl) (by kernel_rfl) rfl (fun _ _ _ h => h) hSd (.inl ⟨by first | rfl | simp [Region.wanted, yielded, Act.put], fun W hW => by obtain ⟨⟨k0, k1, k2, k3, k4⟩, j0, j1, j2, j3, j4⟩ := hW; go_simp⟩) ?_
  simp only [List.getElem_toArray, List.getElem_cons_succ, List.getElem_cons_zero, Act.put, List.setIfInBounds_toArray, List.set_cons_zero, List.set_cons_succ]
  refine RegF.take0 27 (.pointer (some ⟨q, 4, none⟩)) rfl (by kernel_rfl) (by kernel_rfl) (by kernel_rfl) rfl (fun _ _ _ h => h) hSd (.inl ⟨by first | rfl | simp [Region.wanted, yielded, Act.put], fun W hW => by obtain ⟨⟨k0, k1, k2, k3, k4⟩, j0, j1, j2, j3, j4⟩ := hW; go_simp⟩) ?_
  simp only [List.getElem_toArray, List.getElem_cons_succ, List.getElem_cons_zero, Act.put, List.setIfInBounds_toArray, List.set_cons_zero, List.set_cons_succ]
  refine RegF.take0 28 (.bool stops') rfl (by kernel_rfl) (by kernel_rfl) (by kernel_rfl) rfl (fun _ _ _ h => h) hSd (.inl ⟨by first | rfl | simp [Region.wanted, yielded, Act.put], fun W hW => by obtain ⟨⟨k0, k1, k2, k3, k4⟩, j0, j1, j2, j3, j4⟩ := hW; go_simp⟩) ?_
  simp only [List.getElem_toArray, List.getElem_cons_succ, List.getElem_cons_zero, Act.put, List.setIfInBounds_toArray, List.set_cons_zero, List.set_cons_succ]
  refine RegF.take0 29 (.bool false) rfl (by kernel_rfl) (by kernel_rfl) (by kernel_rfl) rfl (fun _ _ _ h => h) hSd (.inl ⟨by first | rfl | simp [Region.wanted, yielded, Act.put], fun W hW => by obtain ⟨⟨k0, k1, k2, k3, k4⟩, j0, j1, j2, j3, j4⟩ := hW; go_simp⟩) ?_
  simp only [List.getElem_toArray, List.getElem_cons_succ, List.getElem_cons_zero, Act.put, List.setIfInBounds_toArray, List.set_cons_zero, List.set_cons_succ]
  refine RegF.take0 30 (.bool false) rfl (by kernel_rfl) (by kernel_rfl) (by kernel_rfl) rfl (fun _ _ _ h => h) hSd (RegF.yld rfl (fun W hW => by obtain ⟨⟨k0, k1, k2, k3, k4⟩, j0, j1, j2, j3, j4⟩ := hW; go_simp)) ?_
  simp only [List.getElem_toArray, List.getElem_cons_succ, List.getElem_cons_zero, Act.put, List.setIfInBounds_toArray, List.set_cons_zero, List.set_cons_succ]
  refine RegF.take0 31 (.bool false) rfl (by kernel_rfl) (by kernel_rfl) (by kernel_rfl) rfl (fun _ _ _ h => h) hSd (RegF.yld rfl (fun W hW => by obtain ⟨⟨k0, k1, k2, k3, k4⟩, j0, j1, j2, j3, j4⟩ := hW; go_simp)) ?_
  simp only [List.getElem_toArray, List.getElem_cons_succ, List.getElem_cons_zero, Act.put, List.setIfInBounds_toArray, List.set_cons_zero, List.set_cons_succ]
  refine RegF.take0 32 (undef) rfl (by kernel_rfl) (by kernel_rfl) (by kernel_rfl) rfl (fun _ _ _ h => h) hSd (.inr ⟨by first | rfl | simp [Region.wanted, yielded, Act.put], rfl⟩) ?_
  simp only [List.getElem_toArray, List.getElem_cons_succ, List.getElem_cons_zero, Act.put, List.setIfInBounds_toArray, List.set_cons_zero, List.set_cons_succ]
  refine RegF.take0 33 (undef) rfl (by kernel_rfl) (by kernel_rfl) (by kernel_rfl) rfl (fun _ _ _ h => h) hSd (.inr ⟨by first | rfl | simp [Region.wanted, yielded, Act.put], rfl⟩) ?_
  simp only [List.getElem_toArray, List.getElem_cons_succ, List.getElem_cons_zero, Act.put, List.setIfInBounds_toArray, List.set_cons_zero, List.set_cons_succ]
  refine RegF.take0 34 (undef) rfl (by kernel_rfl) (by kernel_rfl) (by kernel_rfl) rfl (fun _ _ _ h => h) hSd (.inr ⟨by first | rfl | simp [Region.wanted, yielded, Act.put], rfl⟩) ?_
  simp only [List.getElem_toArray, List.getElem_cons_succ, List.getElem_cons_zero, Act.put, List.setIfInBounds_toArray, List.set_cons_zero, List.set_cons_succ]
  refine RegF.take0 35 (undef) rfl (by kernel_rfl) (by kernel_rfl) (by kernel_rfl) rfl (fun _ _ _ h => h) hSd (.inr ⟨by first | rfl | simp [Region.wanted, yielded, Act.put], rfl⟩) ?_
  simp only [List.getElem_toArray, List.getElem_cons_succ, List.getElem_cons_zero, Act.put, List.setIfInBounds_toArray, List.set_cons_zero, List.set_cons_succ]
  refine RegF.take0 36 (undef) rfl (by kernel_rfl) (by kernel_rfl) (by kernel_rfl) rfl (fun _ _ _ h => h) hSd (.inr ⟨by first | rfl | simp [Region.wanted, yielded, Act.put], rfl⟩) ?_
  simp only [List.getElem_toArray, List.getElem_cons_succ, List.getElem_cons_zero, Act.put, List.setIfInBounds_toArray, List.set_cons_zero, List.set_cons_succ]
  refine RegF.take0 37 (undef) rfl (by kernel_rfl) (by kernel_rfl) (by kernel_rfl) rfl (fun _ _ _ h => h) hSd (.inr ⟨by first | rfl | simp [Region.wanted, yielded, Act.put], rfl⟩) ?_
  simp only [List.getElem_toArray, List.getElem_cons_succ, List.getElem_cons_zero, Act.put, List.setIfInBounds_toArray, List.set_cons_zero, List.set_cons_succ]
  refine RegF.take0 38 (undef) rfl (by kernel_rfl) (by kernel_rfl) (by kernel_rfl) rfl (fun _ _ _ h => h) hSd (.inr ⟨by first | rfl | simp [Region.wanted, yielded, Act.put], rfl⟩) ?_
  simp only [List.getElem_toArray, List.getElem_cons_succ, List.getElem_cons_zero, Act.put, List.setIfInBounds_toArray, List.set_cons_zero, List.set_cons_succ]
  refine RegF.take0 39 (undef) rfl (by kernel_rfl) (by kernel_rfl) (by kernel_rfl) rfl (fun _ _ _ h => h) hSd (.inr ⟨by first | rfl | simp [Region.wanted, yielded, Act.put], rfl⟩) ?_
  simp only [List.getElem_toArray, List.getElem_cons_succ, List.getElem_cons_zero, Act.put, List.setIfInBounds_toArray, List.set_cons_zero, List.set_cons_succ]
  refine RegF.one 40 (by kernel_rfl) ?_
  refine opU rfl (by first | rfl | simp [Region.wanted, yielded, Act.put]) ⟨fun _ => hSd, ?_⟩
  simp only [List.getElem_toArray, List.getElem_cons_succ, List.getElem_cons_zero, Act.put, List.setIfInBounds_toArray, List.set_cons_zero, List.set_cons_succ]
  refine RegF.take0 41 (.bool false) rfl (by kernel_rfl) (by kernel_rfl) (by kernel_rfl) rfl (fun _ _ _ h => h) hSd (RegF.yld rfl (fun W hW => by obtain ⟨⟨k0, k1, k2, k3, k4⟩, j0, j1, j2, j3, j4⟩ := hW; go_simp)) ?_
  simp only [List.getElem_toArray, List.getElem_cons_succ, List.getElem_cons_zero, Act.put, List.setIfInBounds_toArray, List.set_cons_zero, List.set_cons_succ]
  refine RegF.take0 42 (.bool false) rfl (by kernel_rfl) (by kernel_rfl) (by kernel_rfl) rfl (fun _ _ _ h => h) hSd (RegF.yld rfl (fun W hW => by obtain ⟨⟨k0, k1, k2, k3, k4⟩, j0, j1, j2, j3, j4⟩ := hW; go_simp)) ?_
  simp only [List.getElem_toArray, List.getElem_cons_succ, List.getElem_cons_zero, Act.put, List.setIfInBounds_toArray, List.set_cons_zero, List.set_cons_succ]
  refine RegF.take0 43 (undef) rfl (by kernel_rfl) (by kernel_rfl) (by kernel_rfl) rfl (fun _ _ _ h => h) hSd (.inr ⟨by first | rfl | simp [Region.wanted, yielded, Act.put], rfl⟩) ?_
  simp only [List.getElem_toArray, List.getElem_cons_succ, List.getElem_cons_zero, Act.put, List.setIfInBounds_toArray, List.set_cons_zero, List.set_cons_succ]
  refine RegF.take0 44 (undef) rfl (by kernel_rfl) (by kernel_rfl) (by kernel_rfl) rfl (fun _ _ _ h => h) hSd (.inr ⟨by first | rfl | simp [Region.wanted, yielded, Act.put], rfl⟩) ?_
  simp only [List.getElem_toArray, List.getElem_cons_succ, List.getElem_cons_zero, Act.put, List.setIfInBounds_toArray, List.set_cons_zero, List.set_cons_succ]
  refine RegF.take0 45 (undef) rfl (by kernel_rfl) (by kernel_rfl) (by kernel_rfl) rfl (fun _ _ _ h => h) hSd (.inr ⟨by first | rfl | simp [Region.wanted, yielded, Act.put], rfl⟩) ?_
  simp only [List.getElem_toArray, List.getElem_cons_succ, List.getElem_cons_zero, Act.put, List.setIfInBounds_toArray, List.set_cons_zero, List.set_cons_succ]
  refine RegF.take0 46 (undef) rfl (by kernel_rfl) (by kernel_rfl) (by kernel_rfl) rfl (fun _ _ _ h => h) hSd (.inr ⟨by first | rfl | simp [Region.wanted, yielded, Act.put], rfl⟩) ?_
  simp only [List.getElem_toArray, List.getElem_cons_succ, List.getElem_cons_zero, Act.put, List.setIfInBounds_toArray, List.set_cons_zero, List.set_cons_succ]
  refine RegF.take0 47 (undef) rfl (by kernel_rfl) (by kernel_rfl) (by kernel_rfl) rfl (fun _ _ _ h => h) hSd (.inr ⟨by first | rfl | simp [Region.wanted, yielded, Act.put], rfl⟩) ?_
  simp only [List.getElem_toArray, List.getElem_cons_succ, List.getElem_cons_zero, Act.put, List.setIfInBounds_toArray, List.set_cons_zero, List.set_cons_succ]
  refine RegF.take0 48 (undef) rfl (by kernel_rfl) (by kernel_rfl) (by kernel_rfl) rfl (fun _ _ _ h => h) hSd (.inr ⟨by first | rfl | simp [Region.wanted, yielded, Act.put], rfl⟩) ?_
  simp only [List.getElem_toArray, List.getElem_cons_succ, List.getElem_cons_zero, Act.put, List.setIfInBounds_toArray, List.set_cons_zero, List.set_cons_succ]
  refine RegF.take0 49 (undef) rfl (by kernel_rfl) (by kernel_rfl) (by kernel_rfl) rfl (fun _ _ _ h => h) hSd (.inr ⟨by first | rfl | simp [Region.wanted, yielded, Act.put], rfl⟩) ?_
  simp only [List.getElem_toArray, List.getElem_cons_succ, List.getElem_cons_zero, Act.put, List.setIfInBounds_toArray, List.set_cons_zero, List.set_cons_succ]
  refine RegF.take0 50 (undef) rfl (by kernel_rfl) (by kernel_rfl) (by kernel_rfl) rfl (fun _ _ _ h => h) hSd (.inr ⟨by first | rfl | simp [Region.wanted, yielded, Act.put], rfl⟩) ?_
  simp only [List.getElem_toArray, List.getElem_cons_succ, List.getElem_cons_zero, Act.put, List.setIfInBounds_toArray, List.set_cons_zero, List.set_cons_succ]
  refine RegF.one 51 (by kernel_rfl) ?_
  refine opU rfl (by first | rfl | simp [Region.wanted, yielded, Act.put]) ⟨fun _ => hSd, ?_⟩
  simp only [List.getElem_toArray, List.getElem_cons_succ, List.getElem_cons_zero, Act.put, List.setIfInBounds_toArray, List.set_cons_zero, List.set_cons_succ]
  refine RegF.take0 52 (.bool false) rfl (by kernel_rfl) (by kernel_rfl) (by kernel_rfl) rfl (fun _ _ _ h => h) hSd (RegF.yld rfl (fun W hW => by obtain ⟨⟨k0, k1, k2, k3, k4⟩, j0, j1, j2, j3, j4⟩ := hW; go_simp)) ?_
  simp only [List.getElem_toArray, List.getElem_cons_succ, List.getElem_cons_zero, Act.put, List.setIfInBounds_toArray, List.set_cons_zero, List.set_cons_succ]
  refine RegF.one 53 (by kernel_rfl) ?_
  refine RegF.opV (w' := w.drew) (.bool false) rfl rfl (by go_simp) ⟨fun _ => hSd, ?_⟩
  simp only [List.getElem_toArray, List.getElem_cons_succ, List.getElem_cons_zero, Act.put, List.setIfInBounds_toArray, List.set_cons_zero, List.set_cons_succ]
  refine RegF.done (by kernel_rfl) ?_
  go_wp2
  go_ret
  exact ⟨rfl, hBd⟩
set_option maxRecDepth 100000 in
set_option maxHeartbeats 8000000 in
theorem dsame_maps (hD : DkIs w p many g xs left stops) (hD' : DkIs w q many g' xs' left stops) (hl : xs.length ≤ 1000000) (hg : ¬ ∀ k, g k = g' k) :
    Calls Try.prog 86 #[.pointer (some ⟨p, 0, none⟩), .pointer (some ⟨q, 0, none⟩)] w fun e w' => e = .returned (.bool false) ∧ Below w.heap.size w w' := by
  have HN := none_gives w p many g xs left stops hD
  have HN' := none_gives w q many g' xs' left stops hD'
  obtain ⟨r, A, c, hb, hm, hx⟩ := hD.has
  obtain ⟨r', A', c', hb', hm', hx'⟩ := hD'.has
  have hS : ∀ W, Below w.heap.size w W → (W.cell? ⟨p, 0, none⟩ = some (.map (some r)) ∧ W.cell? ⟨p, 1, none⟩ = some (.int .i64 (many : Int)) ∧ W.cell? ⟨p, 2, none⟩ = some (.slice A xs.length c) ∧ W.cell? ⟨p, 3, none⟩ = some (.int .i64 left) ∧ W.cell? ⟨p, 4, none⟩ = some (.bool stops)) ∧ (W.cell? ⟨q, 0, none⟩ = some (.map (some r')) ∧ W.cell? ⟨q, 1, none⟩ = some (.int .i64 (many : Int)) ∧ W.cell? ⟨q, 2, none⟩ = some (.slice A' xs'.length c') ∧ W.cell? ⟨q, 3, none⟩ = some (.int .i64 left) ∧ W.cell? ⟨q, 4, none⟩ = some (.bool stops)) := fun W hB => by
    have h1 := hb.below hB hb.lt
    have h2 := hb'.below hB hb'.lt
    refine ⟨⟨?_, ?_, ?_, ?_, ?_⟩, ?_, ?_, ?_, ?_, ?_⟩
    · rw [h1.cell]; rfl
    · rw [h1.cell]; rfl
    · rw [h1.cell]; rfl
    · rw [h1.cell]; rfl
    · rw [h1.cell]; rfl
    · rw [h2.cell]; rfl
    · rw [h2.cell]; rfl
    · rw [h2.cell]; rfl
    · rw [h2.cell]; rfl
    · rw [h2.cell]; rfl
  have hBd : Below w.heap.size w w.drew := (Below.refl _ w).drew
  have hSd := hS _ hBd
  go_enter Try.func86, Try.ntmps86
  go_wp2_with (go_at_call 95; first | (with_reducible refine HN.mono ?_; rintro e W9 ⟨rfl, rfl⟩) | (with_reducible refine HN'.mono ?_; rintro e W9 ⟨rfl, rfl⟩))
  refine RegF.start (fun W => (W.cell? ⟨p, 0, none⟩ = some (.map (some r)) ∧ W.cell? ⟨p, 1, none⟩ = some (.int .i64 (many : Int)) ∧ W.cell? ⟨p, 2, none⟩ = some (.slice A xs.length c) ∧ W.cell? ⟨p, 3, none⟩ = some (.int .i64 left) ∧ W.cell? ⟨p, 4, none⟩ = some (.bool stops)) ∧ (W.cell? ⟨q, 0, none⟩ = some (.map (some r')) ∧ W.cell? ⟨q, 1, none⟩ = some (.int .i64 (many : Int)) ∧ W.cell? ⟨q, 2, none⟩ = some (.slice A' xs'.length c') ∧ W.cell? ⟨q, 3, none⟩ = some (.int .i64 left) ∧ W.cell? ⟨q, 4, none⟩ = some (.bool stops))) 99 (by kernel_rfl) ?_
  refine RegF.take0 0 (.pointer (some ⟨p, 0, none⟩)) rfl (by kernel_rfl) (by kernel_rfl) (by kernel_rfl) rfl (fun _ _ _ h => h) hSd (RegF.yld rfl (fun W hW => by obtain ⟨⟨k0, k1, k2, k3, k4⟩, j0, j1, j2, j3, j4⟩ := hW; go_simp)) ?_
  simp only [List.getElem_toArray, List.getElem_cons_zero, Act.put, List.setIfInBounds_toArray, List.set_cons_zero, List.set_cons_succ]
  refine RegF.take0 1 (.pointer (some ⟨p, 0, none⟩)) rfl (by kernel_rfl) (by kernel_rfl) (by kernel_rfl) rfl (fun _ _ _ h => h) hSd (RegF.yld rfl (fun W hW => by obtain ⟨⟨k0, k1, k2, k3, k4⟩, j0, j1, j2, j3, j4⟩ := hW; go_simp)) ?_
  simp only [List.getElem_toArray, List.getElem_cons_succ, List.getElem_cons_zero, Act.put, List.setIfInBounds_toArray, List.set_cons_zero, List.set_cons_succ]
  refine RegF.take0 2 (.pointer (some ⟨p, 1, none⟩)) rfl (by kernel_rfl) (by kernel_rfl) (by kernel_rfl) rfl (fun _ _ _ h => h) hSd (RegF.yld rfl (fun W hW => by obtain ⟨⟨k0, k1, k2, k3, k4⟩, j0, j1, j2, j3, j4⟩ := hW; go_simp)) ?_
  simp only [List.getElem_toArray, List.getElem_cons_succ, List.getElem_cons_zero, Act.put, List.setIfInBounds_toArray, List.set_cons_zero, List.set_cons_succ]
  refine RegF.take0 3 (.int .i64 (many : Int)) rfl (by kernel_rfl) (by kernel_rfl) (by kernel_rfl) rfl (fun _ _ _ h => h) hSd (RegF.yld rfl (fun W hW => by obtain ⟨⟨k0, k1, k2, k3, k4⟩, j0, j1, j2, j3, j4⟩ := hW; go_simp)) ?_
  simp only [List.getElem_toArray, List.getElem_cons_succ, List.getElem_cons_zero, Act.put, List.setIfInBounds_toArray, List.set_cons_zero, List.set_cons_succ]
  refine RegF.take0 4 (.pointer (some ⟨q, 0, none⟩)) rfl (by kernel_rfl) (by kernel_rfl) (by kernel_rfl) rfl (fun _ _ _ h => h) hSd (RegF.yld rfl (fun W hW => by obtain ⟨⟨k0, k1, k2, k3, k4⟩, j0, j1, j2, j3, j4⟩ := hW; go_simp)) ?_
  simp only [List.getElem_toArray, List.getElem_cons_succ, List.getElem_cons_zero, Act.put, List.setIfInBounds_toArray, List.set_cons_zero, List.set_cons_succ]
  refine RegF.take0 5 (.pointer (some ⟨q, 0, none⟩)) rfl (by kernel_rfl) (by kernel_rfl) (by kernel_rfl) rfl (fun _ _ _ h => h) hSd (RegF.yld rfl (fun W hW => by obtain ⟨⟨k0, k1, k2, k3, k4⟩, j0, j1, j2, j3, j4⟩ := hW; go_simp)) ?_
  simp only [List.getElem_toArray, List.getElem_cons_succ, List.getElem_cons_zero, Act.put, List.setIfInBounds_toArray, List.set_cons_zero, List.set_cons_succ]
  refine RegF.take0 6 (.pointer (some ⟨q, 1, none⟩)) rfl (by kernel_rfl) (by kernel_rfl) (by kernel_rfl) rfl (fun _ _ _ h => h) hSd (RegF.yld rfl (fun W hW => by obtain ⟨⟨k0, k1, k2, k3, k4⟩, j0, j1, j2, j3, j4⟩ := hW; go_simp)) ?_
  simp only [List.getElem_toArray, List.getElem_cons_succ, List.getElem_cons_zero, Act.put, List.setIfInBounds_toArray, List.set_cons_zero, List.set_cons_succ]
  refine RegF.take0 7 (.int .i64 (many : Int)) rfl (by kernel_rfl) (by kernel_rfl) (by kernel_rfl) rfl (fun _ _ _ h => h) hSd (RegF.yld rfl (fun W hW => by obtain ⟨⟨k0, k1, k2, k3, k4⟩, j0, j1, j2, j3, j4⟩ := hW; go_simp)) ?_
  simp only [List.getElem_toArray, List.getElem_cons_succ, List.getElem_cons_zero, Act.put, List.setIfInBounds_toArray, List.set_cons_zero, List.set_cons_succ]
  refine RegF.take0 8 (.bool true) rfl (by kernel_rfl) (by kernel_rfl) (by kernel_rfl) rfl (fun _ _ _ h => h) hSd (RegF.yld rfl (fun W hW => by obtain ⟨⟨k0, k1, k2, k3, k4⟩, j0, j1, j2, j3, j4⟩ := hW; go_simp)) ?_
  simp only [List.getElem_toArray, List.getElem_cons_succ, List.getElem_cons_zero, Act.put, List.setIfInBounds_toArray, List.set_cons_zero, List.set_cons_succ]
  refine RegF.take0 9 (.bool true) rfl (by kernel_rfl) (by kernel_rfl) (by kernel_rfl) rfl (fun _ _ _ h => h) hSd (RegF.yld rfl (fun W hW => by obtain ⟨⟨k0, k1, k2, k3, k4⟩, j0, j1, j2, j3, j4⟩ := hW; go_simp)) ?_
  simp only [List.getElem_toArray, List.getElem_cons_succ, List.getElem_cons_zero, Act.put, List.setIfInBounds_toArray, List.set_cons_zero, List.set_cons_succ]
  refine RegF.take0 10 (.pointer (some ⟨p, 0, none⟩)) rfl (by kernel_rfl) (by kernel_rfl) (by kernel_rfl) rfl (fun _ _ _ h => h) hSd (.inl ⟨by first | rfl | simp [Region.wanted, yielded, Act.put], fun W hW => by obtain ⟨⟨k0, k1, k2, k3, k4⟩, j0, j1, j2, j3, j4⟩ := hW; go_simp⟩) ?_
  simp only [List.getElem_toArray, List.getElem_cons_succ, List.getElem_cons_zero, Act.put, List.setIfInBounds_toArray, List.set_cons_zero, List.set_cons_succ]
  refine RegF.take0 11 (.pointer (some ⟨p, 0, none⟩)) rfl (by kernel_rfl) (by kernel_rfl) (by kernel_rfl) rfl (fun _ _ _ h => h) hSd (.inl ⟨by first | rfl | simp [Region.wanted, yielded, Act.put], fun W hW => by obtain ⟨⟨k0, k1, k2, k3, k4⟩, j0, j1, j2, j3, j4⟩ := hW; go_simp⟩) ?_
  simp only [List.getElem_toArray, List.getElem_cons_succ, List.getElem_cons_zero, Act.put, List.setIfInBounds_toArray, List.set_cons_zero, List.set_cons_succ]
  refine RegF.take0 12 (.pointer (some ⟨p, 3, none⟩)) rfl (by kernel_rfl) (by kernel_rfl) (by kernel_rfl) rfl (fun _ _ _ h => h) hSd (.inl ⟨by first | rfl | simp [Region.wanted, yielded, Act.put], fun W hW => by obtain ⟨⟨k0, k1, k2, k3, k4⟩, j0, j1, j2, j3, j4⟩ := hW; go_simp⟩) ?_
  simp only [List.getElem_toArray, List.getElem_cons_succ, List.getElem_cons_zero, Act.put, List.setIfInBounds_toArray, List.set_cons_zero, List.set_cons_succ]
  refine RegF.take0 13 (.int .i64 left) rfl (by kernel_rfl) (by kernel_rfl) (by kernel_rfl) rfl (fun _ _ _ h => h) hSd (.inl ⟨by first | rfl | simp [Region.wanted, yielded, Act.put], fun W hW => by obtain ⟨⟨k0, k1, k2, k3, k4⟩, j0, j1, j2, j3, j4⟩ := hW; go_simp⟩) ?_
  simp only [List.getElem_toArray, List.getElem_cons_succ, List.getElem_cons_zero, Act.put, List.setIfInBounds_toArray, List.set_cons_zero, List.set_cons_succ]
  refine RegF.take0 14 (.pointer (some ⟨q, 0, none⟩)) rfl (by kernel_rfl) (by kernel_rfl) (by kernel_rfl) rfl (fun _ _ _ h => h) hSd (.inl ⟨by first | rfl | simp [Region.wanted, yielded, Act.put], fun W hW => by obtain ⟨⟨k0, k1, k2, k3, k4⟩, j0, j1, j2, j3, j4⟩ := hW; go_simp⟩) ?_
  simp only [List.getElem_toArray, List.getElem_cons_succ, List.getElem_cons_zero, Act.put, List.setIfInBounds_toArray, List.set_cons_zero, List.set_cons_succ]
  refine RegF.take0 15 (.pointer (some ⟨q, 0, none⟩)) rfl (by kernel_rfl) (by kernel_rfl) (by kernel_rfl) rfl (fun _ _ _ h => h) hSd (.inl ⟨by first | rfl | simp [Region.wanted, yielded, Act.put], fun W hW => by obtain ⟨⟨k0, k1, k2, k3, k4⟩, j0, j1, j2, j3, j4⟩ := hW; go_simp⟩) ?_
  simp only [List.getElem_toArray, List.getElem_cons_succ, List.getElem_cons_zero, Act.put, List.setIfInBounds_toArray, List.set_cons_zero, List.set_cons_succ]
  refine RegF.take0 16 (.pointer (some ⟨q, 3, none⟩)) rfl (by kernel_rfl) (by kernel_rfl) (by kernel_rfl) rfl (fun _ _ _ h => h) hSd (.inl ⟨by first | rfl | simp [Region.wanted, yielded, Act.put], fun W hW => by obtain ⟨⟨k0, k1, k2, k3, k4⟩, j0, j1, j2, j3, j4⟩ := hW; go_simp⟩) ?_
  simp only [List.getElem_toArray, List.getElem_cons_succ, List.getElem_cons_zero, Act.put, List.setIfInBounds_toArray, List.set_cons_zero, List.set_cons_succ]
  refine RegF.take0 17 (.int .i64 left) rfl (by kernel_rfl) (by kernel_rfl) (by kernel_rfl) rfl (fun _ _ _ h => h) hSd (.inl ⟨by first | rfl | simp [Region.wanted, yielded, Act.put], fun W hW => by obtain ⟨⟨k0, k1, k2, k3, k4⟩, j0, j1, j2, j3, j4⟩ := hW; go_simp⟩) ?_
  simp only [List.getElem_toArray, List.getElem_cons_succ, List.getElem_cons_zero, Act.put, List.setIfInBounds_toArray, List.set_cons_zero, List.set_cons_succ]
  refine RegF.take0 18 (.bool true) rfl (by kernel_rfl) (by kernel_rfl) (by kernel_rfl) rfl (fun _ _ _ h => h) hSd (.inl ⟨by first | rfl | simp [Region.wanted, yielded, Act.put], fun W hW => by obtain ⟨⟨k0, k1, k2, k3, k4⟩, j0, j1, j2, j3, j4⟩ := hW; go_simp⟩) ?_
  simp only [List.getElem_toArray, List.getElem_cons_succ, List.getElem_cons_zero, Act.put, List.setIfInBounds_toArray, List.set_cons_zero, List.set_cons_succ]
  refine RegF.take0 19 (.bool true) rfl (by kernel_rfl) (by kernel_rfl) (by kernel_rfl) rfl (fun _ _ _ h => h) hSd (RegF.yld rfl (fun W hW => by obtain ⟨⟨k0, k1, k2, k3, k4⟩, j0, j1, j2, j3, j4⟩ := hW; go_simp)) ?_
  simp only [List.getElem_toArray, List.getElem_cons_succ, List.getElem_cons_zero, Act.put, List.setIfInBounds_toArray, List.set_cons_zero, List.set_cons_succ]
  refine RegF.take0 20 (.bool true) rfl (by kernel_rfl) (by kernel_rfl) (by kernel_rfl) rfl (fun _ _ _ h => h) hSd (RegF.yld rfl (fun W hW => by obtain ⟨⟨k0, k1, k2, k3, k4⟩, j0, j1, j2, j3, j4⟩ := hW; go_simp)) ?_
  simp only [List.getElem_toArray, List.getElem_cons_succ, List.getElem_cons_zero, Act.put, List.setIfInBounds_toArray, List.set_cons_zero, List.set_cons_succ]
  refine RegF.take0 21 (.pointer (some ⟨p, 0, none⟩)) rfl (by kernel_rfl) (by kernel_rfl) (by kernel_rfl) rfl (fun _ _ _ h => h) hSd (.inl ⟨by first | rfl | simp [Region.wanted, yielded, Act.put], fun W hW => by obtain ⟨⟨k0, k1, k2, k3, k4⟩, j0, j1, j2, j3, j4⟩ := hW; go_simp⟩) ?_
  simp only [List.getElem_toArray, List.getElem_cons_succ, List.getElem_cons_zero, Act.put, List.setIfInBounds_toArray, List.set_cons_zero, List.set_cons_succ]
  refine RegF.take0 22 (.pointer (some ⟨p, 0, none⟩)) rfl (by kernel_rfl) (by kernel_rfl) (by kernel_rfl) rfl (fun _ _ _ h => h) hSd (.inl ⟨by first | rfl | simp [Region.wanted, yielded, Act.put], fun W hW => by obtain ⟨⟨k0, k1, k2, k3, k4⟩, j0, j1, j2, j3, j4⟩ := hW; go_simp⟩) ?_
  simp only [List.getElem_toArray, List.getElem_cons_succ, List.getElem_cons_zero, Act.put, List.setIfInBounds_toArray, List.set_cons_zero, List.set_cons_succ]
  refine RegF.take0 23 (.pointer (some ⟨p, 4, none⟩)) rfl (by kernel_rfl) (by kernel_rfl) (by kernel_rfl) rfl (fun _ _ _ h => h) hSd (.inl ⟨by first | rfl | simp [Region.wanted, yielded, Act.put], fun W hW => by obtain ⟨⟨k0, k1, k2, k3, k4⟩, j0, j1, j2, j3, j4⟩ := hW; go_simp⟩) ?_
  simp only [List.getElem_toArray, List.getElem_cons_succ, List.getElem_cons_zero, Act.put, List.setIfInBounds_toArray, List.set_cons_zero, List.set_cons_succ]
  refine RegF.take0 24 (.bool stops) rfl (by kernel_rfl) (by kernel_rfl) (by kernel_rfl) rfl (fun _ _ _ h => h) hSd (.inl ⟨by first | rfl | simp [Region.wanted, yielded, Act.put], fun W hW => by obtain ⟨⟨k0, k1, k2, k3, k4⟩, j0, j1, j2, j3, j4⟩ := hW; go_simp⟩) ?_
  simp only [List.getElem_toArray, List.getElem_cons_succ, List.getElem_cons_zero, Act.put, List.setIfInBounds_toArray, List.set_cons_zero, List.set_cons_succ]
  refine RegF.take0 25 (.pointer (some ⟨q, 0, none⟩)) rfl (by kernel_rfl) (by kernel_rfl) (by kernel_rfl) rfl (fun _ _ _ h => h) hSd (.inl ⟨by first | rfl | simp [Region.wanted, yielded, Act.put], fun W hW => by obtain ⟨⟨k0, k1, k2, k3, k4⟩, j0, j1, j2, j3, j4⟩ := hW; go_simp⟩) ?_
  simp only [List.getElem_toArray, List.getElem_cons_succ, List.getElem_cons_zero, Act.put, List.setIfInBounds_toArray, List.set_cons_zero, List.set_cons_succ]
  refine RegF.take0 26 (.pointer (some ⟨q, 0, none⟩)) rfl (by kernel_rfl) (by kernel_rfl) (by kernel_rfl) rfl (fun _ _ _ h => h) hSd (.inl ⟨by first | rfl | simp [Region.wanted, yielded, Act.put], fun W hW => by obtain ⟨⟨k0, k1, k2, k3, k4⟩, j0, j1, j2, j3, j4⟩ := hW; go_simp⟩) ?_
  simp only [List.getElem_toArray, List.getElem_cons_succ, List.getElem_cons_zero, Act.put, List.setIfInBounds_toArray, List.set_cons_zero, List.set_cons_succ]
  refine RegF.take0 27 (.pointer (some ⟨q, 4, none⟩)) rfl (by kernel_rfl) (by kernel_rfl) (by kernel_rfl) rfl (fun _ _ _ h => h) hSd (.inl ⟨by first | rfl | simp [Region.wanted, yielded, Act.put], fun W hW => by obtain ⟨⟨k0, k1, k2, k3, k4⟩, j0, j1, j2, j3, j4⟩ := hW; go_simp⟩) ?_
  simp only [List.getElem_toArray, List.getElem_cons_succ, List.getElem_cons_zero, Act.put, List.setIfInBounds_toArray, List.set_cons_zero, List.set_cons_succ]
  refine RegF.take0 28 (.bool stops) rfl (by kernel_rfl) (by kernel_rfl) (by kernel_rfl) rfl (fun _ _ _ h => h) hSd (.inl ⟨by first | rfl | simp [Region.wanted, yielded, Act.put], fun W hW => by obtain ⟨⟨k0, k1, k2, k3, k4⟩, j0, j1, j2, j3, j4⟩ := hW; go_simp⟩) ?_
  simp only [List.getElem_toArray, List.getElem_cons_succ, List.getElem_cons_zero, Act.put, List.setIfInBounds_toArray, List.set_cons_zero, List.set_cons_succ]
  refine RegF.take0 29 (.bool true) rfl (by kernel_rfl) (by kernel_rfl) (by kernel_rfl) rfl (fun _ _ _ h => h) hSd (.inl ⟨by first | rfl | simp [Region.wanted, yielded, Act.put], fun W hW => by obtain ⟨⟨k0, k1, k2, k3, k4⟩, j0, j1, j2, j3, j4⟩ := hW; go_simp⟩) ?_
  simp only [List.getElem_toArray, List.getElem_cons_succ, List.getElem_cons_zero, Act.put, List.setIfInBounds_toArray, List.set_cons_zero, List.set_cons_succ]
  refine RegF.take0 30 (.bool true) rfl (by kernel_rfl) (by kernel_rfl) (by kernel_rfl) rfl (fun _ _ _ h => h) hSd (RegF.yld rfl (fun W hW => by obtain ⟨⟨k0, k1, k2, k3, k4⟩, j0, j1, j2, j3, j4⟩ := hW; go_simp)) ?_
  simp only [List.getElem_toArray, List.getElem_cons_succ, List.getElem_cons_zero, Act.put, List.setIfInBounds_toArray, List.set_cons_zero, List.set_cons_succ]
  refine RegF.take0 31 (.bool true) rfl (by kernel_rfl) (by kernel_rfl) (by kernel_rfl) rfl (fun _ _ _ h => h) hSd (RegF.yld rfl (fun W hW => by obtain ⟨⟨k0, k1, k2, k3, k4⟩, j0, j1, j2, j3, j4⟩ := hW; go_simp)) ?_
  simp only [List.getElem_toArray, List.getElem_cons_succ, List.getElem_cons_zero, Act.put, List.setIfInBounds_toArray, List.set_cons_zero, List.set_cons_succ]
  refine RegF.take0 32 (.pointer (some ⟨p, 0, none⟩)) rfl (by kernel_rfl) (by kernel_rfl) (by kernel_rfl) rfl (fun _ _ _ h => h) hSd (.inl ⟨by first | rfl | simp [Region.wanted, yielded, Act.put], fun W hW => by obtain ⟨⟨k0, k1, k2, k3, k4⟩, j0, j1, j2, j3, j4⟩ := hW; go_simp⟩) ?_
  simp only [List.getElem_toArray, List.getElem_cons_succ, List.getElem_cons_zero, Act.put, List.setIfInBounds_toArray, List.set_cons_zero, List.set_cons_succ]
  refine RegF.take0 33 (.pointer (some ⟨p, 0, none⟩)) rfl (by kernel_rfl) (by kernel_rfl) (by kernel_rfl) rfl (fun _ _ _ h => h) hSd (.inl ⟨by first | rfl | simp [Region.wanted, yielded, Act.put], fun W hW => by obtain ⟨⟨k0, k1, k2, k3, k4⟩, j0, j1, j2, j3, j4⟩ := hW; go_simp⟩) ?_
  simp only [List.getElem_toArray, List.getElem_cons_succ, List.getElem_cons_zero, Act.put, List.setIfInBounds_toArray, List.set_cons_zero, List.set_cons_succ]
  refine RegF.take0 34 (.pointer (some ⟨p, 0, none⟩)) rfl (by kernel_rfl) (by kernel_rfl) (by kernel_rfl) rfl (fun _ _ _ h => h) hSd (.inl ⟨by first | rfl | simp [Region.wanted, yielded, Act.put], fun W hW => by obtain ⟨⟨k0, k1, k2, k3, k4⟩, j0, j1, j2, j3, j4⟩ := hW; go_simp⟩) ?_
  simp only [List.getElem_toArray, List.getElem_cons_succ, List.getElem_cons_zero, Act.put, List.setIfInBounds_toArray, List.set_cons_zero, List.set_cons_succ]
  refine RegF.take0 35 (.map (some r)) rfl (by kernel_rfl) (by kernel_rfl) (by kernel_rfl) rfl (fun _ _ _ h => h) hSd (.inl ⟨by first | rfl | simp [Region.wanted, yielded, Act.put], fun W hW => by obtain ⟨⟨k0, k1, k2, k3, k4⟩, j0, j1, j2, j3, j4⟩ := hW; go_simp⟩) ?_
  simp only [List.getElem_toArray, List.getElem_cons_succ, List.getElem_cons_zero, Act.put, List.setIfInBounds_toArray, List.set_cons_zero, List.set_cons_succ]
  refine RegF.take0 36 (.pointer (some ⟨q, 0, none⟩)) rfl (by kernel_rfl) (by kernel_rfl) (by kernel_rfl) rfl (fun _ _ _ h => h) hSd (.inl ⟨by first | rfl | simp [Region.wanted, yielded, Act.put], fun W hW => by obtain ⟨⟨k0, k1, k2, k3, k4⟩, j0, j1, j2, j3, j4⟩ := hW; go_simp⟩) ?_
  simp only [List.getElem_toArray, List.getElem_cons_succ, List.getElem_cons_zero, Act.put, List.setIfInBounds_toArray, List.set_cons_zero, List.set_cons_succ]
  refine RegF.take0 37 (.pointer (some ⟨q, 0, none⟩)) rfl (by kernel_rfl) (by kernel_rfl) (by kernel_rfl) rfl (fun _ _ _ h => h) hSd (.inl ⟨by first | rfl | simp [Region.wanted, yielded, Act.put], fun W hW => by obtain ⟨⟨k0, k1, k2, k3, k4⟩, j0, j1, j2, j3, j4⟩ := hW; go_simp⟩) ?_
  simp only [List.getElem_toArray, List.getElem_cons_succ, List.getElem_cons_zero, Act.put, List.setIfInBounds_toArray, List.set_cons_zero, List.set_cons_succ]
  refine RegF.take0 38 (.pointer (some ⟨q, 0, none⟩)) rfl (by kernel_rfl) (by kernel_rfl) (by kernel_rfl) rfl (fun _ _ _ h => h) hSd (.inl ⟨by first | rfl | simp [Region.wanted, yielded, Act.put], fun W hW => by obtain ⟨⟨k0, k1, k2, k3, k4⟩, j0, j1, j2, j3, j4⟩ := hW; go_simp⟩) ?_
  simp only [List.getElem_toArray, List.getElem_cons_succ, List.getElem_cons_zero, Act.put, List.setIfInBounds_toArray, List.set_cons_zero, List.set_cons_succ]
  refine RegF.take0 39 (.map (some r')) rfl (by kernel_rfl) (by kernel_rfl) (by kernel_rfl) rfl (fun _ _ _ h => h) hSd (.inl ⟨by first | rfl | simp [Region.wanted, yielded, Act.put], fun W hW => by obtain ⟨⟨k0, k1, k2, k3, k4⟩, j0, j1, j2, j3, j4⟩ := hW; go_simp⟩) ?_
  simp only [List.getElem_toArray, List.getElem_cons_succ, List.getElem_cons_zero, Act.put, List.setIfInBounds_toArray, List.set_cons_zero, List.set_cons_succ]
  refine RegF.one 40 (by kernel_rfl) ?_
  refine opCG 156 #[.tmp 52, .tmp 56] #[151, 151] rfl (by first | rfl | simp [Region.wanted, yielded, Act.put]) rfl (enters_of Try.func156 (by kernel_rfl) rfl) #[.map (some r), .map (some r')] (by simp only [List.map_toArray, List.map_cons, List.map_nil]; rfl) ((meq_gives w.drew r r' g g' (hm.grow hBd) (hm'.grow hBd)).mono ?_)
  rintro e w4 ⟨b4, rfl, hB4, hb4⟩
  have hB4 := hBd.trans (hB4.mono hBd.size)
  obtain rfl : b4 = false := (by cases b4 with | false => rfl | true => exact absurd (hb4.1 rfl) hg)
  refine ⟨_, rfl, fun _ => hS _ hB4, ?_⟩
  simp only [List.getElem_toArray, List.getElem_cons_succ, List.getElem_cons_zero, Act.put, List.setIfInBounds_toArray, List.set_cons_zero, List.set_cons_succ]
  refine RegF.take0 41 (.bool false) rfl (by kernel_rfl) (by kernel_rfl) (by kernel_rfl) rfl (fun _ _ _ h => h) (hS _ hB4) (RegF.yld rfl (fun W hW => by obtain ⟨⟨k0, k1, k2, k3, k4⟩, j0, j1, j2, j3, j4⟩ := hW; go_simp)) ?_
  simp only [List.getElem_toArray, List.getElem_cons_succ, List.getElem_cons_zero, Act.put, List.setIfInBounds_toArray, List.set_cons_zero, List.set_cons_succ]
  refine RegF.take0 42 (.bool false) rfl (by kernel_rfl) (by kernel_rfl) (by kernel_rfl) rfl (fun _ _ _ h => h) (hS _ hB4) (RegF.yld rfl (fun W hW => by obtain ⟨⟨k0, k1, k2, k3, k4⟩, j0, j1, j2, j3, j4⟩ := hW; go_simp)) ?_
  simp only [List.getElem_toArray, List.getElem_cons_succ, List.getElem_cons_zero, Act.put, List.setIfInBounds_toArray, List.set_cons_zero, List.set_cons_succ]
  refine RegF.take0 43 (undef) rfl (by kernel_rfl) (by kernel_rfl) (by kernel_rfl) rfl (fun _ _ _ h => h) (hS _ hB4) (.inr ⟨by first | rfl | simp [Region.wanted, yielded, Act.put], rfl⟩) ?_
  simp only [List.getElem_toArray, List.getElem_cons_succ, List.getElem_cons_zero, Act.put, List.setIfInBounds_toArray, List.set_cons_zero, List.set_cons_succ]
  refine RegF.take0 44 (undef) rfl (by kernel_rfl) (by kernel_rfl) (by kernel_rfl) rfl (fun _ _ _ h => h) (hS _ hB4) (.inr ⟨by first | rfl | simp [Region.wanted, yielded, Act.put], rfl⟩) ?_
  simp only [List.getElem_toArray, List.getElem_cons_succ, List.getElem_cons_zero, Act.put, List.setIfInBounds_toArray, List.set_cons_zero, List.set_cons_succ]
  refine RegF.take0 45 (undef) rfl (by kernel_rfl) (by kernel_rfl) (by kernel_rfl) rfl (fun _ _ _ h => h) (hS _ hB4) (.inr ⟨by first | rfl | simp [Region.wanted, yielded, Act.put], rfl⟩) ?_
  simp only [List.getElem_toArray, List.getElem_cons_succ, List.getElem_cons_zero, Act.put, List.setIfInBounds_toArray, List.set_cons_zero, List.set_cons_succ]
  refine RegF.take0 46 (undef) rfl (by kernel_rfl) (by kernel_rfl) (by kernel_rfl) rfl (fun _ _ _ h => h) (hS _ hB4) (.inr ⟨by first | rfl | simp [Region.wanted, yielded, Act.put], rfl⟩) ?_
  simp only [List.getElem_toArray, List.getElem_cons_succ, List.getElem_cons_zero, Act.put, List.setIfInBounds_toArray, List.set_cons_zero, List.set_cons_succ]
  refine RegF.take0 47 (undef) rfl (by kernel_rfl) (by kernel_rfl) (by kernel_rfl) rfl (fun _ _ _ h => h) (hS _ hB4) (.inr ⟨by first | rfl | simp [Region.wanted, yielded, Act.put], rfl⟩) ?_
  simp only [List.getElem_toArray, List.getElem_cons_succ, List.getElem_cons_zero, Act.put, List.setIfInBounds_toArray, List.set_cons_zero, List.set_cons_succ]
  refine RegF.take0 48 (undef) rfl (by kernel_rfl) (by kernel_rfl) (by kernel_rfl) rfl (fun _ _ _ h => h) (hS _ hB4) (.inr ⟨by first | rfl | simp [Region.wanted, yielded, Act.put], rfl⟩) ?_
  simp only [List.getElem_toArray, List.getElem_cons_succ, List.getElem_cons_zero, Act.put, List.setIfInBounds_toArray, List.set_cons_zero, List.set_cons_succ]
  refine RegF.take0 49 (undef) rfl (by kernel_rfl) (by kernel_rfl) (by kernel_rfl) rfl (fun _ _ _ h => h) (hS _ hB4) (.inr ⟨by first | rfl | simp [Region.wanted, yielded, Act.put], rfl⟩) ?_
  simp only [List.getElem_toArray, List.getElem_cons_succ, List.getElem_cons_zero, Act.put, List.setIfInBounds_toArray, List.set_cons_zero, List.set_cons_succ]
  refine RegF.take0 50 (undef) rfl (by kernel_rfl) (by kernel_rfl) (by kernel_rfl) rfl (fun _ _ _ h => h) (hS _ hB4) (.inr ⟨by first | rfl | simp [Region.wanted, yielded, Act.put], rfl⟩) ?_
  simp only [List.getElem_toArray, List.getElem_cons_succ, List.getElem_cons_zero, Act.put, List.setIfInBounds_toArray, List.set_cons_zero, List.set_cons_succ]
  refine RegF.one 51 (by kernel_rfl) ?_
  refine opU rfl (by first | rfl | simp [Region.wanted, yielded, Act.put]) ⟨fun _ => (hS _ hB4), ?_⟩
  simp only [List.getElem_toArray, List.getElem_cons_succ, List.getElem_cons_zero, Act.put, List.setIfInBounds_toArray, List.set_cons_zero, List.set_cons_succ]
  refine RegF.take0 52 (.bool false) rfl (by kernel_rfl) (by kernel_rfl) (by kernel_rfl) rfl (fun _ _ _ h => h) (hS _ hB4) (RegF.yld rfl (fun W hW => by obtain ⟨⟨k0, k1, k2, k3, k4⟩, j0, j1, j2, j3, j4⟩ := hW; go_simp)) ?_
  simp only [List.getElem_toArray, List.getElem_cons_succ, List.getElem_cons_zero, Act.put, List.setIfInBounds_toArray, List.set_cons_zero, List.set_cons_succ]
  refine RegF.one 53 (by kernel_rfl) ?_
  refine RegF.opV (w' := w4) (.bool false) rfl rfl (by go_simp) ⟨fun _ => (hS _ hB4), ?_⟩
  simp only [List.getElem_toArray, List.getElem_cons_succ, List.getElem_cons_zero, Act.put, List.setIfInBounds_toArray, List.set_cons_zero, List.set_cons_succ]
  refine RegF.done (by kernel_rfl) ?_
  go_wp2
  go_ret
  exact ⟨rfl, hB4⟩
set_option maxRecDepth 100000 in
set_option maxHeartbeats 8000000 in
theorem dsame_loose (hD : DkIs w p many g xs left stops) (hD' : DkIs w q many g' xs' left stops) (hl : xs.length ≤ 1000000) (hg : ∀ k, g k = g' k) (hxx : ¬ xs = xs') :
    Calls Try.prog 86 #[.pointer (some ⟨p, 0, none⟩), .pointer (some ⟨q, 0, none⟩)] w fun e w' => e = .returned (.bool false) ∧ Below w.heap.size w w' := by
  have HN := none_gives w p many g xs left stops hD
  have HN' := none_gives w q many g' xs' left stops hD'
  obtain ⟨r, A, c, hb, hm, hx⟩ := hD.has
  obtain ⟨r', A', c', hb', hm', hx'⟩ := hD'.has
  have hS : ∀ W, Below w.heap.size w W → (W.cell? ⟨p, 0, none⟩ = some (.map (some r)) ∧ W.cell? ⟨p, 1, none⟩ = some (.int .i64 (many : Int)) ∧ W.cell? ⟨p, 2, none⟩ = some (.slice A xs.length c) ∧ W.cell? ⟨p, 3, none⟩ = some (.int .i64 left) ∧ W.cell? ⟨p, 4, none⟩ = some (.bool stops)) ∧ (W.cell? ⟨q, 0, none⟩ = some (.map (some r')) ∧ W.cell? ⟨q, 1, none⟩ = some (.int .i64 (many : Int)) ∧ W.cell? ⟨q, 2, none⟩ = some (.slice A' xs'.length c') ∧ W.cell? ⟨q, 3, none⟩ = some (.int .i64 left) ∧ W.cell? ⟨q, 4, none⟩ = some (.bool stops)) := fun W hB => by
    have h1 := hb.below hB hb.lt
    have h2 := hb'.below hB hb'.lt
    refine ⟨⟨?_, ?_, ?_, ?_, ?_⟩, ?_, ?_, ?_, ?_, ?_⟩
    · rw [h1.cell]; rfl
    · rw [h1.cell]; rfl
    · rw [h1.cell]; rfl
    · rw [h1.cell]; rfl
    · rw [h1.cell]; rfl
    · rw [h2.cell]; rfl
    · rw [h2.cell]; rfl
    · rw [h2.cell]; rfl
    · rw [h2.cell]; rfl
    · rw [h2.cell]; rfl
  have hBd : Below w.heap.size w w.drew := (Below.refl _ w).drew
  have hSd := hS _ hBd
  go_enter Try.func86, Try.ntmps86
  go_wp2_with (go_at_call 95; first | (with_reducible refine HN.mono ?_; rintro e W9 ⟨rfl, rfl⟩) | (with_reducible refine HN'.mono ?_; rintro e W9 ⟨rfl, rfl⟩))
  refine RegF.start (fun W => (W.cell? ⟨p, 0, none⟩ = some (.map (some r)) ∧ W.cell? ⟨p, 1, none⟩ = some (.int .i64 (many : Int)) ∧ W.cell? ⟨p, 2, none⟩ = some (.slice A xs.length c) ∧ W.cell? ⟨p, 3, none⟩ = some (.int .i64 left) ∧ W.cell? ⟨p, 4, none⟩ = some (.bool stops)) ∧ (W.cell? ⟨q, 0, none⟩ = some (.map (some r')) ∧ W.cell? ⟨q, 1, none⟩ = some (.int .i64 (many : Int)) ∧ W.cell? ⟨q, 2, none⟩ = some (.slice A' xs'.length c') ∧ W.cell? ⟨q, 3, none⟩ = some (.int .i64 left) ∧ W.cell? ⟨q, 4, none⟩ = some (.bool stops))) 99 (by kernel_rfl) ?_
  refine RegF.take0 0 (.pointer (some ⟨p, 0, none⟩)) rfl (by kernel_rfl) (by kernel_rfl) (by kernel_rfl) rfl (fun _ _ _ h => h) hSd (RegF.yld rfl (fun W hW => by obtain ⟨⟨k0, k1, k2, k3, k4⟩, j0, j1, j2, j3, j4⟩ := hW; go_simp)) ?_
  simp only [List.getElem_toArray, List.getElem_cons_zero, Act.put, List.setIfInBounds_toArray, List.set_cons_zero, List.set_cons_succ]
  refine RegF.take0 1 (.pointer (some ⟨p, 0, none⟩)) rfl (by kernel_rfl) (by kernel_rfl) (by kernel_rfl) rfl (fun _ _ _ h => h) hSd (RegF.yld rfl (fun W hW => by obtain ⟨⟨k0, k1, k2, k3, k4⟩, j0, j1, j2, j3, j4⟩ := hW; go_simp)) ?_
  simp only [List.getElem_toArray, List.getElem_cons_succ, List.getElem_cons_zero, Act.put, List.setIfInBounds_toArray, List.set_cons_zero, List.set_cons_succ]
  refine RegF.take0 2 (.pointer (some ⟨p, 1, none⟩)) rfl (by kernel_rfl) (by kernel_rfl) (by kernel_rfl) rfl (fun _ _ _ h => h) hSd (RegF.yld rfl (fun W hW => by obtain ⟨⟨k0, k1, k2, k3, k4⟩, j0, j1, j2, j3, j4⟩ := hW; go_simp)) ?_
  simp only [List.getElem_toArray, List.getElem_cons_succ, List.getElem_cons_zero, Act.put, List.setIfInBounds_toArray, List.set_cons_zero, List.set_cons_succ]
  refine RegF.take0 3 (.int .i64 (many : Int)) rfl (by kernel_rfl) (by kernel_rfl) (by kernel_rfl) rfl (fun _ _ _ h => h) hSd (RegF.yld rfl (fun W hW => by obtain ⟨⟨k0, k1, k2, k3, k4⟩, j0, j1, j2, j3, j4⟩ := hW; go_simp)) ?_
  simp only [List.getElem_toArray, List.getElem_cons_succ, List.getElem_cons_zero, Act.put, List.setIfInBounds_toArray, List.set_cons_zero, List.set_cons_succ]
  refine RegF.take0 4 (.pointer (some ⟨q, 0, none⟩)) rfl (by kernel_rfl) (by kernel_rfl) (by kernel_rfl) rfl (fun _ _ _ h => h) hSd (RegF.yld rfl (fun W hW => by obtain ⟨⟨k0, k1, k2, k3, k4⟩, j0, j1, j2, j3, j4⟩ := hW; go_simp)) ?_
  simp only [List.getElem_toArray, List.getElem_cons_succ, List.getElem_cons_zero, Act.put, List.setIfInBounds_toArray, List.set_cons_zero, List.set_cons_succ]
  refine RegF.take0 5 (.pointer (some ⟨q, 0, none⟩)) rfl (by kernel_rfl) (by kernel_rfl) (by kernel_rfl) rfl (fun _ _ _ h => h) hSd (RegF.yld rfl (fun W hW => by obtain ⟨⟨k0, k1, k2, k3, k4⟩, j0, j1, j2, j3, j4⟩ := hW; go_simp)) ?_
  simp only [List.getElem_toArray, List.getElem_cons_succ, List.getElem_cons_zero, Act.put, List.setIfInBounds_toArray, List.set_cons_zero, List.set_cons_succ]
  refine RegF.take0 6 (.pointer (some ⟨q, 1, none⟩)) rfl (by kernel_rfl) (by kernel_rfl) (by kernel_rfl) rfl (fun _ _ _ h => h) hSd (RegF.yld rfl (fun W hW => by obtain ⟨⟨k0, k1, k2, k3, k4⟩, j0, j1, j2, j3, j4⟩ := hW; go_simp)) ?_
  simp only [List.getElem_toArray, List.getElem_cons_succ, List.getElem_cons_zero, Act.put, List.setIfInBounds_toArray, List.set_cons_zero, List.set_cons_succ]
  refine RegF.take0 7 (.int .i64 (many : Int)) rfl (by kernel_rfl) (by kernel_rfl) (by kernel_rfl) rfl (fun _ _ _ h => h) hSd (RegF.yld rfl (fun W hW => by obtain ⟨⟨k0, k1, k2, k3, k4⟩, j0, j1, j2, j3, j4⟩ := hW; go_simp)) ?_
  simp only [List.getElem_toArray, List.getElem_cons_succ, List.getElem_cons_zero, Act.put, List.setIfInBounds_toArray, List.set_cons_zero, List.set_cons_succ]
  refine RegF.take0 8 (.bool true) rfl (by kernel_rfl) (by kernel_rfl) (by kernel_rfl) rfl (fun _ _ _ h => h) hSd (RegF.yld rfl (fun W hW => by obtain ⟨⟨k0, k1, k2, k3, k4⟩, j0, j1, j2, j3, j4⟩ := hW; go_simp)) ?_
  simp only [List.getElem_toArray, List.getElem_cons_succ, List.getElem_cons_zero, Act.put, List.setIfInBounds_toArray, List.set_cons_zero, List.set_cons_succ]
  refine RegF.take0 9 (.bool true) rfl (by kernel_rfl) (by kernel_rfl) (by kernel_rfl) rfl (fun _ _ _ h => h) hSd (RegF.yld rfl (fun W hW => by obtain ⟨⟨k0, k1, k2, k3, k4⟩, j0, j1, j2, j3, j4⟩ := hW; go_simp)) ?_
  simp only [List.getElem_toArray, List.getElem_cons_succ, List.getElem_cons_zero, Act.put, List.setIfInBounds_toArray, List.set_cons_zero, List.set_cons_succ]
  refine RegF.take0 10 (.pointer (some ⟨p, 0, none⟩)) rfl (by kernel_rfl) (by kernel_rfl) (by kernel_rfl) rfl (fun _ _ _ h => h) hSd (.inl ⟨by first | rfl | simp [Region.wanted, yielded, Act.put], fun W hW => by obtain ⟨⟨k0, k1, k2, k3, k4⟩, j0, j1, j2, j3, j4⟩ := hW; go_simp⟩) ?_
  simp only [List.getElem_toArray, List.getElem_cons_succ, List.getElem_cons_zero, Act.put, List.setIfInBounds_toArray, List.set_cons_zero, List.set_cons_succ]
  refine RegF.take0 11 (.pointer (some ⟨p, 0, none⟩)) rfl (by kernel_rfl) (by kernel_rfl) (by kernel_rfl) rfl (fun _ _ _ h => h) hSd (.inl ⟨by first | rfl | simp [Region.wanted, yielded, Act.put], fun W hW => by obtain ⟨⟨k0, k1, k2, k3, k4⟩, j0, j1, j2, j3, j4⟩ := hW; go_simp⟩) ?_
  simp only [List.getElem_toArray, List.getElem_cons_succ, List.getElem_cons_zero, Act.put, List.setIfInBounds_toArray, List.set_cons_zero, List.set_cons_succ]
  refine RegF.take0 12 (.pointer (some ⟨p, 3, none⟩)) rfl (by kernel_rfl) (by kernel_rfl) (by kernel_rfl) rfl (fun _ _ _ h => h) hSd (.inl ⟨by first | rfl | simp [Region.wanted, yielded, Act.put], fun W hW => by obtain ⟨⟨k0, k1, k2, k3, k4⟩, j0, j1, j2, j3, j4⟩ := hW; go_simp⟩) ?_
  simp only [List.getElem_toArray, List.getElem_cons_succ, List.getElem_cons_zero, Act.put, List.setIfInBounds_toArray, List.set_cons_zero, List.set_cons_succ]
  refine RegF.take0 13 (.int .i64 left) rfl (by kernel_rfl) (by kernel_rfl) (by kernel_rfl) rfl (fun _ _ _ h => h) hSd (.inl ⟨by first | rfl | simp [Region.wanted, yielded, Act.put], fun W hW => by obtain ⟨⟨k0, k1, k2, k3, k4⟩, j0, j1, j2, j3, j4⟩ := hW; go_simp⟩) ?_
  simp only [List.getElem_toArray, List.getElem_cons_succ, List.getElem_cons_zero, Act.put, List.setIfInBounds_toArray, List.set_cons_zero, List.set_cons_succ]
  refine RegF.take0 14 (.pointer (some ⟨q, 0, none⟩)) rfl (by kernel_rfl) (by kernel_rfl) (by kernel_rfl) rfl (fun _ _ _ h => h) hSd (.inl ⟨by first | rfl | simp [Region.wanted, yielded, Act.put], fun W hW => by obtain ⟨⟨k0, k1, k2, k3, k4⟩, j0, j1, j2, j3, j4⟩ := hW; go_simp⟩) ?_
  simp only [List.getElem_toArray, List.getElem_cons_succ, List.getElem_cons_zero, Act.put, List.setIfInBounds_toArray, List.set_cons_zero, List.set_cons_succ]
  refine RegF.take0 15 (.pointer (some ⟨q, 0, none⟩)) rfl (by kernel_rfl) (by kernel_rfl) (by kernel_rfl) rfl (fun _ _ _ h => h) hSd (.inl ⟨by first | rfl | simp [Region.wanted, yielded, Act.put], fun W hW => by obtain ⟨⟨k0, k1, k2, k3, k4⟩, j0, j1, j2, j3, j4⟩ := hW; go_simp⟩) ?_
  simp only [List.getElem_toArray, List.getElem_cons_succ, List.getElem_cons_zero, Act.put, List.setIfInBounds_toArray, List.set_cons_zero, List.set_cons_succ]
  refine RegF.take0 16 (.pointer (some ⟨q, 3, none⟩)) rfl (by kernel_rfl) (by kernel_rfl) (by kernel_rfl) rfl (fun _ _ _ h => h) hSd (.inl ⟨by first | rfl | simp [Region.wanted, yielded, Act.put], fun W hW => by obtain ⟨⟨k0, k1, k2, k3, k4⟩, j0, j1, j2, j3, j4⟩ := hW; go_simp⟩) ?_
  simp only [List.getElem_toArray, List.getElem_cons_succ, List.getElem_cons_zero, Act.put, List.setIfInBounds_toArray, List.set_cons_zero, List.set_cons_succ]
  refine RegF.take0 17 (.int .i64 left) rfl (by kernel_rfl) (by kernel_rfl) (by kernel_rfl) rfl (fun _ _ _ h => h) hSd (.inl ⟨by first | rfl | simp [Region.wanted, yielded, Act.put], fun W hW => by obtain ⟨⟨k0, k1, k2, k3, k4⟩, j0, j1, j2, j3, j4⟩ := hW; go_simp⟩) ?_
  simp only [List.getElem_toArray, List.getElem_cons_succ, List.getElem_cons_zero, Act.put, List.setIfInBounds_toArray, List.set_cons_zero, List.set_cons_succ]
  refine RegF.take0 18 (.bool true) rfl (by kernel_rfl) (by kernel_rfl) (by kernel_rfl) rfl (fun _ _ _ h => h) hSd (.inl ⟨by first | rfl | simp [Region.wanted, yielded, Act.put], fun W hW => by obtain ⟨⟨k0, k1, k2, k3, k4⟩, j0, j1, j2, j3, j4⟩ := hW; go_simp⟩) ?_
  simp only [List.getElem_toArray, List.getElem_cons_succ, List.getElem_cons_zero, Act.put, List.setIfInBounds_toArray, List.set_cons_zero, List.set_cons_succ]
  refine RegF.take0 19 (.bool true) rfl (by kernel_rfl) (by kernel_rfl) (by kernel_rfl) rfl (fun _ _ _ h => h) hSd (RegF.yld rfl (fun W hW => by obtain ⟨⟨k0, k1, k2, k3, k4⟩, j0, j1, j2, j3, j4⟩ := hW; go_simp)) ?_
  simp only [List.getElem_toArray, List.getElem_cons_succ, List.getElem_cons_zero, Act.put, List.setIfInBounds_toArray, List.set_cons_zero, List.set_cons_succ]
  refine RegF.take0 20 (.bool true) rfl (by kernel_rfl) (by kernel_rfl) (by kernel_rfl) rfl (fun _ _ _ h => h) hSd (RegF.yld rfl (fun W hW => by obtain ⟨⟨k0, k1, k2, k3, k4⟩, j0, j1, j2, j3, j4⟩ := hW; go_simp)) ?_
  simp only [List.getElem_toArray, List.getElem_cons_succ, List.getElem_cons_zero, Act.put, List.setIfInBounds_toArray, List.set_cons_zero, List.set_cons_succ]
  refine RegF.take0 21 (.pointer (some ⟨p, 0, none⟩)) rfl (by kernel_rfl) (by kernel_rfl) (by kernel_rfl) rfl (fun _ _ _ h => h) hSd (.inl ⟨by first | rfl | simp [Region.wanted, yielded, Act.put], fun W hW => by obtain ⟨⟨k0, k1, k2, k3, k4⟩, j0, j1, j2, j3, j4⟩ := hW; go_simp⟩) ?_
  simp only [List.getElem_toArray, List.getElem_cons_succ, List.getElem_cons_zero, Act.put, List.setIfInBounds_toArray, List.set_cons_zero, List.set_cons_succ]
  refine RegF.take0 22 (.pointer (some ⟨p, 0, none⟩)) rfl (by kernel_rfl) (by kernel_rfl) (by kernel_rfl) rfl (fun _ _ _ h => h) hSd (.inl ⟨by first | rfl | simp [Region.wanted, yielded, Act.put], fun W hW => by obtain ⟨⟨k0, k1, k2, k3, k4⟩, j0, j1, j2, j3, j4⟩ := hW; go_simp⟩) ?_
  simp only [List.getElem_toArray, List.getElem_cons_succ, List.getElem_cons_zero, Act.put, List.setIfInBounds_toArray, List.set_cons_zero, List.set_cons_succ]
  refine RegF.take0 23 (.pointer (some ⟨p, 4, none⟩)) rfl (by kernel_rfl) (by kernel_rfl) (by kernel_rfl) rfl (fun _ _ _ h => h) hSd (.inl ⟨by first | rfl | simp [Region.wanted, yielded, Act.put], fun W hW => by obtain ⟨⟨k0, k1, k2, k3, k4⟩, j0, j1, j2, j3, j4⟩ := hW; go_simp⟩) ?_
  simp only [List.getElem_toArray, List.getElem_cons_succ, List.getElem_cons_zero, Act.put, List.setIfInBounds_toArray, List.set_cons_zero, List.set_cons_succ]
  refine RegF.take0 24 (.bool stops) rfl (by kernel_rfl) (by kernel_rfl) (by kernel_rfl) rfl (fun _ _ _ h => h) hSd (.inl ⟨by first | rfl | simp [Region.wanted, yielded, Act.put], fun W hW => by obtain ⟨⟨k0, k1, k2, k3, k4⟩, j0, j1, j2, j3, j4⟩ := hW; go_simp⟩) ?_
  simp only [List.getElem_toArray, List.getElem_cons_succ, List.getElem_cons_zero, Act.put, List.setIfInBounds_toArray, List.set_cons_zero, List.set_cons_succ]
  refine RegF.take0 25 (.pointer (some ⟨q, 0, none⟩)) rfl (by kernel_rfl) (by kernel_rfl) (by kernel_rfl) rfl (fun _ _ _ h => h) hSd (.inl ⟨by first | rfl | simp [Region.wanted, yielded, Act.put], fun W hW => by obtain ⟨⟨k0, k1, k2, k3, k4⟩, j0, j1, j2, j3, j4⟩ := hW; go_simp⟩) ?_
  simp only [List.getElem_toArray, List.getElem_cons_succ, List.getElem_cons_zero, Act.put, List.setIfInBounds_toArray, List.set_cons_zero, List.set_cons_succ]
  refine RegF.take0 26 (.pointer (some ⟨q, 0, none⟩)) rfl (by kernel_rfl) (by kernel_rfl) (by kernel_rfl) rfl (fun _ _ _ h => h) hSd (.inl ⟨by first | rfl | simp [Region.wanted, yielded, Act.put], fun W hW => by obtain ⟨⟨k0, k1, k2, k3, k4⟩, j0, j1, j2, j3, j4⟩ := hW; go_simp⟩) ?_
  simp only [List.getElem_toArray, List.getElem_cons_succ, List.getElem_cons_zero, Act.put, List.setIfInBounds_toArray, List.set_cons_zero, List.set_cons_succ]
  refine RegF.take0 27 (.pointer (some ⟨q, 4, none⟩)) rfl (by kernel_rfl) (by kernel_rfl) (by kernel_rfl) rfl (fun _ _ _ h => h) hSd (.inl ⟨by first | rfl | simp [Region.wanted, yielded, Act.put], fun W hW => by obtain ⟨⟨k0, k1, k2, k3, k4⟩, j0, j1, j2, j3, j4⟩ := hW; go_simp⟩) ?_
  simp only [List.getElem_toArray, List.getElem_cons_succ, List.getElem_cons_zero, Act.put, List.setIfInBounds_toArray, List.set_cons_zero, List.set_cons_succ]
  refine RegF.take0 28 (.bool stops) rfl (by kernel_rfl) (by kernel_rfl) (by kernel_rfl) rfl (fun _ _ _ h => h) hSd (.inl ⟨by first | rfl | simp [Region.wanted, yielded, Act.put], fun W hW => by obtain ⟨⟨k0, k1, k2, k3, k4⟩, j0, j1, j2, j3, j4⟩ := hW; go_simp⟩) ?_
  simp only [List.getElem_toArray, List.getElem_cons_succ, List.getElem_cons_zero, Act.put, List.setIfInBounds_toArray, List.set_cons_zero, List.set_cons_succ]
  refine RegF.take0 29 (.bool true) rfl (by kernel_rfl) (by kernel_rfl) (by kernel_rfl) rfl (fun _ _ _ h => h) hSd (.inl ⟨by first | rfl | simp [Region.wanted, yielded, Act.put], fun W hW => by obtain ⟨⟨k0, k1, k2, k3, k4⟩, j0, j1, j2, j3, j4⟩ := hW; go_simp⟩) ?_
  simp only [List.getElem_toArray, List.getElem_cons_succ, List.getElem_cons_zero, Act.put, List.setIfInBounds_toArray, List.set_cons_zero, List.set_cons_succ]
  refine RegF.take0 30 (.bool true) rfl (by kernel_rfl) (by kernel_rfl) (by kernel_rfl) rfl (fun _ _ _ h => h) hSd (RegF.yld rfl (fun W hW => by obtain ⟨⟨k0, k1, k2, k3, k4⟩, j0, j1, j2, j3, j4⟩ := hW; go_simp)) ?_
  simp only [List.getElem_toArray, List.getElem_cons_succ, List.getElem_cons_zero, Act.put, List.setIfInBounds_toArray, List.set_cons_zero, List.set_cons_succ]
  refine RegF.take0 31 (.bool true) rfl (by kernel_rfl) (by kernel_rfl) (by kernel_rfl) rfl (fun _ _ _ h => h) hSd (RegF.yld rfl (fun W hW => by obtain ⟨⟨k0, k1, k2, k3, k4⟩, j0, j1, j2, j3, j4⟩ := hW; go_simp)) ?_
  simp only [List.getElem_toArray, List.getElem_cons_succ, List.getElem_cons_zero, Act.put, List.setIfInBounds_toArray, List.set_cons_zero, List.set_cons_succ]
  refine RegF.take0 32 (.pointer (some ⟨p, 0, none⟩)) rfl (by kernel_rfl) (by kernel_rfl) (by kernel_rfl) rfl (fun _ _ _ h => h) hSd (.inl ⟨by first | rfl | simp [Region.wanted, yielded, Act.put], fun W hW => by obtain ⟨⟨k0, k1, k2, k3, k4⟩, j0, j1, j2, j3, j4⟩ := hW; go_simp⟩) ?_
  simp only [List.getElem_toArray, List.getElem_cons_succ, List.getElem_cons_zero, Act.put, List.setIfInBounds_toArray, List.set_cons_zero, List.set_cons_succ]
  refine RegF.take0 33 (.pointer (some ⟨p, 0, none⟩)) rfl (by kernel_rfl) (by kernel_rfl) (by kernel_rfl) rfl (fun _ _ _ h => h) hSd (.inl ⟨by first | rfl | simp [Region.wanted, yielded, Act.put], fun W hW => by obtain ⟨⟨k0, k1, k2, k3, k4⟩, j0, j1, j2, j3, j4⟩ := hW; go_simp⟩) ?_
  simp only [List.getElem_toArray, List.getElem_cons_succ, List.getElem_cons_zero, Act.put, List.setIfInBounds_toArray, List.set_cons_zero, List.set_cons_succ]
  refine RegF.take0 34 (.pointer (some ⟨p, 0, none⟩)) rfl (by kernel_rfl) (by kernel_rfl) (by kernel_rfl) rfl (fun _ _ _ h => h) hSd (.inl ⟨by first | rfl | simp [Region.wanted, yielded, Act.put], fun W hW => by obtain ⟨⟨k0, k1, k2, k3, k4⟩, j0, j1, j2, j3, j4⟩ := hW; go_simp⟩) ?_
  simp only [List.getElem_toArray, List.getElem_cons_succ, List.getElem_cons_zero, Act.put, List.setIfInBounds_toArray, List.set_cons_zero, List.set_cons_succ]
  refine RegF.take0 35 (.map (some r)) rfl (by kernel_rfl) (by kernel_rfl) (by kernel_rfl) rfl (fun _ _ _ h => h) hSd (.inl ⟨by first | rfl | simp [Region.wanted, yielded, Act.put], fun W hW => by obtain ⟨⟨k0, k1, k2, k3, k4⟩, j0, j1, j2, j3, j4⟩ := hW; go_simp⟩) ?_
  simp only [List.getElem_toArray, List.getElem_cons_succ, List.getElem_cons_zero, Act.put, List.setIfInBounds_toArray, List.set_cons_zero, List.set_cons_succ]
  refine RegF.take0 36 (.pointer (some ⟨q, 0, none⟩)) rfl (by kernel_rfl) (by kernel_rfl) (by kernel_rfl) rfl (fun _ _ _ h => h) hSd (.inl ⟨by first | rfl | simp [Region.wanted, yielded, Act.put], fun W hW => by obtain ⟨⟨k0, k1, k2, k3, k4⟩, j0, j1, j2, j3, j4⟩ := hW; go_simp⟩) ?_
  simp only [List.getElem_toArray, List.getElem_cons_succ, List.getElem_cons_zero, Act.put, List.setIfInBounds_toArray, List.set_cons_zero, List.set_cons_succ]
  refine RegF.take0 37 (.pointer (some ⟨q, 0, none⟩)) rfl (by kernel_rfl) (by kernel_rfl) (by kernel_rfl) rfl (fun _ _ _ h => h) hSd (.inl ⟨by first | rfl | simp [Region.wanted, yielded, Act.put], fun W hW => by obtain ⟨⟨k0, k1, k2, k3, k4⟩, j0, j1, j2, j3, j4⟩ := hW; go_simp⟩) ?_
  simp only [List.getElem_toArray, List.getElem_cons_succ, List.getElem_cons_zero, Act.put, List.setIfInBounds_toArray, List.set_cons_zero, List.set_cons_succ]
  refine RegF.take0 38 (.pointer (some ⟨q, 0, none⟩)) rfl (by kernel_rfl) (by kernel_rfl) (by kernel_rfl) rfl (fun _ _ _ h => h) hSd (.inl ⟨by first | rfl | simp [Region.wanted, yielded, Act.put], fun W hW => by obtain ⟨⟨k0, k1, k2, k3, k4⟩, j0, j1, j2, j3, j4⟩ := hW; go_simp⟩) ?_
  simp only [List.getElem_toArray, List.getElem_cons_succ, List.getElem_cons_zero, Act.put, List.setIfInBounds_toArray, List.set_cons_zero, List.set_cons_succ]
  refine RegF.take0 39 (.map (some r')) rfl (by kernel_rfl) (by kernel_rfl) (by kernel_rfl) rfl (fun _ _ _ h => h) hSd (.inl ⟨by first | rfl | simp [Region.wanted, yielded, Act.put], fun W hW => by obtain ⟨⟨k0, k1, k2, k3, k4⟩, j0, j1, j2, j3, j4⟩ := hW; go_simp⟩) ?_
  simp only [List.getElem_toArray, List.getElem_cons_succ, List.getElem_cons_zero, Act.put, List.setIfInBounds_toArray, List.set_cons_zero, List.set_cons_succ]
  refine RegF.one 40 (by kernel_rfl) ?_
  refine opCG 156 #[.tmp 52, .tmp 56] #[151, 151] rfl (by first | rfl | simp [Region.wanted, yielded, Act.put]) rfl (enters_of Try.func156 (by kernel_rfl) rfl) #[.map (some r), .map (some r')] (by simp only [List.map_toArray, List.map_cons, List.map_nil]; rfl) ((meq_gives w.drew r r' g g' (hm.grow hBd) (hm'.grow hBd)).mono ?_)
  rintro e w4 ⟨b4, rfl, hB4, hb4⟩
  have hB4 := hBd.trans (hB4.mono hBd.size)
  obtain rfl : b4 = true := hb4.2 hg
  refine ⟨_, rfl, fun _ => hS _ hB4, ?_⟩
  simp only [List.getElem_toArray, List.getElem_cons_succ, List.getElem_cons_zero, Act.put, List.setIfInBounds_toArray, List.set_cons_zero, List.set_cons_succ]
  refine RegF.take0 41 (.bool true) rfl (by kernel_rfl) (by kernel_rfl) (by kernel_rfl) rfl (fun _ _ _ h => h) (hS _ hB4) (RegF.yld rfl (fun W hW => by obtain ⟨⟨k0, k1, k2, k3, k4⟩, j0, j1, j2, j3, j4⟩ := hW; go_simp)) ?_
  simp only [List.getElem_toArray, List.getElem_cons_succ, List.getElem_cons_zero, Act.put, List.setIfInBounds_toArray, List.set_cons_zero, List.set_cons_succ]
  refine RegF.take0 42 (.bool true) rfl (by kernel_rfl) (by kernel_rfl) (by kernel_rfl) rfl (fun _ _ _ h => h) (hS _ hB4) (RegF.yld rfl (fun W hW => by obtain ⟨⟨k0, k1, k2, k3, k4⟩, j0, j1, j2, j3, j4⟩ := hW; go_simp)) ?_
  simp only [List.getElem_toArray, List.getElem_cons_succ, List.getElem_cons_zero, Act.put, List.setIfInBounds_toArray, List.set_cons_zero, List.set_cons_succ]
  refine RegF.take0 43 (.pointer (some ⟨p, 0, none⟩)) rfl (by kernel_rfl) (by kernel_rfl) (by kernel_rfl) rfl (fun _ _ _ h => h) (hS _ hB4) (.inl ⟨by first | rfl | simp [Region.wanted, yielded, Act.put], fun W hW => by obtain ⟨⟨k0, k1, k2, k3, k4⟩, j0, j1, j2, j3, j4⟩ := hW; go_simp⟩) ?_
  simp only [List.getElem_toArray, List.getElem_cons_succ, List.getElem_cons_zero, Act.put, List.setIfInBounds_toArray, List.set_cons_zero, List.set_cons_succ]
  refine RegF.take0 44 (.pointer (some ⟨p, 0, none⟩)) rfl (by kernel_rfl) (by kernel_rfl) (by kernel_rfl) rfl (fun _ _ _ h => h) (hS _ hB4) (.inl ⟨by first | rfl | simp [Region.wanted, yielded, Act.put], fun W hW => by obtain ⟨⟨k0, k1, k2, k3, k4⟩, j0, j1, j2, j3, j4⟩ := hW; go_simp⟩) ?_
  simp only [List.getElem_toArray, List.getElem_cons_succ, List.getElem_cons_zero, Act.put, List.setIfInBounds_toArray, List.set_cons_zero, List.set_cons_succ]
  refine RegF.take0 45 (.pointer (some ⟨p, 2, none⟩)) rfl (by kernel_rfl) (by kernel_rfl) (by kernel_rfl) rfl (fun _ _ _ h => h) (hS _ hB4) (.inl ⟨by first | rfl | simp [Region.wanted, yielded, Act.put], fun W hW => by obtain ⟨⟨k0, k1, k2, k3, k4⟩, j0, j1, j2, j3, j4⟩ := hW; go_simp⟩) ?_
  simp only [List.getElem_toArray, List.getElem_cons_succ, List.getElem_cons_zero, Act.put, List.setIfInBounds_toArray, List.set_cons_zero, List.set_cons_succ]
  refine RegF.take0 46 (.slice A xs.length c) rfl (by kernel_rfl) (by kernel_rfl) (by kernel_rfl) rfl (fun _ _ _ h => h) (hS _ hB4) (.inl ⟨by first | rfl | simp [Region.wanted, yielded, Act.put], fun W hW => by obtain ⟨⟨k0, k1, k2, k3, k4⟩, j0, j1, j2, j3, j4⟩ := hW; go_simp⟩) ?_
  simp only [List.getElem_toArray, List.getElem_cons_succ, List.getElem_cons_zero, Act.put, List.setIfInBounds_toArray, List.set_cons_zero, List.set_cons_succ]
  refine RegF.take0 47 (.pointer (some ⟨q, 0, none⟩)) rfl (by kernel_rfl) (by kernel_rfl) (by kernel_rfl) rfl (fun _ _ _ h => h) (hS _ hB4) (.inl ⟨by first | rfl | simp [Region.wanted, yielded, Act.put], fun W hW => by obtain ⟨⟨k0, k1, k2, k3, k4⟩, j0, j1, j2, j3, j4⟩ := hW; go_simp⟩) ?_
  simp only [List.getElem_toArray, List.getElem_cons_succ, List.getElem_cons_zero, Act.put, List.setIfInBounds_toArray, List.set_cons_zero, List.set_cons_succ]
  refine RegF.take0 48 (.pointer (some ⟨q, 0, none⟩)) rfl (by kernel_rfl) (by kernel_rfl) (by kernel_rfl) rfl (fun _ _ _ h => h) (hS _ hB4) (.inl ⟨by first | rfl | simp [Region.wanted, yielded, Act.put], fun W hW => by obtain ⟨⟨k0, k1, k2, k3, k4⟩, j0, j1, j2, j3, j4⟩ := hW; go_simp⟩) ?_
  simp only [List.getElem_toArray, List.getElem_cons_succ, List.getElem_cons_zero, Act.put, List.setIfInBounds_toArray, List.set_cons_zero, List.set_cons_succ]
  refine RegF.take0 49 (.pointer (some ⟨q, 2, none⟩)) rfl (by kernel_rfl) (by kernel_rfl) (by kernel_rfl) rfl (fun _ _ _ h => h) (hS _ hB4) (.inl ⟨by first | rfl | simp [Region.wanted, yielded, Act.put], fun W hW => by obtain ⟨⟨k0, k1, k2, k3, k4⟩, j0, j1, j2, j3, j4⟩ := hW; go_simp⟩) ?_
  simp only [List.getElem_toArray, List.getElem_cons_succ, List.getElem_cons_zero, Act.put, List.setIfInBounds_toArray, List.set_cons_zero, List.set_cons_succ]
  refine RegF.take0 50 (.slice A' xs'.length c') rfl (by kernel_rfl) (by kernel_rfl) (by kernel_rfl) rfl (fun _ _ _ h => h) (hS _ hB4) (.inl ⟨by first | rfl | simp [Region.wanted, yielded, Act.put], fun W hW => by obtain ⟨⟨k0, k1, k2, k3, k4⟩, j0, j1, j2, j3, j4⟩ := hW; go_simp⟩) ?_
  simp only [List.getElem_toArray, List.getElem_cons_succ, List.getElem_cons_zero, Act.put, List.setIfInBounds_toArray, List.set_cons_zero, List.set_cons_succ]
  refine RegF.one 51 (by kernel_rfl) ?_
  refine opCG 157 #[.tmp 63, .tmp 67] #[152, 152] rfl (by first | rfl | simp [Region.wanted, yielded, Act.put]) rfl (enters_of Try.func157 (by kernel_rfl) rfl) #[.slice A xs.length c, .slice A' xs'.length c'] (by simp only [List.map_toArray, List.map_cons, List.map_nil]; rfl) ((leq_gives w4 A c xs A' c' xs' (hx.grow' hB4) (hx'.grow' hB4) hl).mono ?_)
  rintro e w5 ⟨b5, rfl, hB5, hb5⟩
  have hB5 := hB4.trans (hB5.mono hB4.size)
  obtain rfl : b5 = false := (by cases b5 with | false => rfl | true => exact absurd (hb5.1 rfl) hxx)
  refine ⟨_, rfl, fun _ => hS _ hB5, ?_⟩
  simp only [List.getElem_toArray, List.getElem_cons_succ, List.getElem_cons_zero, Act.put, List.setIfInBounds_toArray, List.set_cons_zero, List.set_cons_succ]
  refine RegF.take0 52 (.bool false) rfl (by kernel_rfl) (by kernel_rfl) (by kernel_rfl) rfl (fun _ _ _ h => h) (hS _ hB5) (RegF.yld rfl (fun W hW => by obtain ⟨⟨k0, k1, k2, k3, k4⟩, j0, j1, j2, j3, j4⟩ := hW; go_simp)) ?_
  simp only [List.getElem_toArray, List.getElem_cons_succ, List.getElem_cons_zero, Act.put, List.setIfInBounds_toArray, List.set_cons_zero, List.set_cons_succ]
  refine RegF.one 53 (by kernel_rfl) ?_
  refine RegF.opV (w' := w5) (.bool false) rfl rfl (by go_simp) ⟨fun _ => (hS _ hB5), ?_⟩
  simp only [List.getElem_toArray, List.getElem_cons_succ, List.getElem_cons_zero, Act.put, List.setIfInBounds_toArray, List.set_cons_zero, List.set_cons_succ]
  refine RegF.done (by kernel_rfl) ?_
  go_wp2
  go_ret
  exact ⟨rfl, hB5⟩
set_option maxRecDepth 100000 in
set_option maxHeartbeats 8000000 in
theorem dsame_all (hD : DkIs w p many g xs left stops) (hD' : DkIs w q many g' xs' left stops) (hl : xs.length ≤ 1000000) (hg : ∀ k, g k = g' k) (hxx : xs = xs') :
    Calls Try.prog 86 #[.pointer (some ⟨p, 0, none⟩), .pointer (some ⟨q, 0, none⟩)] w fun e w' => e = .returned (.bool true) ∧ Below w.heap.size w w' := by
  have HN := none_gives w p many g xs left stops hD
  have HN' := none_gives w q many g' xs' left stops hD'
  obtain ⟨r, A, c, hb, hm, hx⟩ := hD.has
  obtain ⟨r', A', c', hb', hm', hx'⟩ := hD'.has
  have hS : ∀ W, Below w.heap.size w W → (W.cell? ⟨p, 0, none⟩ = some (.map (some r)) ∧ W.cell? ⟨p, 1, none⟩ = some (.int .i64 (many : Int)) ∧ W.cell? ⟨p, 2, none⟩ = some (.slice A xs.length c) ∧ W.cell? ⟨p, 3, none⟩ = some (.int .i64 left) ∧ W.cell? ⟨p, 4, none⟩ = some (.bool stops)) ∧ (W.cell? ⟨q, 0, none⟩ = some (.map (some r')) ∧ W.cell? ⟨q, 1, none⟩ = some (.int .i64 (many : Int)) ∧ W.cell? ⟨q, 2, none⟩ = some (.slice A' xs'.length c') ∧ W.cell? ⟨q, 3, none⟩ = some (.int .i64 left) ∧ W.cell? ⟨q, 4, none⟩ = some (.bool stops)) := fun W hB => by
    have h1 := hb.below hB hb.lt
    have h2 := hb'.below hB hb'.lt
    refine ⟨⟨?_, ?_, ?_, ?_, ?_⟩, ?_, ?_, ?_, ?_, ?_⟩
    · rw [h1.cell]; rfl
    · rw [h1.cell]; rfl
    · rw [h1.cell]; rfl
    · rw [h1.cell]; rfl
    · rw [h1.cell]; rfl
    · rw [h2.cell]; rfl
    · rw [h2.cell]; rfl
    · rw [h2.cell]; rfl
    · rw [h2.cell]; rfl
    · rw [h2.cell]; rfl
  have hBd : Below w.heap.size w w.drew := (Below.refl _ w).drew
  have hSd := hS _ hBd
  go_enter Try.func86, Try.ntmps86
  go_wp2_with (go_at_call 95; first | (with_reducible refine HN.mono ?_; rintro e W9 ⟨rfl, rfl⟩) | (with_reducible refine HN'.mono ?_; rintro e W9 ⟨rfl, rfl⟩))
  refine RegF.start (fun W => (W.cell? ⟨p, 0, none⟩ = some (.map (some r)) ∧ W.cell? ⟨p, 1, none⟩ = some (.int .i64 (many : Int)) ∧ W.cell? ⟨p, 2, none⟩ = some (.slice A xs.length c) ∧ W.cell? ⟨p, 3, none⟩ = some (.int .i64 left) ∧ W.cell? ⟨p, 4, none⟩ = some (.bool stops)) ∧ (W.cell? ⟨q, 0, none⟩ = some (.map (some r')) ∧ W.cell? ⟨q, 1, none⟩ = some (.int .i64 (many : Int)) ∧ W.cell? ⟨q, 2, none⟩ = some (.slice A' xs'.length c') ∧ W.cell? ⟨q, 3, none⟩ = some (.int .i64 left) ∧ W.cell? ⟨q, 4, none⟩ = some (.bool stops))) 99 (by kernel_rfl) ?_
  refine RegF.take0 0 (.pointer (some ⟨p, 0, none⟩)) rfl (by kernel_rfl) (by kernel_rfl) (by kernel_rfl) rfl (fun _ _ _ h => h) hSd (RegF.yld rfl (fun W hW => by obtain ⟨⟨k0, k1, k2, k3, k4⟩, j0, j1, j2, j3, j4⟩ := hW; go_simp)) ?_
  simp only [List.getElem_toArray, List.getElem_cons_zero, Act.put, List.setIfInBounds_toArray, List.set_cons_zero, List.set_cons_succ]
  refine RegF.take0 1 (.pointer (some ⟨p, 0, none⟩)) rfl (by kernel_rfl) (by kernel_rfl) (by kernel_rfl) rfl (fun _ _ _ h => h) hSd (RegF.yld rfl (fun W hW => by obtain ⟨⟨k0, k1, k2, k3, k4⟩, j0, j1, j2, j3, j4⟩ := hW; go_simp)) ?_
  simp only [List.getElem_toArray, List.getElem_cons_succ, List.getElem_cons_zero, Act.put, List.setIfInBounds_toArray, List.set_cons_zero, List.set_cons_succ]
  refine RegF.take0 2 (.pointer (some ⟨p, 1, none⟩)) rfl (by kernel_rfl) (by kernel_rfl) (by kernel_rfl) rfl (fun _ _ _ h => h) hSd (RegF.yld rfl (fun W hW => by obtain ⟨⟨k0, k1, k2, k3, k4⟩, j0, j1, j2, j3, j4⟩ := hW; go_simp)) ?_
  simp only [List.getElem_toArray, List.getElem_cons_succ, List.getElem_cons_zero, Act.put, List.setIfInBounds_toArray, List.set_cons_zero, List.set_cons_succ]
  refine RegF.take0 3 (.int .i64 (many : Int)) rfl (by kernel_rfl) (by kernel_rfl) (by kernel_rfl) rfl (fun _ _ _ h => h) hSd (RegF.yld rfl (fun W hW => by obtain ⟨⟨k0, k1, k2, k3, k4⟩, j0, j1, j2, j3, j4⟩ := hW; go_simp)) ?_
  simp only [List.getElem_toArray, List.getElem_cons_succ, List.getElem_cons_zero, Act.put, List.setIfInBounds_toArray, List.set_cons_zero, List.set_cons_succ]
  refine RegF.take0 4 (.pointer (some ⟨q, 0, none⟩)) rfl (by kernel_rfl) (by kernel_rfl) (by kernel_rfl) rfl (fun _ _ _ h => h) hSd (RegF.yld rfl (fun W hW => by obtain ⟨⟨k0, k1, k2, k3, k4⟩, j0, j1, j2, j3, j4⟩ := hW; go_simp)) ?_
  simp only [List.getElem_toArray, List.getElem_cons_succ, List.getElem_cons_zero, Act.put, List.setIfInBounds_toArray, List.set_cons_zero, List.set_cons_succ]
  refine RegF.take0 5 (.pointer (some ⟨q, 0, none⟩)) rfl (by kernel_rfl) (by kernel_rfl) (by kernel_rfl) rfl (fun _ _ _ h => h) hSd (RegF.yld rfl (fun W hW => by obtain ⟨⟨k0, k1, k2, k3, k4⟩, j0, j1, j2, j3, j4⟩ := hW; go_simp)) ?_
  simp only [List.getElem_toArray, List.getElem_cons_succ, List.getElem_cons_zero, Act.put, List.setIfInBounds_toArray, List.set_cons_zero, List.set_cons_succ]
  refine RegF.take0 6 (.pointer (some ⟨q, 1, none⟩)) rfl (by kernel_rfl) (by kernel_rfl) (by kernel_rfl) rfl (fun _ _ _ h => h) hSd (RegF.yld rfl (fun W hW => by obtain ⟨⟨k0, k1, k2, k3, k4⟩, j0, j1, j2, j3, j4⟩ := hW; go_simp)) ?_
  simp only [List.getElem_toArray, List.getElem_cons_succ, List.getElem_cons_zero, Act.put, List.setIfInBounds_toArray, List.set_cons_zero, List.set_cons_succ]
  refine RegF.take0 7 (.int .i64 (many : Int)) rfl (by kernel_rfl) (by kernel_rfl) (by kernel_rfl) rfl (fun _ _ _ h => h) hSd (RegF.yld rfl (fun W hW => by obtain ⟨⟨k0, k1, k2, k3, k4⟩, j0, j1, j2, j3, j4⟩ := hW; go_simp)) ?_
  simp only [List.getElem_toArray, List.getElem_cons_succ, List.getElem_cons_zero, Act.put, List.setIfInBounds_toArray, List.set_cons_zero, List.set_cons_succ]
  refine RegF.take0 8 (.bool true) rfl (by kernel_rfl) (by kernel_rfl) (by kernel_rfl) rfl (fun _ _ _ h => h) hSd (RegF.yld rfl (fun W hW => by obtain ⟨⟨k0, k1, k2, k3, k4⟩, j0, j1, j2, j3, j4⟩ := hW; go_simp)) ?_
  simp only [List.getElem_toArray, List.getElem_cons_succ, List.getElem_cons_zero, Act.put, List.setIfInBounds_toArray, List.set_cons_zero, List.set_cons_succ]
  refine RegF.take0 9 (.bool true) rfl (by kernel_rfl) (by kernel_rfl) (by kernel_rfl) rfl (fun _ _ _ h => h) hSd (RegF.yld rfl (fun W hW => by obtain ⟨⟨k0, k1, k2, k3, k4⟩, j0, j1, j2, j3, j4⟩ := hW; go_simp)) ?_
  simp only [List.getElem_toArray, List.getElem_cons_succ, List.getElem_cons_zero, Act.put, List.setIfInBounds_toArray, List.set_cons_zero, List.set_cons_succ]
  refine RegF.take0 10 (.pointer (some ⟨p, 0, none⟩)) rfl (by kernel_rfl) (by kernel_rfl) (by kernel_rfl) rfl (fun _ _ _ h => h) hSd (.inl ⟨by first | rfl | simp [Region.wanted, yielded, Act.put], fun W hW => by obtain ⟨⟨k0, k1, k2, k3, k4⟩, j0, j1, j2, j3, j4⟩ := hW; go_simp⟩) ?_
  simp only [List.getElem_toArray, List.getElem_cons_succ, List.getElem_cons_zero, Act.put, List.setIfInBounds_toArray, List.set_cons_zero, List.set_cons_succ]
  refine RegF.take0 11 (.pointer (some ⟨p, 0, none⟩)) rfl (by kernel_rfl) (by kernel_rfl) (by kernel_rfl) rfl (fun _ _ _ h => h) hSd (.inl ⟨by first | rfl | simp [Region.wanted, yielded, Act.put], fun W hW => by obtain ⟨⟨k0, k1, k2, k3, k4⟩, j0, j1, j2, j3, j4⟩ := hW; go_simp⟩) ?_
  simp only [List.getElem_toArray, List.getElem_cons_succ, List.getElem_cons_zero, Act.put, List.setIfInBounds_toArray, List.set_cons_zero, List.set_cons_succ]
  refine RegF.take0 12 (.pointer (some ⟨p, 3, none⟩)) rfl (by kernel_rfl) (by kernel_rfl) (by kernel_rfl) rfl (fun _ _ _ h => h) hSd (.inl ⟨by first | rfl | simp [Region.wanted, yielded, Act.put], fun W hW => by obtain ⟨⟨k0, k1, k2, k3, k4⟩, j0, j1, j2, j3, j4⟩ := hW; go_simp⟩) ?_
  simp only [List.getElem_toArray, List.getElem_cons_succ, List.getElem_cons_zero, Act.put, List.setIfInBounds_toArray, List.set_cons_zero, List.set_cons_succ]
  refine RegF.take0 13 (.int .i64 left) rfl (by kernel_rfl) (by kernel_rfl) (by kernel_rfl) rfl (fun _ _ _ h => h) hSd (.inl ⟨by first | rfl | simp [Region.wanted, yielded, Act.put], fun W hW => by obtain ⟨⟨k0, k1, k2, k3, k4⟩, j0, j1, j2, j3, j4⟩ := hW; go_simp⟩) ?_
  simp only [List.getElem_toArray, List.getElem_cons_succ, List.getElem_cons_zero, Act.put, List.setIfInBounds_toArray, List.set_cons_zero, List.set_cons_succ]
  refine RegF.take0 14 (.pointer (some ⟨q, 0, none⟩)) rfl (by kernel_rfl) (by kernel_rfl) (by kernel_rfl) rfl (fun _ _ _ h => h) hSd (.inl ⟨by first | rfl | simp [Region.wanted, yielded, Act.put], fun W hW => by obtain ⟨⟨k0, k1, k2, k3, k4⟩, j0, j1, j2, j3, j4⟩ := hW; go_simp⟩) ?_
  simp only [List.getElem_toArray, List.getElem_cons_succ, List.getElem_cons_zero, Act.put, List.setIfInBounds_toArray, List.set_cons_zero, List.set_cons_succ]
  refine RegF.take0 15 (.pointer (some ⟨q, 0, none⟩)) rfl (by kernel_rfl) (by kernel_rfl) (by kernel_rfl) rfl (fun _ _ _ h => h) hSd (.inl ⟨by first | rfl | simp [Region.wanted, yielded, Act.put], fun W hW => by obtain ⟨⟨k0, k1, k2, k3, k4⟩, j0, j1, j2, j3, j4⟩ := hW; go_simp⟩) ?_
  simp only [List.getElem_toArray, List.getElem_cons_succ, List.getElem_cons_zero, Act.put, List.setIfInBounds_toArray, List.set_cons_zero, List.set_cons_succ]
  refine RegF.take0 16 (.pointer (some ⟨q, 3, none⟩)) rfl (by kernel_rfl) (by kernel_rfl) (by kernel_rfl) rfl (fun _ _ _ h => h) hSd (.inl ⟨by first | rfl | simp [Region.wanted, yielded, Act.put], fun W hW => by obtain ⟨⟨k0, k1, k2, k3, k4⟩, j0, j1, j2, j3, j4⟩ := hW; go_simp⟩) ?_
  simp only [List.getElem_toArray, List.getElem_cons_succ, List.getElem_cons_zero, Act.put, List.setIfInBounds_toArray, List.set_cons_zero, List.set_cons_succ]
  refine RegF.take0 17 (.int .i64 left) rfl (by kernel_rfl) (by kernel_rfl) (by kernel_rfl) rfl (fun _ _ _ h => h) hSd (.inl ⟨by first | rfl | simp [Region.wanted, yielded, Act.put], fun W hW => by obtain ⟨⟨k0, k1, k2, k3, k4⟩, j0, j1, j2, j3, j4⟩ := hW; go_simp⟩) ?_
  simp only [List.getElem_toArray, List.getElem_cons_succ, List.getElem_cons_zero, Act.put, List.setIfInBounds_toArray, List.set_cons_zero, List.set_cons_succ]
  refine RegF.take0 18 (.bool true) rfl (by kernel_rfl) (by kernel_rfl) (by kernel_rfl) rfl (fun _ _ _ h => h) hSd (.inl ⟨by first | rfl | simp [Region.wanted, yielded, Act.put], fun W hW => by obtain ⟨⟨k0, k1, k2, k3, k4⟩, j0, j1, j2, j3, j4⟩ := hW; go_simp⟩) ?_
  simp only [List.getElem_toArray, List.getElem_cons_succ, List.getElem_cons_zero, Act.put, List.setIfInBounds_toArray, List.set_cons_zero, List.set_cons_succ]
  refine RegF.take0 19 (.bool true) rfl (by kernel_rfl) (by kernel_rfl) (by kernel_rfl) rfl (fun _ _ _ h => h) hSd (RegF.yld rfl (fun W hW => by obtain ⟨⟨k0, k1, k2, k3, k4⟩, j0, j1, j2, j3, j4⟩ := hW; go_simp)) ?_
  simp only [List.getElem_toArray, List.getElem_cons_succ, List.getElem_cons_zero, Act.put, List.setIfInBounds_toArray, List.set_cons_zero, List.set_cons_succ]
  refine RegF.take0 20 (.bool true) rfl (by kernel_rfl) (by kernel_rfl) (by kernel_rfl) rfl (fun _ _ _ h => h) hSd (RegF.yld rfl (fun W hW => by obtain ⟨⟨k0, k1, k2, k3, k4⟩, j0, j1, j2, j3, j4⟩ := hW; go_simp)) ?_
  simp only [List.getElem_toArray, List.getElem_cons_succ, List.getElem_cons_zero, Act.put, List.setIfInBounds_toArray, List.set_cons_zero, List.set_cons_succ]
  refine RegF.take0 21 (.pointer (some ⟨p, 0, none⟩)) rfl (by kernel_rfl) (by kernel_rfl) (by kernel_rfl) rfl (fun _ _ _ h => h) hSd (.inl ⟨by first | rfl | simp [Region.wanted, yielded, Act.put], fun W hW => by obtain ⟨⟨k0, k1, k2, k3, k4⟩, j0, j1, j2, j3, j4⟩ := hW; go_simp⟩) ?_
  simp only [List.getElem_toArray, List.getElem_cons_succ, List.getElem_cons_zero, Act.put, List.setIfInBounds_toArray, List.set_cons_zero, List.set_cons_succ]
  refine RegF.take0 22 (.pointer (some ⟨p, 0, none⟩)) rfl (by kernel_rfl) (by kernel_rfl) (by kernel_rfl) rfl (fun _ _ _ h => h) hSd (.inl ⟨by first | rfl | simp [Region.wanted, yielded, Act.put], fun W hW => by obtain ⟨⟨k0, k1, k2, k3, k4⟩, j0, j1, j2, j3, j4⟩ := hW; go_simp⟩) ?_
  simp only [List.getElem_toArray, List.getElem_cons_succ, List.getElem_cons_zero, Act.put, List.setIfInBounds_toArray, List.set_cons_zero, List.set_cons_succ]
  refine RegF.take0 23 (.pointer (some ⟨p, 4, none⟩)) rfl (by kernel_rfl) (by kernel_rfl) (by kernel_rfl) rfl (fun _ _ _ h => h) hSd (.inl ⟨by first | rfl | simp [Region.wanted, yielded, Act.put], fun W hW => by obtain ⟨⟨k0, k1, k2, k3, k4⟩, j0, j1, j2, j3, j4⟩ := hW; go_simp⟩) ?_
  simp only [List.getElem_toArray, List.getElem_cons_succ, List.getElem_cons_zero, Act.put, List.setIfInBounds_toArray, List.set_cons_zero, List.set_cons_succ]
  refine RegF.take0 24 (.bool stops) rfl (by kernel_rfl) (by kernel_rfl) (by kernel_rfl) rfl (fun _ _ _ h => h) hSd (.inl ⟨by first | rfl | simp [Region.wanted, yielded, Act.put], fun W hW => by obtain ⟨⟨k0, k1, k2, k3, k4⟩, j0, j1, j2, j3, j4⟩ := hW; go_simp⟩) ?_
  simp only [List.getElem_toArray, List.getElem_cons_succ, List.getElem_cons_zero, Act.put, List.setIfInBounds_toArray, List.set_cons_zero, List.set_cons_succ]
  refine RegF.take0 25 (.pointer (some ⟨q, 0, none⟩)) rfl (by kernel_rfl) (by kernel_rfl) (by kernel_rfl) rfl (fun _ _ _ h => h) hSd (.inl ⟨by first | rfl | simp [Region.wanted, yielded, Act.put], fun W hW => by obtain ⟨⟨k0, k1, k2, k3, k4⟩, j0, j1, j2, j3, j4⟩ := hW; go_simp⟩) ?_
  simp only [List.getElem_toArray, List.getElem_cons_succ, List.getElem_cons_zero, Act.put, List.setIfInBounds_toArray, List.set_cons_zero, List.set_cons_succ]
  refine RegF.take0 26 (.pointer (some ⟨q, 0, none⟩)) rfl (by kernel_rfl) (by kernel_rfl) (by kernel_rfl) rfl (fun _ _ _ h => h) hSd (.inl ⟨by first | rfl | simp [Region.wanted, yielded, Act.put], fun W hW => by obtain ⟨⟨k0, k1, k2, k3, k4⟩, j0, j1, j2, j3, j4⟩ := hW; go_simp⟩) ?_
  simp only [List.getElem_toArray, List.getElem_cons_succ, List.getElem_cons_zero, Act.put, List.setIfInBounds_toArray, List.set_cons_zero, List.set_cons_succ]
  refine RegF.take0 27 (.pointer (some ⟨q, 4, none⟩)) rfl (by kernel_rfl) (by kernel_rfl) (by kernel_rfl) rfl (fun _ _ _ h => h) hSd (.inl ⟨by first | rfl | simp [Region.wanted, yielded, Act.put], fun W hW => by obtain ⟨⟨k0, k1, k2, k3, k4⟩, j0, j1, j2, j3, j4⟩ := hW; go_simp⟩) ?_
  simp only [List.getElem_toArray, List.getElem_cons_succ, List.getElem_cons_zero, Act.put, List.setIfInBounds_toArray, List.set_cons_zero, List.set_cons_succ]
  refine RegF.take0 28 (.bool stops) rfl (by kernel_rfl) (by kernel_rfl) (by kernel_rfl) rfl (fun _ _ _ h => h) hSd (.inl ⟨by first | rfl | simp [Region.wanted, yielded, Act.put], fun W hW => by obtain ⟨⟨k0, k1, k2, k3, k4⟩, j0, j1, j2, j3, j4⟩ := hW; go_simp⟩) ?_
  simp only [List.getElem_toArray, List.getElem_cons_succ, List.getElem_cons_zero, Act.put, List.setIfInBounds_toArray, List.set_cons_zero, List.set_cons_succ]
  refine RegF.take0 29 (.bool true) rfl (by kernel_rfl) (by kernel_rfl) (by kernel_rfl) rfl (fun _ _ _ h => h) hSd (.inl ⟨by first | rfl | simp [Region.wanted, yielded, Act.put], fun W hW => by obtain ⟨⟨k0, k1, k2, k3, k4⟩, j0, j1, j2, j3, j4⟩ := hW; go_simp⟩) ?_
  simp only [List.getElem_toArray, List.getElem_cons_succ, List.getElem_cons_zero, Act.put, List.setIfInBounds_toArray, List.set_cons_zero, List.set_cons_succ]
  refine RegF.take0 30 (.bool true) rfl (by kernel_rfl) (by kernel_rfl) (by kernel_rfl) rfl (fun _ _ _ h => h) hSd (RegF.yld rfl (fun W hW => by obtain ⟨⟨k0, k1, k2, k3, k4⟩, j0, j1, j2, j3, j4⟩ := hW; go_simp)) ?_
  simp only [List.getElem_toArray, List.getElem_cons_succ, List.getElem_cons_zero, Act.put, List.setIfInBounds_toArray, List.set_cons_zero, List.set_cons_succ]
  refine RegF.take0 31 (.bool true) rfl (by kernel_rfl) (by kernel_rfl) (by kernel_rfl) rfl (fun _ _ _ h => h) hSd (RegF.yld rfl (fun W hW => by obtain ⟨⟨k0, k1, k2, k3, k4⟩, j0, j1, j2, j3, j4⟩ := hW; go_simp)) ?_
  simp only [List.getElem_toArray, List.getElem_cons_succ, List.getElem_cons_zero, Act.put, List.setIfInBounds_toArray, List.set_cons_zero, List.set_cons_succ]
  refine RegF.take0 32 (.pointer (some ⟨p, 0, none⟩)) rfl (by kernel_rfl) (by kernel_rfl) (by kernel_rfl) rfl (fun _ _ _ h => h) hSd (.inl ⟨by first | rfl | simp [Region.wanted, yielded, Act.put], fun W hW => by obtain ⟨⟨k0, k1, k2, k3, k4⟩, j0, j1, j2, j3, j4⟩ := hW; go_simp⟩) ?_
  simp only [List.getElem_toArray, List.getElem_cons_succ, List.getElem_cons_zero, Act.put, List.setIfInBounds_toArray, List.set_cons_zero, List.set_cons_succ]
  refine RegF.take0 33 (.pointer (some ⟨p, 0, none⟩)) rfl (by kernel_rfl) (by kernel_rfl) (by kernel_rfl) rfl (fun _ _ _ h => h) hSd (.inl ⟨by first | rfl | simp [Region.wanted, yielded, Act.put], fun W hW => by obtain ⟨⟨k0, k1, k2, k3, k4⟩, j0, j1, j2, j3, j4⟩ := hW; go_simp⟩) ?_
  simp only [List.getElem_toArray, List.getElem_cons_succ, List.getElem_cons_zero, Act.put, List.setIfInBounds_toArray, List.set_cons_zero, List.set_cons_succ]
  refine RegF.take0 34 (.pointer (some ⟨p, 0, none⟩)) rfl (by kernel_rfl) (by kernel_rfl) (by kernel_rfl) rfl (fun _ _ _ h => h) hSd (.inl ⟨by first | rfl | simp [Region.wanted, yielded, Act.put], fun W hW => by obtain ⟨⟨k0, k1, k2, k3, k4⟩, j0, j1, j2, j3, j4⟩ := hW; go_simp⟩) ?_
  simp only [List.getElem_toArray, List.getElem_cons_succ, List.getElem_cons_zero, Act.put, List.setIfInBounds_toArray, List.set_cons_zero, List.set_cons_succ]
  refine RegF.take0 35 (.map (some r)) rfl (by kernel_rfl) (by kernel_rfl) (by kernel_rfl) rfl (fun _ _ _ h => h) hSd (.inl ⟨by first | rfl | simp [Region.wanted, yielded, Act.put], fun W hW => by obtain ⟨⟨k0, k1, k2, k3, k4⟩, j0, j1, j2, j3, j4⟩ := hW; go_simp⟩) ?_
  simp only [List.getElem_toArray, List.getElem_cons_succ, List.getElem_cons_zero, Act.put, List.setIfInBounds_toArray, List.set_cons_zero, List.set_cons_succ]
  refine RegF.take0 36 (.pointer (some ⟨q, 0, none⟩)) rfl (by kernel_rfl) (by kernel_rfl) (by kernel_rfl) rfl (fun _ _ _ h => h) hSd (.inl ⟨by first | rfl | simp [Region.wanted, yielded, Act.put], fun W hW => by obtain ⟨⟨k0, k1, k2, k3, k4⟩, j0, j1, j2, j3, j4⟩ := hW; go_simp⟩) ?_
  simp only [List.getElem_toArray, List.getElem_cons_succ, List.getElem_cons_zero, Act.put, List.setIfInBounds_toArray, List.set_cons_zero, List.set_cons_succ]
  refine RegF.take0 37 (.pointer (some ⟨q, 0, none⟩)) rfl (by kernel_rfl) (by kernel_rfl) (by kernel_rfl) rfl (fun _ _ _ h => h) hSd (.inl ⟨by first | rfl | simp [Region.wanted, yielded, Act.put], fun W hW => by obtain ⟨⟨k0, k1, k2, k3, k4⟩, j0, j1, j2, j3, j4⟩ := hW; go_simp⟩) ?_
  simp only [List.getElem_toArray, List.getElem_cons_succ, List.getElem_cons_zero, Act.put, List.setIfInBounds_toArray, List.set_cons_zero, List.set_cons_succ]
  refine RegF.take0 38 (.pointer (some ⟨q, 0, none⟩)) rfl (by kernel_rfl) (by kernel_rfl) (by kernel_rfl) rfl (fun _ _ _ h => h) hSd (.inl ⟨by first | rfl | simp [Region.wanted, yielded, Act.put], fun W hW => by obtain ⟨⟨k0, k1, k2, k3, k4⟩, j0, j1, j2, j3, j4⟩ := hW; go_simp⟩) ?_
  simp only [List.getElem_toArray, List.getElem_cons_succ, List.getElem_cons_zero, Act.put, List.setIfInBounds_toArray, List.set_cons_zero, List.set_cons_succ]
  refine RegF.take0 39 (.map (some r')) rfl (by kernel_rfl) (by kernel_rfl) (by kernel_rfl) rfl (fun _ _ _ h => h) hSd (.inl ⟨by first | rfl | simp [Region.wanted, yielded, Act.put], fun W hW => by obtain ⟨⟨k0, k1, k2, k3, k4⟩, j0, j1, j2, j3, j4⟩ := hW; go_simp⟩) ?_
  simp only [List.getElem_toArray, List.getElem_cons_succ, List.getElem_cons_zero, Act.put, List.setIfInBounds_toArray, List.set_cons_zero, List.set_cons_succ]
  refine RegF.one 40 (by kernel_rfl) ?_
  refine opCG 156 #[.tmp 52, .tmp 56] #[151, 151] rfl (by first | rfl | simp [Region.wanted, yielded, Act.put]) rfl (enters_of Try.func156 (by kernel_rfl) rfl) #[.map (some r), .map (some r')] (by simp only [List.map_toArray, List.map_cons, List.map_nil]; rfl) ((meq_gives w.drew r r' g g' (hm.grow hBd) (hm'.grow hBd)).mono ?_)
  rintro e w4 ⟨b4, rfl, hB4, hb4⟩
  have hB4 := hBd.trans (hB4.mono hBd.size)
  obtain rfl : b4 = true := hb4.2 hg
  refine ⟨_, rfl, fun _ => hS _ hB4, ?_⟩
  simp only [List.getElem_toArray, List.getElem_cons_succ, List.getElem_cons_zero, Act.put, List.setIfInBounds_toArray, List.set_cons_zero, List.set_cons_succ]
  refine RegF.take0 41 (.bool true) rfl (by kernel_rfl) (by kernel_rfl) (by kernel_rfl) rfl (fun _ _ _ h => h) (hS _ hB4) (RegF.yld rfl (fun W hW => by obtain ⟨⟨k0, k1, k2, k3, k4⟩, j0, j1, j2, j3, j4⟩ := hW; go_simp)) ?_
  simp only [List.getElem_toArray, List.getElem_cons_succ, List.getElem_cons_zero, Act.put, List.setIfInBounds_toArray, List.set_cons_zero, List.set_cons_succ]
  refine RegF.take0 42 (.bool true) rfl (by kernel_rfl) (by kernel_rfl) (by kernel_rfl) rfl (fun _ _ _ h => h) (hS _ hB4) (RegF.yld rfl (fun W hW => by obtain ⟨⟨k0, k1, k2, k3, k4⟩, j0, j1, j2, j3, j4⟩ := hW; go_simp)) ?_
  simp only [List.getElem_toArray, List.getElem_cons_succ, List.getElem_cons_zero, Act.put, List.setIfInBounds_toArray, List.set_cons_zero, List.set_cons_succ]
  refine RegF.take0 43 (.pointer (some ⟨p, 0, none⟩)) rfl (by kernel_rfl) (by kernel_rfl) (by kernel_rfl) rfl (fun _ _ _ h => h) (hS _ hB4) (.inl ⟨by first | rfl | simp [Region.wanted, yielded, Act.put], fun W hW => by obtain ⟨⟨k0, k1, k2, k3, k4⟩, j0, j1, j2, j3, j4⟩ := hW; go_simp⟩) ?_
  simp only [List.getElem_toArray, List.getElem_cons_succ, List.getElem_cons_zero, Act.put, List.setIfInBounds_toArray, List.set_cons_zero, List.set_cons_succ]
  refine RegF.take0 44 (.pointer (some ⟨p, 0, none⟩)) rfl (by kernel_rfl) (by kernel_rfl) (by kernel_rfl) rfl (fun _ _ _ h => h) (hS _ hB4) (.inl ⟨by first | rfl | simp [Region.wanted, yielded, Act.put], fun W hW => by obtain ⟨⟨k0, k1, k2, k3, k4⟩, j0, j1, j2, j3, j4⟩ := hW; go_simp⟩) ?_
  simp only [List.getElem_toArray, List.getElem_cons_succ, List.getElem_cons_zero, Act.put, List.setIfInBounds_toArray, List.set_cons_zero, List.set_cons_succ]
  refine RegF.take0 45 (.pointer (some ⟨p, 2, none⟩)) rfl (by kernel_rfl) (by kernel_rfl) (by kernel_rfl) rfl (fun _ _ _ h => h) (hS _ hB4) (.inl ⟨by first | rfl | simp [Region.wanted, yielded, Act.put], fun W hW => by obtain ⟨⟨k0, k1, k2, k3, k4⟩, j0, j1, j2, j3, j4⟩ := hW; go_simp⟩) ?_
  simp only [List.getElem_toArray, List.getElem_cons_succ, List.getElem_cons_zero, Act.put, List.setIfInBounds_toArray, List.set_cons_zero, List.set_cons_succ]
  refine RegF.take0 46 (.slice A xs.length c) rfl (by kernel_rfl) (by kernel_rfl) (by kernel_rfl) rfl (fun _ _ _ h => h) (hS _ hB4) (.inl ⟨by first | rfl | simp [Region.wanted, yielded, Act.put], fun W hW => by obtain ⟨⟨k0, k1, k2, k3, k4⟩, j0, j1, j2, j3, j4⟩ := hW; go_simp⟩) ?_
  simp only [List.getElem_toArray, List.getElem_cons_succ, List.getElem_cons_zero, Act.put, List.setIfInBounds_toArray, List.set_cons_zero, List.set_cons_succ]
  refine RegF.take0 47 (.pointer (some ⟨q, 0, none⟩)) rfl (by kernel_rfl) (by kernel_rfl) (by kernel_rfl) rfl (fun _ _ _ h => h) (hS _ hB4) (.inl ⟨by first | rfl | simp [Region.wanted, yielded, Act.put], fun W hW => by obtain ⟨⟨k0, k1, k2, k3, k4⟩, j0, j1, j2, j3, j4⟩ := hW; go_simp⟩) ?_
  simp only [List.getElem_toArray, List.getElem_cons_succ, List.getElem_cons_zero, Act.put, List.setIfInBounds_toArray, List.set_cons_zero, List.set_cons_succ]
  refine RegF.take0 48 (.pointer (some ⟨q, 0, none⟩)) rfl (by kernel_rfl) (by kernel_rfl) (by kernel_rfl) rfl (fun _ _ _ h => h) (hS _ hB4) (.inl ⟨by first | rfl | simp [Region.wanted, yielded, Act.put], fun W hW => by obtain ⟨⟨k0, k1, k2, k3, k4⟩, j0, j1, j2, j3, j4⟩ := hW; go_simp⟩) ?_
  simp only [List.getElem_toArray, List.getElem_cons_succ, List.getElem_cons_zero, Act.put, List.setIfInBounds_toArray, List.set_cons_zero, List.set_cons_succ]
  refine RegF.take0 49 (.pointer (some ⟨q, 2, none⟩)) rfl (by kernel_rfl) (by kernel_rfl) (by kernel_rfl) rfl (fun _ _ _ h => h) (hS _ hB4) (.inl ⟨by first | rfl | simp [Region.wanted, yielded, Act.put], fun W hW => by obtain ⟨⟨k0, k1, k2, k3, k4⟩, j0, j1, j2, j3, j4⟩ := hW; go_simp⟩) ?_
  simp only [List.getElem_toArray, List.getElem_cons_succ, List.getElem_cons_zero, Act.put, List.setIfInBounds_toArray, List.set_cons_zero, List.set_cons_succ]
  refine RegF.take0 50 (.slice A' xs'.length c') rfl (by kernel_rfl) (by kernel_rfl) (by kernel_rfl) rfl (fun _ _ _ h => h) (hS _ hB4) (.inl ⟨by first | rfl | simp [Region.wanted, yielded, Act.put], fun W hW => by obtain ⟨⟨k0, k1, k2, k3, k4⟩, j0, j1, j2, j3, j4⟩ := hW; go_simp⟩) ?_
  simp only [List.getElem_toArray, List.getElem_cons_succ, List.getElem_cons_zero, Act.put, List.setIfInBounds_toArray, List.set_cons_zero, List.set_cons_succ]
  refine RegF.one 51 (by kernel_rfl) ?_
  refine opCG 157 #[.tmp 63, .tmp 67] #[152, 152] rfl (by first | rfl | simp [Region.wanted, yielded, Act.put]) rfl (enters_of Try.func157 (by kernel_rfl) rfl) #[.slice A xs.length c, .slice A' xs'.length c'] (by simp only [List.map_toArray, List.map_cons, List.map_nil]; rfl) ((leq_gives w4 A c xs A' c' xs' (hx.grow' hB4) (hx'.grow' hB4) hl).mono ?_)
  rintro e w5 ⟨b5, rfl, hB5, hb5⟩
  have hB5 := hB4.trans (hB5.mono hB4.size)
  obtain rfl : b5 = true := hb5.2 hxx
  refine ⟨_, rfl, fun _ => hS _ hB5, ?_⟩
  simp only [List.getElem_toArray, List.getElem_cons_succ, List.getElem_cons_zero, Act.put, List.setIfInBounds_toArray, List.set_cons_zero, List.set_cons_succ]
  refine RegF.take0 52 (.bool true) rfl (by kernel_rfl) (by kernel_rfl) (by kernel_rfl) rfl (fun _ _ _ h => h) (hS _ hB5) (RegF.yld rfl (fun W hW => by obtain ⟨⟨k0, k1, k2, k3, k4⟩, j0, j1, j2, j3, j4⟩ := hW; go_simp)) ?_
  simp only [List.getElem_toArray, List.getElem_cons_succ, List.getElem_cons_zero, Act.put, List.setIfInBounds_toArray, List.set_cons_zero, List.set_cons_succ]
  refine RegF.one 53 (by kernel_rfl) ?_
  refine RegF.opV (w' := w5) (.bool true) rfl rfl (by go_simp) ⟨fun _ => (hS _ hB5), ?_⟩
  simp only [List.getElem_toArray, List.getElem_cons_succ, List.getElem_cons_zero, Act.put, List.setIfInBounds_toArray, List.set_cons_zero, List.set_cons_succ]
  refine RegF.done (by kernel_rfl) ?_
  go_wp2
  go_ret
  exact ⟨rfl, hB5⟩
/-- disk.Same, of whatever two. -/
theorem dsame_gives (hD : DkIs w p many g xs left stops) (hD' : DkIs w q many' g' xs' left' stops') (hl : xs.length ≤ 1000000) :
    Calls Try.prog 86 #[.pointer (some ⟨p, 0, none⟩), .pointer (some ⟨q, 0, none⟩)] w (YesR w (many = many' ∧ left = left' ∧ stops = stops' ∧ (∀ k, g k = g' k) ∧ xs = xs')) := by
  by_cases h1 : many = many'
  · subst h1
    by_cases h2 : left = left'
    · subst h2
      by_cases h3 : stops = stops'
      · subst h3
        by_cases h4 : ∀ k, g k = g' k
        · by_cases h5 : xs = xs'
          · exact (dsame_all w p q many g g' xs xs' left stops hD hD' hl h4 h5).mono fun e w' ⟨h, hB⟩ => ⟨true, h, hB, fun _ => ⟨rfl, rfl, rfl, h4, h5⟩, fun _ => rfl⟩
          · exact (dsame_loose w p q many g g' xs xs' left stops hD hD' hl h4 h5).mono fun e w' ⟨h, hB⟩ => ⟨false, h, hB, (fun e => by cases e), fun e => absurd e.2.2.2.2 h5⟩
        · exact (dsame_maps w p q many g g' xs xs' left stops hD hD' hl h4).mono fun e w' ⟨h, hB⟩ => ⟨false, h, hB, (fun e => by cases e), fun e => absurd e.2.2.2.1 h4⟩
      · exact (dsame_stops w p q many g g' xs xs' left stops stops' hD hD' hl h3).mono fun e w' ⟨h, hB⟩ => ⟨false, h, hB, (fun e => by cases e), fun e => absurd e.2.2.1 h3⟩
    · exact (dsame_left w p q many g g' xs xs' left left' stops stops' hD hD' hl h2).mono fun e w' ⟨h, hB⟩ => ⟨false, h, hB, (fun e => by cases e), fun e => absurd e.2.1 h2⟩
  · exact (dsame_many w p q many many' g g' xs xs' left left' stops stops' hD hD' hl h1).mono fun e w' ⟨h, hB⟩ => ⟨false, h, hB, (fun e => by cases e), fun e => absurd e.1 h1⟩
end
end Go.Proofs.Ytlelckdcmlpmdaa
