/- Texts that the proof of DiskCopies leans on, part 14. -/
import Derived.Deep.Slices
import Derived.Deep.Grids
import Derived.ChangeArms
import Derived.SizedLaws
import Derived.Test.YtlelckdcmlpmdaaDiskCopiesB13
/- loupelaw04.DiskCopies: the walk. -/
namespace Go.Proofs.Ytlelckdcmlpmdaa
open Go Go.RowKit Lou

theorem wp_stop {P : Program} {C : Code} {Q : Exit → Act → World → Prop} {a0 : Act} {w0 : World} (S : Act → World → Prop) (h1 : C.wp P (fun e a w => e = .normal ∧ S a w) a0 w0) (h2 : ∀ a w, S a w → Q .normal a w) : C.wp P Q a0 w0 :=
  wp_mono h1 fun e a w ⟨he, h⟩ => by subst he; exact h2 a w h
theorem InG.grownNe {w w' : World} {B sz g o n c : Nat} {cs : List Value} {row : Option Nat} (h : InG w B sz (some ⟨g, o, none⟩) n c cs) (hg : w.grownBy w' row) (hne : some g ≠ row) (hB : B ≤ w.heap.size := by first | exact Nat.le_refl _ | omega) : InG w' w'.heap.size sz (some ⟨g, o, none⟩) n c cs := by
  refine ⟨h.le, h.max, h.nil, h.len, h.one, fun h0 => ?_⟩
  obtain ⟨g', o', e, hl, hr⟩ := h.lies h0
  injection e with e
  injection e with e1 e2
  subst e1 e2
  exact ⟨g, o, rfl, Nat.lt_of_lt_of_le hl (Nat.le_trans hB hg.size), fun j v hj => (World.cell?_of_block (hg.block g (Nat.lt_of_lt_of_le hl hB) hne)).trans (hr j v hj)⟩
theorem two_at {W : World} {b : Nat} {T : TypeId} {cs : List Value} (h : BlkIs W b T cs.toArray) (k : Nat) : W.rangeAt b k ((cs.drop k).take 5) := fun j v hj => by
  rw [h.cell]
  by_cases h5 : j < 5
  · rw [List.getElem?_take_of_lt h5, List.getElem?_drop] at hj
    simpa using hj
  · rw [List.getElem?_take_eq_none (by omega)] at hj
    cases hj
set_option maxRecDepth 100000 in
set_option maxHeartbeats 16000000 in
theorem cop_out1 (w : World) (n : Int) (xs : List ActV) (A : Option Addr) (c : Nat) (wh0 at0 nn0 : Int) (bb0 : UInt8) (kp0 : List Bool) (K0 : Option Addr) (kc0 : Nat) (wh1 at1 nn1 : Int) (bb1 : UInt8) (kp1 : List Bool) (K1 : Option Addr) (kc1 : Nat) (hL : InG w w.heap.size 5 A xs.length c (acsC xs)) (hxl : xs.length * 56 ≤ 140737488351232) (hn : n < 1) :
    Calls Try.prog 17 #[.int .i64 n, .slice A xs.length c, .agg #[.int .i64 wh0, .int .i64 at0, .int .i64 nn0, .int .u8 (bb0.toNat : Int), .slice K0 kp0.length kc0, .int .i64 wh1, .int .i64 at1, .int .i64 nn1, .int .u8 (bb1.toNat : Int), .slice K1 kp1.length kc1]] w fun e w' => e = .returned (.bool true) ∧ Below w.heap.size w w' := by
  have b1' := BlkIs.new w 137 #[.int .i64 wh0, .int .i64 at0, .int .i64 nn0, .int .u8 (bb0.toNat : Int), .slice K0 kp0.length kc0, .int .i64 wh1, .int .i64 at1, .int .i64 nn1, .int .u8 (bb1.toNat : Int), .slice K1 kp1.length kc1]
  have hB1' : Below w.heap.size w (w.alloc (.cells #[.int .i64 wh0, .int .i64 at0, .int .i64 nn0, .int .u8 (bb0.toNat : Int), .slice K0 kp0.length kc0, .int .i64 wh1, .int .i64 at1, .int .i64 nn1, .int .u8 (bb1.toNat : Int), .slice K1 kp1.length kc1] 137)) := (Below.refl _ w).alloc (Nat.le_refl _) _
  have hL1' := hL.grow hB1'
  obtain ⟨W1, hW1⟩ : ∃ W, W = w.alloc (.cells #[.int .i64 wh0, .int .i64 at0, .int .i64 nn0, .int .u8 (bb0.toNat : Int), .slice K0 kp0.length kc0, .int .i64 wh1, .int .i64 at1, .int .i64 nn1, .int .u8 (bb1.toNat : Int), .slice K1 kp1.length kc1] 137) := ⟨_, rfl⟩
  have b1 : BlkIs W1 w.heap.size 137 #[.int .i64 wh0, .int .i64 at0, .int .i64 nn0, .int .u8 (bb0.toNat : Int), .slice K0 kp0.length kc0, .int .i64 wh1, .int .i64 at1, .int .i64 nn1, .int .u8 (bb1.toNat : Int), .slice K1 kp1.length kc1] := by rw [hW1]; exact b1'
  have hB1 : Below w.heap.size w W1 := by rw [hW1]; exact hB1'
  have hL1 : InG W1 W1.heap.size 5 A xs.length c (acsC xs) := by rw [hW1]; exact hL1'
  have HW1 := Lib.hid hW1
  clear hW1 b1' hB1' hL1'
  go_enter Try.func17, Try.ntmps17
  go_upto_region 1 with fail
  rw [← HW1.out]
  clear HW1
  refine RegF.start (fun W => BlkIs W w.heap.size 137 #[.int .i64 wh0, .int .i64 at0, .int .i64 nn0, .int .u8 (bb0.toNat : Int), .slice K0 kp0.length kc0, .int .i64 wh1, .int .i64 at1, .int .i64 nn1, .int .u8 (bb1.toNat : Int), .slice K1 kp1.length kc1]) 99 (by kernel_rfl) ?_
  have hSd : BlkIs W1.drew w.heap.size 137 #[.int .i64 wh0, .int .i64 at0, .int .i64 nn0, .int .u8 (bb0.toNat : Int), .slice K0 kp0.length kc0, .int .i64 wh1, .int .i64 at1, .int .i64 nn1, .int .u8 (bb1.toNat : Int), .slice K1 kp1.length kc1] := b1
  refine RegF.take0 0 (.int .i64 n) rfl (by kernel_rfl) (by kernel_rfl) (by kernel_rfl) rfl (fun _ _ _ h => h) hSd (RegF.yld rfl (fun W hW => by go_simp)) ?_
  simp only [List.getElem_toArray, List.getElem_cons_zero, Act.put, List.setIfInBounds_toArray, List.set_cons_zero, List.set_cons_succ]
  refine RegF.take0 1 (.bool true) rfl (by kernel_rfl) (by kernel_rfl) (by kernel_rfl) rfl (fun _ _ _ h => h) hSd (RegF.yld rfl (fun W hW => by go_simp)) ?_
  simp only [List.getElem_toArray, List.getElem_cons_succ, List.getElem_cons_zero, Act.put, List.setIfInBounds_toArray, List.set_cons_zero, List.set_cons_succ]
  refine RegF.take0 2 (.bool true) rfl (by kernel_rfl) (by kernel_rfl) (by kernel_rfl) rfl (fun _ _ _ h => h) hSd (RegF.yld rfl (fun W hW => by go_simp)) ?_
  simp only [List.getElem_toArray, List.getElem_cons_succ, List.getElem_cons_zero, Act.put, List.setIfInBounds_toArray, List.set_cons_zero, List.set_cons_succ]
  refine RegF.take0 3 (undef) rfl (by kernel_rfl) (by kernel_rfl) (by kernel_rfl) rfl (fun _ _ _ h => h) hSd (.inr ⟨by first | rfl | simp [Region.wanted, yielded, Act.put], rfl⟩) ?_
  simp only [List.getElem_toArray, List.getElem_cons_succ, List.getElem_cons_zero, Act.put, List.setIfInBounds_toArray, List.set_cons_zero, List.set_cons_succ]
  refine RegF.take0 4 (undef) rfl (by kernel_rfl) (by kernel_rfl) (by kernel_rfl) rfl (fun _ _ _ h => h) hSd (.inr ⟨by first | rfl | simp [Region.wanted, yielded, Act.put], rfl⟩) ?_
  simp only [List.getElem_toArray, List.getElem_cons_succ, List.getElem_cons_zero, Act.put, List.setIfInBounds_toArray, List.set_cons_zero, List.set_cons_succ]
  refine RegF.take0 5 (.bool true) rfl (by kernel_rfl) (by kernel_rfl) (by kernel_rfl) rfl (fun _ _ _ h => h) hSd (RegF.yld rfl (fun W hW => by go_simp)) ?_
  simp only [List.getElem_toArray, List.getElem_cons_succ, List.getElem_cons_zero, Act.put, List.setIfInBounds_toArray, List.set_cons_zero, List.set_cons_succ]
  refine RegF.take0 6 (.bool true) rfl (by kernel_rfl) (by kernel_rfl) (by kernel_rfl) rfl (fun _ _ _ h => h) hSd (RegF.yld rfl (fun W hW => by go_simp)) ?_
  simp only [List.getElem_toArray, List.getElem_cons_succ, List.getElem_cons_zero, Act.put, List.setIfInBounds_toArray, List.set_cons_zero, List.set_cons_succ]
  refine RegF.take0 7 (undef) rfl (by kernel_rfl) (by kernel_rfl) (by kernel_rfl) rfl (fun _ _ _ h => h) hSd (.inr ⟨by first | rfl | simp [Region.wanted, yielded, Act.put], rfl⟩) ?_
  simp only [List.getElem_toArray, List.getElem_cons_succ, List.getElem_cons_zero, Act.put, List.setIfInBounds_toArray, List.set_cons_zero, List.set_cons_succ]
  refine RegF.take0 8 (undef) rfl (by kernel_rfl) (by kernel_rfl) (by kernel_rfl) rfl (fun _ _ _ h => h) hSd (.inr ⟨by first | rfl | simp [Region.wanted, yielded, Act.put], rfl⟩) ?_
  simp only [List.getElem_toArray, List.getElem_cons_succ, List.getElem_cons_zero, Act.put, List.setIfInBounds_toArray, List.set_cons_zero, List.set_cons_succ]
  refine RegF.take0 9 (undef) rfl (by kernel_rfl) (by kernel_rfl) (by kernel_rfl) rfl (fun _ _ _ h => h) hSd (.inr ⟨by first | rfl | simp [Region.wanted, yielded, Act.put], rfl⟩) ?_
  simp only [List.getElem_toArray, List.getElem_cons_succ, List.getElem_cons_zero, Act.put, List.setIfInBounds_toArray, List.set_cons_zero, List.set_cons_succ]
  refine RegF.take0 10 (undef) rfl (by kernel_rfl) (by kernel_rfl) (by kernel_rfl) rfl (fun _ _ _ h => h) hSd (.inr ⟨by first | rfl | simp [Region.wanted, yielded, Act.put], rfl⟩) ?_
  simp only [List.getElem_toArray, List.getElem_cons_succ, List.getElem_cons_zero, Act.put, List.setIfInBounds_toArray, List.set_cons_zero, List.set_cons_succ]
  refine RegF.take0 11 (undef) rfl (by kernel_rfl) (by kernel_rfl) (by kernel_rfl) rfl (fun _ _ _ h => h) hSd (.inr ⟨by first | rfl | simp [Region.wanted, yielded, Act.put], rfl⟩) ?_
  simp only [List.getElem_toArray, List.getElem_cons_succ, List.getElem_cons_zero, Act.put, List.setIfInBounds_toArray, List.set_cons_zero, List.set_cons_succ]
  refine RegF.take0 12 (undef) rfl (by kernel_rfl) (by kernel_rfl) (by kernel_rfl) rfl (fun _ _ _ h => h) hSd (.inr ⟨by first | rfl | simp [Region.wanted, yielded, Act.put], rfl⟩) ?_
  simp only [List.getElem_toArray, List.getElem_cons_succ, List.getElem_cons_zero, Act.put, List.setIfInBounds_toArray, List.set_cons_zero, List.set_cons_succ]
  refine RegF.take0 13 (undef) rfl (by kernel_rfl) (by kernel_rfl) (by kernel_rfl) rfl (fun _ _ _ h => h) hSd (.inr ⟨by first | rfl | simp [Region.wanted, yielded, Act.put], rfl⟩) ?_
  simp only [List.getElem_toArray, List.getElem_cons_succ, List.getElem_cons_zero, Act.put, List.setIfInBounds_toArray, List.set_cons_zero, List.set_cons_succ]
  refine RegF.take0 14 (undef) rfl (by kernel_rfl) (by kernel_rfl) (by kernel_rfl) rfl (fun _ _ _ h => h) hSd (.inr ⟨by first | rfl | simp [Region.wanted, yielded, Act.put], rfl⟩) ?_
  simp only [List.getElem_toArray, List.getElem_cons_succ, List.getElem_cons_zero, Act.put, List.setIfInBounds_toArray, List.set_cons_zero, List.set_cons_succ]
  refine RegF.take0 15 (undef) rfl (by kernel_rfl) (by kernel_rfl) (by kernel_rfl) rfl (fun _ _ _ h => h) hSd (.inr ⟨by first | rfl | simp [Region.wanted, yielded, Act.put], rfl⟩) ?_
  simp only [List.getElem_toArray, List.getElem_cons_succ, List.getElem_cons_zero, Act.put, List.setIfInBounds_toArray, List.set_cons_zero, List.set_cons_succ]
  refine RegF.take0 16 (undef) rfl (by kernel_rfl) (by kernel_rfl) (by kernel_rfl) rfl (fun _ _ _ h => h) hSd (.inr ⟨by first | rfl | simp [Region.wanted, yielded, Act.put], rfl⟩) ?_
  simp only [List.getElem_toArray, List.getElem_cons_succ, List.getElem_cons_zero, Act.put, List.setIfInBounds_toArray, List.set_cons_zero, List.set_cons_succ]
  refine RegF.take0 17 (undef) rfl (by kernel_rfl) (by kernel_rfl) (by kernel_rfl) rfl (fun _ _ _ h => h) hSd (.inr ⟨by first | rfl | simp [Region.wanted, yielded, Act.put], rfl⟩) ?_
  simp only [List.getElem_toArray, List.getElem_cons_succ, List.getElem_cons_zero, Act.put, List.setIfInBounds_toArray, List.set_cons_zero, List.set_cons_succ]
  refine RegF.take0 18 (.bool true) rfl (by kernel_rfl) (by kernel_rfl) (by kernel_rfl) rfl (fun _ _ _ h => h) hSd (RegF.yld rfl (fun W hW => by go_simp)) ?_
  simp only [List.getElem_toArray, List.getElem_cons_succ, List.getElem_cons_zero, Act.put, List.setIfInBounds_toArray, List.set_cons_zero, List.set_cons_succ]
  refine RegF.done (by kernel_rfl) ?_
  go_wp2_with (go_at_call 18; refine (works4_gives _).mono ?_; rintro e w5 ⟨rfl, hB5⟩)
  go_ret
  exact ⟨rfl, hB1.trans (((Below.refl _ W1).drew.trans hB5).mono hB1.size)⟩
set_option maxRecDepth 100000 in
set_option maxHeartbeats 16000000 in
theorem cop_out2 (w : World) (n : Int) (xs : List ActV) (A : Option Addr) (c : Nat) (wh0 at0 nn0 : Int) (bb0 : UInt8) (kp0 : List Bool) (K0 : Option Addr) (kc0 : Nat) (wh1 at1 nn1 : Int) (bb1 : UInt8) (kp1 : List Bool) (K1 : Option Addr) (kc1 : Nat) (hL : InG w w.heap.size 5 A xs.length c (acsC xs)) (hxl : xs.length * 56 ≤ 140737488351232) (hn1 : ¬ n < 1) (hn : 12 < n) :
    Calls Try.prog 17 #[.int .i64 n, .slice A xs.length c, .agg #[.int .i64 wh0, .int .i64 at0, .int .i64 nn0, .int .u8 (bb0.toNat : Int), .slice K0 kp0.length kc0, .int .i64 wh1, .int .i64 at1, .int .i64 nn1, .int .u8 (bb1.toNat : Int), .slice K1 kp1.length kc1]] w fun e w' => e = .returned (.bool true) ∧ Below w.heap.size w w' := by
  have b1' := BlkIs.new w 137 #[.int .i64 wh0, .int .i64 at0, .int .i64 nn0, .int .u8 (bb0.toNat : Int), .slice K0 kp0.length kc0, .int .i64 wh1, .int .i64 at1, .int .i64 nn1, .int .u8 (bb1.toNat : Int), .slice K1 kp1.length kc1]
  have hB1' : Below w.heap.size w (w.alloc (.cells #[.int .i64 wh0, .int .i64 at0, .int .i64 nn0, .int .u8 (bb0.toNat : Int), .slice K0 kp0.length kc0, .int .i64 wh1, .int .i64 at1, .int .i64 nn1, .int .u8 (bb1.toNat : Int), .slice K1 kp1.length kc1] 137)) := (Below.refl _ w).alloc (Nat.le_refl _) _
  have hL1' := hL.grow hB1'
  obtain ⟨W1, hW1⟩ : ∃ W, W = w.alloc (.cells #[.int .i64 wh0, .int .i64 at0, .int .i64 nn0, .int .u8 (bb0.toNat : Int), .slice K0 kp0.length kc0, .int .i64 wh1, .int .i64 at1, .int .i64 nn1, .int .u8 (bb1.toNat : Int), .slice K1 kp1.length kc1] 137) := ⟨_, rfl⟩
  have b1 : BlkIs W1 w.heap.size 137 #[.int .i64 wh0, .int .i64 at0, .int .i64 nn0, .int .u8 (bb0.toNat : Int), .slice K0 kp0.length kc0, .int .i64 wh1, .int .i64 at1, .int .i64 nn1, .int .u8 (bb1.toNat : Int), .slice K1 kp1.length kc1] := by rw [hW1]; exact b1'
  have hB1 : Below w.heap.size w W1 := by rw [hW1]; exact hB1'
  have hL1 : InG W1 W1.heap.size 5 A xs.length c (acsC xs) := by rw [hW1]; exact hL1'
  have HW1 := Lib.hid hW1
  clear hW1 b1' hB1' hL1'
  go_enter Try.func17, Try.ntmps17
  go_upto_region 1 with fail
  rw [← HW1.out]
  clear HW1
  refine RegF.start (fun W => BlkIs W w.heap.size 137 #[.int .i64 wh0, .int .i64 at0, .int .i64 nn0, .int .u8 (bb0.toNat : Int), .slice K0 kp0.length kc0, .int .i64 wh1, .int .i64 at1, .int .i64 nn1, .int .u8 (bb1.toNat : Int), .slice K1 kp1.length kc1]) 99 (by kernel_rfl) ?_
  have hSd : BlkIs W1.drew w.heap.size 137 #[.int .i64 wh0, .int .i64 at0, .int .i64 nn0, .int .u8 (bb0.toNat : Int), .slice K0 kp0.length kc0, .int .i64 wh1, .int .i64 at1, .int .i64 nn1, .int .u8 (bb1.toNat : Int), .slice K1 kp1.length kc1] := b1
  refine RegF.take0 0 (.int .i64 n) rfl (by kernel_rfl) (by kernel_rfl) (by kernel_rfl) rfl (fun _ _ _ h => h) hSd (RegF.yld rfl (fun W hW => by go_simp)) ?_
  simp only [List.getElem_toArray, List.getElem_cons_zero, Act.put, List.setIfInBounds_toArray, List.set_cons_zero, List.set_cons_succ]
  refine RegF.take0 1 (.bool false) rfl (by kernel_rfl) (by kernel_rfl) (by kernel_rfl) rfl (fun _ _ _ h => h) hSd (RegF.yld rfl (fun W hW => by go_simp)) ?_
  simp only [List.getElem_toArray, List.getElem_cons_succ, List.getElem_cons_zero, Act.put, List.setIfInBounds_toArray, List.set_cons_zero, List.set_cons_succ]
  refine RegF.take0 2 (.bool false) rfl (by kernel_rfl) (by kernel_rfl) (by kernel_rfl) rfl (fun _ _ _ h => h) hSd (RegF.yld rfl (fun W hW => by go_simp)) ?_
  simp only [List.getElem_toArray, List.getElem_cons_succ, List.getElem_cons_zero, Act.put, List.setIfInBounds_toArray, List.set_cons_zero, List.set_cons_succ]
  refine RegF.take0 3 (.int .i64 n) rfl (by kernel_rfl) (by kernel_rfl) (by kernel_rfl) rfl (fun _ _ _ h => h) hSd (.inl ⟨by first | rfl | simp [Region.wanted, yielded, Act.put], fun W hW => by go_simp⟩) ?_
  simp only [List.getElem_toArray, List.getElem_cons_succ, List.getElem_cons_zero, Act.put, List.setIfInBounds_toArray, List.set_cons_zero, List.set_cons_succ]
  refine RegF.take0 4 (.bool true) rfl (by kernel_rfl) (by kernel_rfl) (by kernel_rfl) rfl (fun _ _ _ h => h) hSd (.inl ⟨by first | rfl | simp [Region.wanted, yielded, Act.put], fun W hW => by go_simp⟩) ?_
  simp only [List.getElem_toArray, List.getElem_cons_succ, List.getElem_cons_zero, Act.put, List.setIfInBounds_toArray, List.set_cons_zero, List.set_cons_succ]
  refine RegF.take0 5 (.bool true) rfl (by kernel_rfl) (by kernel_rfl) (by kernel_rfl) rfl (fun _ _ _ h => h) hSd (RegF.yld rfl (fun W hW => by go_simp)) ?_
  simp only [List.getElem_toArray, List.getElem_cons_succ, List.getElem_cons_zero, Act.put, List.setIfInBounds_toArray, List.set_cons_zero, List.set_cons_succ]
  refine RegF.take0 6 (.bool true) rfl (by kernel_rfl) (by kernel_rfl) (by kernel_rfl) rfl (fun _ _ _ h => h) hSd (RegF.yld rfl (fun W hW => by go_simp)) ?_
  simp only [List.getElem_toArray, List.getElem_cons_succ, List.getElem_cons_zero, Act.put, List.setIfInBounds_toArray, List.set_cons_zero, List.set_cons_succ]
  refine RegF.take0 7 (undef) rfl (by kernel_rfl) (by kernel_rfl) (by kernel_rfl) rfl (fun _ _ _ h => h) hSd (.inr ⟨by first | rfl | simp [Region.wanted, yielded, Act.put], rfl⟩) ?_
  simp only [List.getElem_toArray, List.getElem_cons_succ, List.getElem_cons_zero, Act.put, List.setIfInBounds_toArray, List.set_cons_zero, List.set_cons_succ]
  refine RegF.take0 8 (undef) rfl (by kernel_rfl) (by kernel_rfl) (by kernel_rfl) rfl (fun _ _ _ h => h) hSd (.inr ⟨by first | rfl | simp [Region.wanted, yielded, Act.put], rfl⟩) ?_
  simp only [List.getElem_toArray, List.getElem_cons_succ, List.getElem_cons_zero, Act.put, List.setIfInBounds_toArray, List.set_cons_zero, List.set_cons_succ]
  refine RegF.take0 9 (undef) rfl (by kernel_rfl) (by kernel_rfl) (by kernel_rfl) rfl (fun _ _ _ h => h) hSd (.inr ⟨by first | rfl | simp [Region.wanted, yielded, Act.put], rfl⟩) ?_
  simp only [List.getElem_toArray, List.getElem_cons_succ, List.getElem_cons_zero, Act.put, List.setIfInBounds_toArray, List.set_cons_zero, List.set_cons_succ]
  refine RegF.take0 10 (undef) rfl (by kernel_rfl) (by kernel_rfl) (by kernel_rfl) rfl (fun _ _ _ h => h) hSd (.inr ⟨by first | rfl | simp [Region.wanted, yielded, Act.put], rfl⟩) ?_
  simp only [List.getElem_toArray, List.getElem_cons_succ, List.getElem_cons_zero, Act.put, List.setIfInBounds_toArray, List.set_cons_zero, List.set_cons_succ]
  refine RegF.take0 11 (undef) rfl (by kernel_rfl) (by kernel_rfl) (by kernel_rfl) rfl (fun _ _ _ h => h) hSd (.inr ⟨by first | rfl | simp [Region.wanted, yielded, Act.put], rfl⟩) ?_
  simp only [List.getElem_toArray, List.getElem_cons_succ, List.getElem_cons_zero, Act.put, List.setIfInBounds_toArray, List.set_cons_zero, List.set_cons_succ]
  refine RegF.take0 12 (undef) rfl (by kernel_rfl) (by kernel_rfl) (by kernel_rfl) rfl (fun _ _ _ h => h) hSd (.inr ⟨by first | rfl | simp [Region.wanted, yielded, Act.put], rfl⟩) ?_
  simp only [List.getElem_toArray, List.getElem_cons_succ, List.getElem_cons_zero, Act.put, List.setIfInBounds_toArray, List.set_cons_zero, List.set_cons_succ]
  refine RegF.take0 13 (undef) rfl (by kernel_rfl) (by kernel_rfl) (by kernel_rfl) rfl (fun _ _ _ h => h) hSd (.inr ⟨by first | rfl | simp [Region.wanted, yielded, Act.put], rfl⟩) ?_
  simp only [List.getElem_toArray, List.getElem_cons_succ, List.getElem_cons_zero, Act.put, List.setIfInBounds_toArray, List.set_cons_zero, List.set_cons_succ]
  refine RegF.take0 14 (undef) rfl (by kernel_rfl) (by kernel_rfl) (by kernel_rfl) rfl (fun _ _ _ h => h) hSd (.inr ⟨by first | rfl | simp [Region.wanted, yielded, Act.put], rfl⟩) ?_
  simp only [List.getElem_toArray, List.getElem_cons_succ, List.getElem_cons_zero, Act.put, List.setIfInBounds_toArray, List.set_cons_zero, List.set_cons_succ]
  refine RegF.take0 15 (undef) rfl (by kernel_rfl) (by kernel_rfl) (by kernel_rfl) rfl (fun _ _ _ h => h) hSd (.inr ⟨by first | rfl | simp [Region.wanted, yielded, Act.put], rfl⟩) ?_
  simp only [List.getElem_toArray, List.getElem_cons_succ, List.getElem_cons_zero, Act.put, List.setIfInBounds_toArray, List.set_cons_zero, List.set_cons_succ]
  refine RegF.take0 16 (undef) rfl (by kernel_rfl) (by kernel_rfl) (by kernel_rfl) rfl (fun _ _ _ h => h) hSd (.inr ⟨by first | rfl | simp [Region.wanted, yielded, Act.put], rfl⟩) ?_
  simp only [List.getElem_toArray, List.getElem_cons_succ, List.getElem_cons_zero, Act.put, List.setIfInBounds_toArray, List.set_cons_zero, List.set_cons_succ]
  refine RegF.take0 17 (undef) rfl (by kernel_rfl) (by kernel_rfl) (by kernel_rfl) rfl (fun _ _ _ h => h) hSd (.inr ⟨by first | rfl | simp [Region.wanted, yielded, Act.put], rfl⟩) ?_
  simp only [List.getElem_toArray, List.getElem_cons_succ, List.getElem_cons_zero, Act.put, List.setIfInBounds_toArray, List.set_cons_zero, List.set_cons_succ]
  refine RegF.take0 18 (.bool true) rfl (by kernel_rfl) (by kernel_rfl) (by kernel_rfl) rfl (fun _ _ _ h => h) hSd (RegF.yld rfl (fun W hW => by go_simp)) ?_
  simp only [List.getElem_toArray, List.getElem_cons_succ, List.getElem_cons_zero, Act.put, List.setIfInBounds_toArray, List.set_cons_zero, List.set_cons_succ]
  refine RegF.done (by kernel_rfl) ?_
  go_wp2_with (go_at_call 18; refine (works4_gives _).mono ?_; rintro e w5 ⟨rfl, hB5⟩)
  go_ret
  exact ⟨rfl, hB1.trans (((Below.refl _ W1).drew.trans hB5).mono hB1.size)⟩
set_option maxRecDepth 100000 in
set_option maxHeartbeats 16000000 in
theorem cop_main (w : World) (m : Nat) (xs : List ActV) (A : Option Addr) (c : Nat) (wh0 at0 nn0 : Int) (bb0 : UInt8) (kp0 : List Bool) (K0 : Option Addr) (kc0 : Nat) (wh1 at1 nn1 : Int) (bb1 : UInt8) (kp1 : List Bool) (K1 : Option Addr) (kc1 : Nat) (hL : InG w w.heap.size 5 A xs.length c (acsC xs)) (hxl : xs.length * 56 ≤ 140737488351232) (hn1 : ¬ (m : Int) < 1) (hn : ¬ 12 < (m : Int)) (hKx : ∀ x ∈ xs, KeepIs w w.heap.size x) (hK0 : KeepIs w w.heap.size (⟨wh0, at0, nn0, bb0, kp0, K0, kc0⟩ : ActV)) (hK1 : KeepIs w w.heap.size (⟨wh1, at1, nn1, bb1, kp1, K1, kc1⟩ : ActV)) (hnx : ∀ x ∈ xs, x.n ≤ 9223372036854775807) (hn0 : nn0 ≤ 9223372036854775807) (hnn1 : nn1 ≤ 9223372036854775807) :
    Calls Try.prog 17 #[.int .i64 (m : Int), .slice A xs.length c, .agg #[.int .i64 wh0, .int .i64 at0, .int .i64 nn0, .int .u8 (bb0.toNat : Int), .slice K0 kp0.length kc0, .int .i64 wh1, .int .i64 at1, .int .i64 nn1, .int .u8 (bb1.toNat : Int), .slice K1 kp1.length kc1]] w fun e w' => e = .returned (.bool true) ∧ Below w.heap.size w w' := by
  have b1' := BlkIs.new w 137 #[.int .i64 wh0, .int .i64 at0, .int .i64 nn0, .int .u8 (bb0.toNat : Int), .slice K0 kp0.length kc0, .int .i64 wh1, .int .i64 at1, .int .i64 nn1, .int .u8 (bb1.toNat : Int), .slice K1 kp1.length kc1]
  have hB1' : Below w.heap.size w (w.alloc (.cells #[.int .i64 wh0, .int .i64 at0, .int .i64 nn0, .int .u8 (bb0.toNat : Int), .slice K0 kp0.length kc0, .int .i64 wh1, .int .i64 at1, .int .i64 nn1, .int .u8 (bb1.toNat : Int), .slice K1 kp1.length kc1] 137)) := (Below.refl _ w).alloc (Nat.le_refl _) _
  have hL1' := hL.grow hB1'
  obtain ⟨W1, hW1⟩ : ∃ W, W = w.alloc (.cells #[.int .i64 wh0, .int .i64 at0, .int .i64 nn0, .int .u8 (bb0.toNat : Int), .slice K0 kp0.length kc0, .int .i64 wh1, .int .i64 at1, .int .i64 nn1, .int .u8 (bb1.toNat : Int), .slice K1 kp1.length kc1] 137) := ⟨_, rfl⟩
  have b1 : BlkIs W1 w.heap.size 137 #[.int .i64 wh0, .int .i64 at0, .int .i64 nn0, .int .u8 (bb0.toNat : Int), .slice K0 kp0.length kc0, .int .i64 wh1, .int .i64 at1, .int .i64 nn1, .int .u8 (bb1.toNat : Int), .slice K1 kp1.length kc1] := by rw [hW1]; exact b1'
  have hB1 : Below w.heap.size w W1 := by rw [hW1]; exact hB1'
  have hL1 : InG W1 W1.heap.size 5 A xs.length c (acsC xs) := by rw [hW1]; exact hL1'
  have HW1 := Lib.hid hW1
  clear hW1 b1' hB1' hL1'
  go_enter Try.func17, Try.ntmps17
  go_upto_region 1 with fail
  rw [← HW1.out]
  clear HW1
  have h2one : ∀ v ∈ ([.int .i64 wh0, .int .i64 at0, .int .i64 nn0, .int .u8 (bb0.toNat : Int), .slice K0 kp0.length kc0, .int .i64 wh1, .int .i64 at1, .int .i64 nn1, .int .u8 (bb1.toNat : Int), .slice K1 kp1.length kc1] : List Value), v.oneCell' = true := fun v hv => by
    rcases List.mem_append.1 (show v ∈ actC (⟨wh0, at0, nn0, bb0, kp0, K0, kc0⟩ : ActV) ++ actC (⟨wh1, at1, nn1, bb1, kp1, K1, kc1⟩ : ActV) from hv) with h | h
    · exact actC_one _ v h
    · exact actC_one _ v h
  have h15one : ∀ v ∈ acsC xs ++ (actC (⟨wh0, at0, nn0, bb0, kp0, K0, kc0⟩ : ActV) ++ actC (⟨wh1, at1, nn1, bb1, kp1, K1, kc1⟩ : ActV)), v.oneCell' = true := fun v hv => by
    rcases List.mem_append.1 hv with h | h
    · exact acsC_one _ v h
    · exact h2one v h
  refine wp_stop (fun a W => ∃ v24 v26 v31 v32 fb, a = { tmps := #[.int .i64 (m : Int), .slice A xs.length c, .agg #[.int .i64 wh0, .int .i64 at0, .int .i64 nn0, .int .u8 (bb0.toNat : Int), .slice K0 kp0.length kc0, .int .i64 wh1, .int .i64 at1, .int .i64 nn1, .int .u8 (bb1.toNat : Int), .slice K1 kp1.length kc1], undef, undef, .pointer (some ⟨w.heap.size, 0, none⟩), .bool false, undef, undef, undef, undef, undef, undef, undef, undef, undef, undef, .int .i64 (m : Int), .bool false, .bool false, .int .i64 (m : Int), .bool false, .bool false, .bool false, v24, .slice A xs.length c, v26, .pointer (some ⟨w.heap.size, 0, none⟩), .agg #[.int .i64 wh0, .int .i64 at0, .int .i64 nn0, .int .u8 (bb0.toNat : Int), .slice K0 kp0.length kc0], .pointer (some ⟨w.heap.size, 5, none⟩), .agg #[.int .i64 wh1, .int .i64 at1, .int .i64 nn1, .int .u8 (bb1.toNat : Int), .slice K1 kp1.length kc1], v31, v32, .bool fb, .bool !fb, .bool !fb, undef, undef, undef, undef, undef, undef, undef, undef, undef, undef, undef, undef, undef, undef, undef, undef, undef, undef, undef, undef, undef, undef, undef, undef, undef, undef, undef, undef, undef, undef, undef, undef, undef, undef, undef, undef, undef, undef, undef, undef, undef, undef, undef, undef, undef, undef, undef, undef, undef, undef, undef, undef, undef, undef, undef, undef, undef, undef, undef, undef, undef, undef, undef, undef, undef, undef, undef, undef, undef, undef, undef, undef, undef, undef, undef, undef, undef, undef, undef, undef, undef, undef, undef, undef], defers := [] } ∧ (fb = true ↔ Few4 (xs ++ [(⟨wh0, at0, nn0, bb0, kp0, K0, kc0⟩ : ActV), (⟨wh1, at1, nn1, bb1, kp1, K1, kc1⟩ : ActV)]) 22) ∧ Below W1.heap.size W1 W) ?_ ?_
  · refine RegF.start (fun W => BlkIs W w.heap.size 137 #[.int .i64 wh0, .int .i64 at0, .int .i64 nn0, .int .u8 (bb0.toNat : Int), .slice K0 kp0.length kc0, .int .i64 wh1, .int .i64 at1, .int .i64 nn1, .int .u8 (bb1.toNat : Int), .slice K1 kp1.length kc1]) 99 (by kernel_rfl) ?_
    have hSd : BlkIs W1.drew w.heap.size 137 #[.int .i64 wh0, .int .i64 at0, .int .i64 nn0, .int .u8 (bb0.toNat : Int), .slice K0 kp0.length kc0, .int .i64 wh1, .int .i64 at1, .int .i64 nn1, .int .u8 (bb1.toNat : Int), .slice K1 kp1.length kc1] := b1
    have hBd : Below W1.heap.size W1 W1.drew := (Below.refl _ W1).drew
    have hSk : ∀ W, Below W1.heap.size W1 W → BlkIs W w.heap.size 137 #[.int .i64 wh0, .int .i64 at0, .int .i64 nn0, .int .u8 (bb0.toNat : Int), .slice K0 kp0.length kc0, .int .i64 wh1, .int .i64 at1, .int .i64 nn1, .int .u8 (bb1.toNat : Int), .slice K1 kp1.length kc1] := fun W h => b1.below h b1.lt
    refine RegF.take0 0 (.int .i64 (m : Int)) rfl (by kernel_rfl) (by kernel_rfl) (by kernel_rfl) rfl (fun _ _ _ h => (by cases h.1)) hSd (RegF.yld rfl (fun W hW => by go_simp)) ?_
    simp only [List.getElem_toArray, List.getElem_cons_zero, Act.put, List.setIfInBounds_toArray, List.set_cons_zero, List.set_cons_succ]
    refine RegF.take0 1 (.bool false) rfl (by kernel_rfl) (by kernel_rfl) (by kernel_rfl) rfl (fun _ _ _ h => (by cases h.1)) hSd (RegF.yld rfl (fun W hW => by go_simp)) ?_
    simp only [List.getElem_toArray, List.getElem_cons_succ, List.getElem_cons_zero, Act.put, List.setIfInBounds_toArray, List.set_cons_zero, List.set_cons_succ]
    refine RegF.take0 2 (.bool false) rfl (by kernel_rfl) (by kernel_rfl) (by kernel_rfl) rfl (fun _ _ _ h => (by cases h.1)) hSd (RegF.yld rfl (fun W hW => by go_simp)) ?_
    simp only [List.getElem_toArray, List.getElem_cons_succ, List.getElem_cons_zero, Act.put, List.setIfInBounds_toArray, List.set_cons_zero, List.set_cons_succ]
    refine RegF.take0 3 (.int .i64 (m : Int)) rfl (by kernel_rfl) (by kernel_rfl) (by kernel_rfl) rfl (fun _ _ _ h => (by cases h.1)) hSd (.inl ⟨by first | rfl | simp [Region.wanted, yielded, Act.put], fun W hW => by go_simp⟩) ?_
    simp only [List.getElem_toArray, List.getElem_cons_succ, List.getElem_cons_zero, Act.put, List.setIfInBounds_toArray, List.set_cons_zero, List.set_cons_succ]
    refine RegF.take0 4 (.bool false) rfl (by kernel_rfl) (by kernel_rfl) (by kernel_rfl) rfl (fun _ _ _ h => (by cases h.1)) hSd (.inl ⟨by first | rfl | simp [Region.wanted, yielded, Act.put], fun W hW => by go_simp⟩) ?_
    simp only [List.getElem_toArray, List.getElem_cons_succ, List.getElem_cons_zero, Act.put, List.setIfInBounds_toArray, List.set_cons_zero, List.set_cons_succ]
    refine RegF.take0 5 (.bool false) rfl (by kernel_rfl) (by kernel_rfl) (by kernel_rfl) rfl (fun _ _ _ h => (by cases h.1)) hSd (RegF.yld rfl (fun W hW => by go_simp)) ?_
    simp only [List.getElem_toArray, List.getElem_cons_succ, List.getElem_cons_zero, Act.put, List.setIfInBounds_toArray, List.set_cons_zero, List.set_cons_succ]
    refine RegF.take0 6 (.bool false) rfl (by kernel_rfl) (by kernel_rfl) (by kernel_rfl) rfl (fun _ _ _ h => (by cases h.1)) hSd (RegF.yld rfl (fun W hW => by go_simp)) ?_
    simp only [List.getElem_toArray, List.getElem_cons_succ, List.getElem_cons_zero, Act.put, List.setIfInBounds_toArray, List.set_cons_zero, List.set_cons_succ]
    refine RegF.take0 8 (.slice A xs.length c) rfl (by kernel_rfl) (by kernel_rfl) (by kernel_rfl) rfl (fun _ _ _ h => (by cases h.1)) hSd (.inl ⟨by first | rfl | simp [Region.wanted, yielded, Act.put], fun W hW => by go_simp⟩) ?_
    simp only [List.getElem_toArray, List.getElem_cons_succ, List.getElem_cons_zero, Act.put, List.setIfInBounds_toArray, List.set_cons_zero, List.set_cons_succ]
    refine RegF.take0 10 (.pointer (some ⟨w.heap.size, 0, none⟩)) rfl (by kernel_rfl) (by kernel_rfl) (by kernel_rfl) rfl (fun _ _ _ h => (by cases h.1)) hSd (.inl ⟨by first | rfl | simp [Region.wanted, yielded, Act.put], fun W hW => by go_simp⟩) ?_
    simp only [List.getElem_toArray, List.getElem_cons_succ, List.getElem_cons_zero, Act.put, List.setIfInBounds_toArray, List.set_cons_zero, List.set_cons_succ]
    refine RegF.take0 11 (.agg #[.int .i64 wh0, .int .i64 at0, .int .i64 nn0, .int .u8 (bb0.toNat : Int), .slice K0 kp0.length kc0]) rfl (by kernel_rfl) (by kernel_rfl) (by kernel_rfl) rfl (fun _ _ _ h => (by cases h.1)) hSd (.inl ⟨by first | rfl | simp [Region.wanted, yielded, Act.put], fun W hW => by exact x_loadM rowAct (two_at hW 0) rfl rfl rfl⟩) ?_
    simp only [List.getElem_toArray, List.getElem_cons_succ, List.getElem_cons_zero, Act.put, List.setIfInBounds_toArray, List.set_cons_zero, List.set_cons_succ]
    refine RegF.take0 12 (.pointer (some ⟨w.heap.size, 5, none⟩)) rfl (by kernel_rfl) (by kernel_rfl) (by kernel_rfl) rfl (fun _ _ _ h => (by cases h.1)) hSd (.inl ⟨by first | rfl | simp [Region.wanted, yielded, Act.put], fun W hW => by go_simp⟩) ?_
    simp only [List.getElem_toArray, List.getElem_cons_succ, List.getElem_cons_zero, Act.put, List.setIfInBounds_toArray, List.set_cons_zero, List.set_cons_succ]
    refine RegF.take0 13 (.agg #[.int .i64 wh1, .int .i64 at1, .int .i64 nn1, .int .u8 (bb1.toNat : Int), .slice K1 kp1.length kc1]) rfl (by kernel_rfl) (by kernel_rfl) (by kernel_rfl) rfl (fun _ _ _ h => (by cases h.1)) hSd (.inl ⟨by first | rfl | simp [Region.wanted, yielded, Act.put], fun W hW => by exact x_loadM rowAct (two_at hW 5) rfl rfl rfl⟩) ?_
    simp only [List.getElem_toArray, List.getElem_cons_succ, List.getElem_cons_zero, Act.put, List.setIfInBounds_toArray, List.set_cons_zero, List.set_cons_succ]
    refine RegF.two 7 14 (by kernel_rfl) ?_ ?_
    · have hB7 := hBd.alloc hBd.size (.cells #[] 136)
      have e0 : (W1.drew.alloc (.cells #[] 136)).ownsRow W1.heap.size 136 5 (.slice (some ⟨W1.drew.heap.size, 0, none⟩) 0 0) 0 [] := World.ownsRow_lit W1.drew #[] 0 hBd.size (by unfold maxLen; omega) rfl
      refine opVG (w' := W1.drew.alloc (.cells #[] 136)) (.slice (some ⟨W1.drew.heap.size, 0, none⟩) 0 0) rfl (by first | rfl | simp [Region.wanted, yielded, Act.put]) (by go_simp) ⟨fun _ => hSk _ hB7, ?_⟩
      simp only [List.getElem_toArray, List.getElem_cons_succ, List.getElem_cons_zero, Act.put, List.setIfInBounds_toArray, List.set_cons_zero, List.set_cons_succ]
      obtain ⟨w7, hw7⟩ : ∃ x, W1.drew.alloc (.cells #[] 136) = x := ⟨_, rfl⟩
      rw [hw7] at hB7 e0 ⊢
      refine RegF.two 9 14 (by kernel_rfl) ?_ ?_
      · refine opAppG rfl (by first | rfl | simp [Region.wanted, yielded, Act.put]) elAct (.tmp 24) (.tmp 25) rfl W1.heap.size (.slice (some ⟨W1.heap.size, 0, none⟩) 0 0) 0 [] rfl e0 _ A xs.length c (acsC xs) rfl (hL1.below hB7) (by unfold maxLen; omega) (by omega) hB7.size ?_
        intro v9 w9 own9 hg9
        have hB9 := hB7.trans (grown_below hg9 hB7.size (ownG_ge e0))
        rw [Nat.zero_add, List.nil_append] at own9
        refine ⟨fun _ => hSk _ hB9, ?_⟩
        simp only [List.getElem_toArray, List.getElem_cons_succ, List.getElem_cons_zero, Act.put, List.setIfInBounds_toArray, List.set_cons_zero, List.set_cons_succ]
        refine RegF.one 14 (by kernel_rfl) ?_
        have hB14 := hB9.alloc hB9.size (.cells #[.int .i64 wh0, .int .i64 at0, .int .i64 nn0, .int .u8 (bb0.toNat : Int), .slice K0 kp0.length kc0, .int .i64 wh1, .int .i64 at1, .int .i64 nn1, .int .u8 (bb1.toNat : Int), .slice K1 kp1.length kc1] 136)
        have in14 := row_lit2 w9 136 5 [.int .i64 wh0, .int .i64 at0, .int .i64 nn0, .int .u8 (bb0.toNat : Int), .slice K0 kp0.length kc0, .int .i64 wh1, .int .i64 at1, .int .i64 nn1, .int .u8 (bb1.toNat : Int), .slice K1 kp1.length kc1] rfl h2one
        have bl14 := BlkIs.new w9 136 #[.int .i64 wh0, .int .i64 at0, .int .i64 nn0, .int .u8 (bb0.toNat : Int), .slice K0 kp0.length kc0, .int .i64 wh1, .int .i64 at1, .int .i64 nn1, .int .u8 (bb1.toNat : Int), .slice K1 kp1.length kc1]
        have g14 := (Below.refl _ w9).alloc (Nat.le_refl _) (.cells #[.int .i64 wh0, .int .i64 at0, .int .i64 nn0, .int .u8 (bb0.toNat : Int), .slice K0 kp0.length kc0, .int .i64 wh1, .int .i64 at1, .int .i64 nn1, .int .u8 (bb1.toNat : Int), .slice K1 kp1.length kc1] 136)
        refine opVG (w' := w9.alloc (.cells #[.int .i64 wh0, .int .i64 at0, .int .i64 nn0, .int .u8 (bb0.toNat : Int), .slice K0 kp0.length kc0, .int .i64 wh1, .int .i64 at1, .int .i64 nn1, .int .u8 (bb1.toNat : Int), .slice K1 kp1.length kc1] 136)) (.slice (some ⟨w9.heap.size, 0, none⟩) 2 2) rfl (by first | rfl | simp [Region.wanted, yielded, Act.put]) (by go_simp) ⟨fun _ => hSk _ hB14, ?_⟩
        simp only [List.getElem_toArray, List.getElem_cons_succ, List.getElem_cons_zero, Act.put, List.setIfInBounds_toArray, List.set_cons_zero, List.set_cons_succ]
        obtain ⟨w14, hw14⟩ : ∃ x, w9.alloc (.cells #[.int .i64 wh0, .int .i64 at0, .int .i64 nn0, .int .u8 (bb0.toNat : Int), .slice K0 kp0.length kc0, .int .i64 wh1, .int .i64 at1, .int .i64 nn1, .int .u8 (bb1.toNat : Int), .slice K1 kp1.length kc1] 136) = x := ⟨_, rfl⟩
        rw [hw14] at hB14 in14 bl14 g14 ⊢
        refine RegF.one 15 (by kernel_rfl) ?_
        refine opAppG rfl (by first | rfl | simp [Region.wanted, yielded, Act.put]) elAct (.tmp 26) (.tmp 31) rfl W1.heap.size v9 xs.length (acsC xs) rfl (ownG_grow own9 g14) _ _ 2 2 (actC (⟨wh0, at0, nn0, bb0, kp0, K0, kc0⟩ : ActV) ++ actC (⟨wh1, at1, nn1, bb1, kp1, K1, kc1⟩ : ActV)) rfl in14 (by unfold maxLen; omega) (by omega) hB14.size ?_
        intro v15 w15 own15 hg15
        have hB15 := hB14.trans (grown_below hg15 hB14.size (ownG_ge (ownG_grow own9 g14)))
        obtain ⟨A15, c15, rfl, in15⟩ := ownG_in own15 h15one
        refine ⟨fun _ => hSk _ hB15, ?_⟩
        simp only [List.getElem_toArray, List.getElem_cons_succ, List.getElem_cons_zero, Act.put, List.setIfInBounds_toArray, List.set_cons_zero, List.set_cons_succ]
        have in15' : InG w15 w15.heap.size 5 A15 (xs ++ [(⟨wh0, at0, nn0, bb0, kp0, K0, kc0⟩ : ActV), (⟨wh1, at1, nn1, bb1, kp1, K1, kc1⟩ : ActV)]).length c15 (acsC (xs ++ [(⟨wh0, at0, nn0, bb0, kp0, K0, kc0⟩ : ActV), (⟨wh1, at1, nn1, bb1, kp1, K1, kc1⟩ : ActV)])) := by rw [List.length_append, acsC_two]; exact in15
        have HF := few4_gives w15 A15 c15 (xs ++ [(⟨wh0, at0, nn0, bb0, kp0, K0, kc0⟩ : ActV), (⟨wh1, at1, nn1, bb1, kp1, K1, kc1⟩ : ActV)]) in15' (by rw [List.length_append]; show xs.length + 2 ≤ _; omega) 22
        rw [List.length_append] at HF
        unfold YesR at HF
        refine RegF.one 16 (by kernel_rfl) ?_
        refine opCG 81 #[.tmp 32, .const (.int .i64 22)] #[134, 3] rfl (by first | rfl | simp [Region.wanted, yielded, Act.put]) rfl (enters_of Try.func81 (by kernel_rfl) rfl) #[.slice A15 (xs.length + 2) c15, .int .i64 22] (by simp only [List.map_toArray, List.map_cons, List.map_nil]; rfl) (HF.mono ?_)
        rintro e w16 ⟨fb, rfl, hB16, hfb⟩
        have hB116 := hB15.trans (hB16.mono hB15.size)
        refine ⟨_, rfl, fun _ => hSk _ hB116, ?_⟩
        simp only [List.getElem_toArray, List.getElem_cons_succ, List.getElem_cons_zero, Act.put, List.setIfInBounds_toArray, List.set_cons_zero, List.set_cons_succ]
        have hS16 := hSk _ hB116
        refine RegF.take0 17 (.bool !fb) rfl (by kernel_rfl) (by kernel_rfl) (by kernel_rfl) rfl (fun _ _ _ h => (by cases h.1)) hS16 (.inl ⟨by first | rfl | simp [Region.wanted, yielded, Act.put], fun W hW => by go_simp⟩) ?_
        simp only [List.getElem_toArray, List.getElem_cons_succ, List.getElem_cons_zero, Act.put, List.setIfInBounds_toArray, List.set_cons_zero, List.set_cons_succ]
        refine RegF.take0 18 (.bool !fb) rfl (by kernel_rfl) (by kernel_rfl) (by kernel_rfl) rfl (fun _ _ _ h => (by cases h.1)) hS16 (RegF.yld rfl (fun W hW => by go_simp)) ?_
        simp only [List.getElem_toArray, List.getElem_cons_succ, List.getElem_cons_zero, Act.put, List.setIfInBounds_toArray, List.set_cons_zero, List.set_cons_succ]
        refine RegF.done (by kernel_rfl) ?_
        exact ⟨rfl, _, _, _, _, fb, rfl, hfb, hB116⟩
      · have hB14 := hB7.alloc hB7.size (.cells #[.int .i64 wh0, .int .i64 at0, .int .i64 nn0, .int .u8 (bb0.toNat : Int), .slice K0 kp0.length kc0, .int .i64 wh1, .int .i64 at1, .int .i64 nn1, .int .u8 (bb1.toNat : Int), .slice K1 kp1.length kc1] 136)
        have in14 := row_lit2 w7 136 5 [.int .i64 wh0, .int .i64 at0, .int .i64 nn0, .int .u8 (bb0.toNat : Int), .slice K0 kp0.length kc0, .int .i64 wh1, .int .i64 at1, .int .i64 nn1, .int .u8 (bb1.toNat : Int), .slice K1 kp1.length kc1] rfl h2one
        have bl14 := BlkIs.new w7 136 #[.int .i64 wh0, .int .i64 at0, .int .i64 nn0, .int .u8 (bb0.toNat : Int), .slice K0 kp0.length kc0, .int .i64 wh1, .int .i64 at1, .int .i64 nn1, .int .u8 (bb1.toNat : Int), .slice K1 kp1.length kc1]
        have g14 := (Below.refl _ w7).alloc (Nat.le_refl _) (.cells #[.int .i64 wh0, .int .i64 at0, .int .i64 nn0, .int .u8 (bb0.toNat : Int), .slice K0 kp0.length kc0, .int .i64 wh1, .int .i64 at1, .int .i64 nn1, .int .u8 (bb1.toNat : Int), .slice K1 kp1.length kc1] 136)
        refine opVG (w' := w7.alloc (.cells #[.int .i64 wh0, .int .i64 at0, .int .i64 nn0, .int .u8 (bb0.toNat : Int), .slice K0 kp0.length kc0, .int .i64 wh1, .int .i64 at1, .int .i64 nn1, .int .u8 (bb1.toNat : Int), .slice K1 kp1.length kc1] 136)) (.slice (some ⟨w7.heap.size, 0, none⟩) 2 2) rfl (by first | rfl | simp [Region.wanted, yielded, Act.put]) (by go_simp) ⟨fun _ => hSk _ hB14, ?_⟩
        simp only [List.getElem_toArray, List.getElem_cons_succ, List.getElem_cons_zero, Act.put, List.setIfInBounds_toArray, List.set_cons_zero, List.set_cons_succ]
        obtain ⟨w14, hw14⟩ : ∃ x, w7.alloc (.cells #[.int .i64 wh0, .int .i64 at0, .int .i64 nn0, .int .u8 (bb0.toNat : Int), .slice K0 kp0.length kc0, .int .i64 wh1, .int .i64 at1, .int .i64 nn1, .int .u8 (bb1.toNat : Int), .slice K1 kp1.length kc1] 136) = x := ⟨_, rfl⟩
        rw [hw14] at hB14 in14 bl14 g14 ⊢
        have e1 := ownG_grow e0 g14
        have hne : some w7.heap.size ≠ (Value.slice (some ⟨W1.heap.size, 0, none⟩) 0 0).ownBlock := fun e => by
          have e' : w7.heap.size = W1.heap.size := by simpa [Value.ownBlock] using e
          rw [← hw7] at e'
          simp at e'
        refine RegF.one 9 (by kernel_rfl) ?_
        refine opAppG rfl (by first | rfl | simp [Region.wanted, yielded, Act.put]) elAct (.tmp 24) (.tmp 25) rfl W1.heap.size (.slice (some ⟨W1.heap.size, 0, none⟩) 0 0) 0 [] rfl e1 _ A xs.length c (acsC xs) rfl (hL1.below hB14) (by unfold maxLen; omega) (by omega) hB14.size ?_
        intro v9 w9 own9 hg9
        have hB9 := hB14.trans (grown_below hg9 hB14.size (ownG_ge e1))
        rw [Nat.zero_add, List.nil_append] at own9
        refine ⟨fun _ => hSk _ hB9, ?_⟩
        simp only [List.getElem_toArray, List.getElem_cons_succ, List.getElem_cons_zero, Act.put, List.setIfInBounds_toArray, List.set_cons_zero, List.set_cons_succ]
        refine RegF.one 15 (by kernel_rfl) ?_
        refine opAppG rfl (by first | rfl | simp [Region.wanted, yielded, Act.put]) elAct (.tmp 26) (.tmp 31) rfl W1.heap.size v9 xs.length (acsC xs) rfl own9 _ _ 2 2 (actC (⟨wh0, at0, nn0, bb0, kp0, K0, kc0⟩ : ActV) ++ actC (⟨wh1, at1, nn1, bb1, kp1, K1, kc1⟩ : ActV)) rfl (in14.grownNe hg9 hne) (by unfold maxLen; omega) (by omega) hB9.size ?_
        intro v15 w15 own15 hg15
        have hB15 := hB9.trans (grown_below hg15 hB9.size (ownG_ge own9))
        obtain ⟨A15, c15, rfl, in15⟩ := ownG_in own15 h15one
        refine ⟨fun _ => hSk _ hB15, ?_⟩
        simp only [List.getElem_toArray, List.getElem_cons_succ, List.getElem_cons_zero, Act.put, List.setIfInBounds_toArray, List.set_cons_zero, List.set_cons_succ]
        have in15' : InG w15 w15.heap.size 5 A15 (xs ++ [(⟨wh0, at0, nn0, bb0, kp0, K0, kc0⟩ : ActV), (⟨wh1, at1, nn1, bb1, kp1, K1, kc1⟩ : ActV)]).length c15 (acsC (xs ++ [(⟨wh0, at0, nn0, bb0, kp0, K0, kc0⟩ : ActV), (⟨wh1, at1, nn1, bb1, kp1, K1, kc1⟩ : ActV)])) := by rw [List.length_append, acsC_two]; exact in15
        have HF := few4_gives w15 A15 c15 (xs ++ [(⟨wh0, at0, nn0, bb0, kp0, K0, kc0⟩ : ActV), (⟨wh1, at1, nn1, bb1, kp1, K1, kc1⟩ : ActV)]) in15' (by rw [List.length_append]; show xs.length + 2 ≤ _; omega) 22
        rw [List.length_append] at HF
        unfold YesR at HF
        refine RegF.one 16 (by kernel_rfl) ?_
        refine opCG 81 #[.tmp 32, .const (.int .i64 22)] #[134, 3] rfl (by first | rfl | simp [Region.wanted, yielded, Act.put]) rfl (enters_of Try.func81 (by kernel_rfl) rfl) #[.slice A15 (xs.length + 2) c15, .int .i64 22] (by simp only [List.map_toArray, List.map_cons, List.map_nil]; rfl) (HF.mono ?_)
        rintro e w16 ⟨fb, rfl, hB16, hfb⟩
        have hB116 := hB15.trans (hB16.mono hB15.size)
        refine ⟨_, rfl, fun _ => hSk _ hB116, ?_⟩
        simp only [List.getElem_toArray, List.getElem_cons_succ, List.getElem_cons_zero, Act.put, List.setIfInBounds_toArray, List.set_cons_zero, List.set_cons_succ]
        have hS16 := hSk _ hB116
        refine RegF.take0 17 (.bool !fb) rfl (by kernel_rfl) (by kernel_rfl) (by kernel_rfl) rfl (fun _ _ _ h => (by cases h.1)) hS16 (.inl ⟨by first | rfl | simp [Region.wanted, yielded, Act.put], fun W hW => by go_simp⟩) ?_
        simp only [List.getElem_toArray, List.getElem_cons_succ, List.getElem_cons_zero, Act.put, List.setIfInBounds_toArray, List.set_cons_zero, List.set_cons_succ]
        refine RegF.take0 18 (.bool !fb) rfl (by kernel_rfl) (by kernel_rfl) (by kernel_rfl) rfl (fun _ _ _ h => (by cases h.1)) hS16 (RegF.yld rfl (fun W hW => by go_simp)) ?_
        simp only [List.getElem_toArray, List.getElem_cons_succ, List.getElem_cons_zero, Act.put, List.setIfInBounds_toArray, List.set_cons_zero, List.set_cons_succ]
        refine RegF.done (by kernel_rfl) ?_
        exact ⟨rfl, _, _, _, _, fb, rfl, hfb, hB116⟩
    · have hB14 := hBd.alloc hBd.size (.cells #[.int .i64 wh0, .int .i64 at0, .int .i64 nn0, .int .u8 (bb0.toNat : Int), .slice K0 kp0.length kc0, .int .i64 wh1, .int .i64 at1, .int .i64 nn1, .int .u8 (bb1.toNat : Int), .slice K1 kp1.length kc1] 136)
      have in14 := row_lit2 W1.drew 136 5 [.int .i64 wh0, .int .i64 at0, .int .i64 nn0, .int .u8 (bb0.toNat : Int), .slice K0 kp0.length kc0, .int .i64 wh1, .int .i64 at1, .int .i64 nn1, .int .u8 (bb1.toNat : Int), .slice K1 kp1.length kc1] rfl h2one
      have bl14 := BlkIs.new W1.drew 136 #[.int .i64 wh0, .int .i64 at0, .int .i64 nn0, .int .u8 (bb0.toNat : Int), .slice K0 kp0.length kc0, .int .i64 wh1, .int .i64 at1, .int .i64 nn1, .int .u8 (bb1.toNat : Int), .slice K1 kp1.length kc1]
      have g14 := (Below.refl _ W1.drew).alloc (Nat.le_refl _) (.cells #[.int .i64 wh0, .int .i64 at0, .int .i64 nn0, .int .u8 (bb0.toNat : Int), .slice K0 kp0.length kc0, .int .i64 wh1, .int .i64 at1, .int .i64 nn1, .int .u8 (bb1.toNat : Int), .slice K1 kp1.length kc1] 136)
      refine opVG (w' := W1.drew.alloc (.cells #[.int .i64 wh0, .int .i64 at0, .int .i64 nn0, .int .u8 (bb0.toNat : Int), .slice K0 kp0.length kc0, .int .i64 wh1, .int .i64 at1, .int .i64 nn1, .int .u8 (bb1.toNat : Int), .slice K1 kp1.length kc1] 136)) (.slice (some ⟨W1.drew.heap.size, 0, none⟩) 2 2) rfl (by first | rfl | simp [Region.wanted, yielded, Act.put]) (by go_simp) ⟨fun _ => hSk _ hB14, ?_⟩
      simp only [List.getElem_toArray, List.getElem_cons_succ, List.getElem_cons_zero, Act.put, List.setIfInBounds_toArray, List.set_cons_zero, List.set_cons_succ]
      obtain ⟨w14, hw14⟩ : ∃ x, W1.drew.alloc (.cells #[.int .i64 wh0, .int .i64 at0, .int .i64 nn0, .int .u8 (bb0.toNat : Int), .slice K0 kp0.length kc0, .int .i64 wh1, .int .i64 at1, .int .i64 nn1, .int .u8 (bb1.toNat : Int), .slice K1 kp1.length kc1] 136) = x := ⟨_, rfl⟩
      rw [hw14] at hB14 in14 bl14 g14 ⊢
      refine RegF.one 7 (by kernel_rfl) ?_
      have hB7 := hB14.alloc hB14.size (.cells #[] 136)
      have e0 : (w14.alloc (.cells #[] 136)).ownsRow W1.heap.size 136 5 (.slice (some ⟨w14.heap.size, 0, none⟩) 0 0) 0 [] := World.ownsRow_lit w14 #[] 0 hB14.size (by unfold maxLen; omega) rfl
      refine opVG (w' := w14.alloc (.cells #[] 136)) (.slice (some ⟨w14.heap.size, 0, none⟩) 0 0) rfl (by first | rfl | simp [Region.wanted, yielded, Act.put]) (by go_simp) ⟨fun _ => hSk _ hB7, ?_⟩
      simp only [List.getElem_toArray, List.getElem_cons_succ, List.getElem_cons_zero, Act.put, List.setIfInBounds_toArray, List.set_cons_zero, List.set_cons_succ]
      obtain ⟨w7, hw7⟩ : ∃ x, w14.alloc (.cells #[] 136) = x := ⟨_, rfl⟩
      rw [hw7] at hB7 e0 ⊢
      have hne : some W1.heap.size ≠ (Value.slice (some ⟨w14.heap.size, 0, none⟩) 0 0).ownBlock := fun e => by
        have e' : W1.heap.size = w14.heap.size := by simpa [Value.ownBlock] using e
        rw [← hw14] at e'
        simp at e'
      have in147 : InG w7 w7.heap.size 5 (some ⟨W1.heap.size, 0, none⟩) 2 2 [.int .i64 wh0, .int .i64 at0, .int .i64 nn0, .int .u8 (bb0.toNat : Int), .slice K0 kp0.length kc0, .int .i64 wh1, .int .i64 at1, .int .i64 nn1, .int .u8 (bb1.toNat : Int), .slice K1 kp1.length kc1] := by
        rw [← hw7]
        exact in14.grow ((Below.refl _ w14).alloc (Nat.le_refl _) _)
      refine RegF.one 9 (by kernel_rfl) ?_
      refine opAppG rfl (by first | rfl | simp [Region.wanted, yielded, Act.put]) elAct (.tmp 24) (.tmp 25) rfl W1.heap.size (.slice (some ⟨w14.heap.size, 0, none⟩) 0 0) 0 [] rfl e0 _ A xs.length c (acsC xs) rfl (hL1.below hB7) (by unfold maxLen; omega) (by omega) hB7.size ?_
      intro v9 w9 own9 hg9
      have hB9 := hB7.trans (grown_below hg9 hB7.size (ownG_ge e0))
      rw [Nat.zero_add, List.nil_append] at own9
      refine ⟨fun _ => hSk _ hB9, ?_⟩
      simp only [List.getElem_toArray, List.getElem_cons_succ, List.getElem_cons_zero, Act.put, List.setIfInBounds_toArray, List.set_cons_zero, List.set_cons_succ]
      refine RegF.one 15 (by kernel_rfl) ?_
      refine opAppG rfl (by first | rfl | simp [Region.wanted, yielded, Act.put]) elAct (.tmp 26) (.tmp 31) rfl W1.heap.size v9 xs.length (acsC xs) rfl own9 _ _ 2 2 (actC (⟨wh0, at0, nn0, bb0, kp0, K0, kc0⟩ : ActV) ++ actC (⟨wh1, at1, nn1, bb1, kp1, K1, kc1⟩ : ActV)) rfl (in147.grownNe hg9 hne) (by unfold maxLen; omega) (by omega) hB9.size ?_
      intro v15 w15 own15 hg15
      have hB15 := hB9.trans (grown_below hg15 hB9.size (ownG_ge own9))
      obtain ⟨A15, c15, rfl, in15⟩ := ownG_in own15 h15one
      refine ⟨fun _ => hSk _ hB15, ?_⟩
      simp only [List.getElem_toArray, List.getElem_cons_succ, List.getElem_cons_zero, Act.put, List.setIfInBounds_toArray, List.set_cons_zero, List.set_cons_succ]
      have in15' : InG w15 w15.heap.size 5 A15 (xs ++ [(⟨wh0, at0, nn0, bb0, kp0, K0, kc0⟩ : ActV), (⟨wh1, at1, nn1, bb1, kp1, K1, kc1⟩ : ActV)]).length c15 (acsC (xs ++ [(⟨wh0, at0, nn0, bb0, kp0, K0, kc0⟩ : ActV), (⟨wh1, at1, nn1, bb1, kp1, K1, kc1⟩ : ActV)])) := by rw [List.length_append, acsC_two]; exact in15
      have HF := few4_gives w15 A15 c15 (xs ++ [(⟨wh0, at0, nn0, bb0, kp0, K0, kc0⟩ : ActV), (⟨wh1, at1, nn1, bb1, kp1, K1, kc1⟩ : ActV)]) in15' (by rw [List.length_append]; show xs.length + 2 ≤ _; omega) 22
      rw [List.length_append] at HF
      unfold YesR at HF
      refine RegF.one 16 (by kernel_rfl) ?_
      refine opCG 81 #[.tmp 32, .const (.int .i64 22)] #[134, 3] rfl (by first | rfl | simp [Region.wanted, yielded, Act.put]) rfl (enters_of Try.func81 (by kernel_rfl) rfl) #[.slice A15 (xs.length + 2) c15, .int .i64 22] (by simp only [List.map_toArray, List.map_cons, List.map_nil]; rfl) (HF.mono ?_)
      rintro e w16 ⟨fb, rfl, hB16, hfb⟩
      have hB116 := hB15.trans (hB16.mono hB15.size)
      refine ⟨_, rfl, fun _ => hSk _ hB116, ?_⟩
      simp only [List.getElem_toArray, List.getElem_cons_succ, List.getElem_cons_zero, Act.put, List.setIfInBounds_toArray, List.set_cons_zero, List.set_cons_succ]
      have hS16 := hSk _ hB116
      refine RegF.take0 17 (.bool !fb) rfl (by kernel_rfl) (by kernel_rfl) (by kernel_rfl) rfl (fun _ _ _ h => (by cases h.1)) hS16 (.inl ⟨by first | rfl | simp [Region.wanted, yielded, Act.put], fun W hW => by go_simp⟩) ?_
      simp only [List.getElem_toArray, List.getElem_cons_succ, List.getElem_cons_zero, Act.put, List.setIfInBounds_toArray, List.set_cons_zero, List.set_cons_succ]
      refine RegF.take0 18 (.bool !fb) rfl (by kernel_rfl) (by kernel_rfl) (by kernel_rfl) rfl (fun _ _ _ h => (by cases h.1)) hS16 (RegF.yld rfl (fun W hW => by go_simp)) ?_
      simp only [List.getElem_toArray, List.getElem_cons_succ, List.getElem_cons_zero, Act.put, List.setIfInBounds_toArray, List.set_cons_zero, List.set_cons_succ]
      refine RegF.done (by kernel_rfl) ?_
      exact ⟨rfl, _, _, _, _, fb, rfl, hfb, hB116⟩
  rintro a W2 ⟨v24, v26, v31, v32, fb, rfl, hfb, hB12⟩
  dsimp only
  have hB2 := hB1.trans (hB12.mono hB1.size)
  have b2 := b1.below hB12 b1.lt
  clear b1 hB1 hL1 hB12 h2one h15one
  cases fb with
  | false =>
    go_wp2_with (go_at_call 18; refine (works4_gives _).mono ?_; rintro e w5 ⟨rfl, hB5⟩)
    go_ret
    exact ⟨rfl, hB2.trans (hB5.mono hB2.size)⟩
  | true =>
    obtain ⟨hF1, hF2⟩ := hfb.1 rfl
    have hxl20 : xs.length ≤ 20 := by rw [List.length_append] at hF2; simp at hF2; omega
    have hkp0 : kp0.length ≤ 40 := hF1 (⟨wh0, at0, nn0, bb0, kp0, K0, kc0⟩ : ActV) (by simp)
    have hkp1 : kp1.length ≤ 40 := hF1 (⟨wh1, at1, nn1, bb1, kp1, K1, kc1⟩ : ActV) (by simp)
    have hkpx : ∀ x ∈ xs, x.keep.length ≤ 40 := fun x hx => hF1 x (List.mem_append.2 (.inl hx))
    have hm1 : 1 ≤ m := by omega
    have hm12 : m ≤ 12 := by omega
    clear hfb hF1 hF2 hn1 hn hxl
    have hDN := fun W => new_gives W m hm1 (by omega)
    have hRN := fun W => rnew_gives W (m : Int)
    unfold VAL at hRN
    go_wp2_with (first
      | (go_at_call 19; refine (hDN _).mono ?_; rintro e W3 ⟨p, rfl, hp3, hD3, hB3⟩)
      | (go_at_call 82; refine (hRN _).mono ?_; rintro e W4 ⟨rfl, hB4⟩)
      | (refine wp_storeW rfl 141 (.tmp 9) (.tmp 43) rfl W4.heap.size rfl rfl rowRDisk (BlkIs.new W4 141 #[.int .i64 0, .slice none 0 0, .slice none 0 0, .int .i64 0]) (by rfl) (by rfl) (four_oneR rfl rfl rfl rfl) ?_))
    obtain ⟨W5, hW5⟩ : ∃ x, (W4.alloc (.cells #[.int .i64 0, .slice none 0 0, .slice none 0 0, .int .i64 0] 141)).setRow W4.heap.size #[.int .i64 (m : Int), .slice none 0 0, .slice none 0 0, .int .i64 (-1)] = x := ⟨_, rfl⟩
    have g5 : Below W4.heap.size W4 W5 := by rw [← hW5]; exact below_setRow ((Below.refl _ W4).alloc (Nat.le_refl _) _) (Nat.le_refl _) _
    have b9 : BlkIs W5 W4.heap.size 141 #[.int .i64 (m : Int), .slice none 0 0, .slice none 0 0, .int .i64 (-1)] := by rw [← hW5]; exact (BlkIs.new W4 141 #[.int .i64 0, .slice none 0 0, .slice none 0 0, .int .i64 0]).setRow _
    rw [hW5]
    clear hW5
    have g25 : Below W2.heap.size W2 W5 := (hB3.trans (hB4.mono hB3.size)).trans (g5.mono (Nat.le_trans hB3.size hB4.size))
    have hB5 := hB2.trans (g25.mono hB2.size)
    have b5 := b2.below g25 b2.lt
    have hD5 : DkIs W5 p m (gOf sNew.sy) sNew.ls sNew.left sNew.stops := (hD3.grow hB4).grow g5
    have hR5 : RIs W5 W5.heap.size sNew.sy sNew.ls none 0 none 0 := ⟨InG.mt _ _ _, InG.mt _ _ _⟩
    have hpw : w.heap.size ≤ p := Nat.le_trans hB2.size hp3
    have hrf := fun k => run_facts (many := m) (xs.take k) sNew (sNew_ok m) sNew_st0 (fun x hx => hnx x (List.mem_of_mem_take hx))
    have hq9w : w.heap.size < W4.heap.size := Nat.lt_of_lt_of_le b2.lt (Nat.le_trans hB3.size hB4.size)
    generalize W4.heap.size = q9 at *
    clear hDN hRN hB3 hB4 g5 g25 hp3 hD3 hB2 b2
    clear W3 W4
    go_loopw [7, 10] (fun v i wr => ∃ (k q : Nat) (As : Option Addr) (cs : Nat) (Al : Option Addr) (cl : Nat), k ≤ xs.length ∧ i = .int .i64 (k : Int) ∧ v = .pointer (some ⟨q, 0, none⟩) ∧ DkIs wr q m (gOf (runS m (xs.take k) sNew).sy) (runS m (xs.take k) sNew).ls (runS m (xs.take k) sNew).left (runS m (xs.take k) sNew).stops ∧
      RIs wr wr.heap.size (runS m (xs.take k) sNew).sy (runS m (xs.take k) sNew).ls As cs Al cl ∧ BlkIs wr q9 141 (vlS m (runS m (xs.take k) sNew) As cs Al cl) ∧ BlkIs wr w.heap.size 137 #[.int .i64 wh0, .int .i64 at0, .int .i64 nn0, .int .u8 (bb0.toNat : Int), .slice K0 kp0.length kc0, .int .i64 wh1, .int .i64 at1, .int .i64 nn1, .int .u8 (bb1.toNat : Int), .slice K1 kp1.length kc1] ∧ Below w.heap.size w wr ∧ w.heap.size ≤ q) (fun _ i _ => xs.length - (intOf i).toNat)
    case atStart => exact ⟨0, p, none, 0, none, 0, by omega, rfl, rfl, hD5, hR5, b9, b5, hB5, hpw⟩
    case round =>
      obtain ⟨k, q, As, cs, Al, cl, hk, rfl, rfl, hDr, hRr, b9r, b5r, hBr, hq⟩ := hrel
      obtain ⟨hok, hz, hln⟩ := hrf k
      obtain ⟨s, hs⟩ : ∃ s, s = runS m (xs.take k) sNew := ⟨_, rfl⟩
      rw [← hs] at hDr hRr b9r hok hz hln
      have hln2 : s.sy.length + s.ls.length ≤ 20 := by
        have : (xs.take k).length ≤ xs.length := by rw [List.length_take]; omega
        simp only [sNew, List.length_nil] at hln
        omega
      have h99 : q9 ≠ q := hDr.apart b9r (by decide)
      have h59 : w.heap.size ≠ q := hDr.apart b5r (by decide)
      unfold vlS at b9r
      by_cases hlt : k < xs.length
      · obtain ⟨gl, ol, rfl, hgl, _⟩ := hL.lies (by omega)
        have hel := (hL.below hBr).elem k hlt
        rw [acsC_elem xs k hlt] at hel
        obtain ⟨x, hx⟩ : ∃ x, x = xs[k] := ⟨_, rfl⟩
        rw [← hx] at hel
        have hxm : x ∈ xs := by rw [hx]; exact List.getElem_mem hlt
        have hnext : runS m (xs.take (k + 1)) sNew = actS m x s := by rw [runS_next m xs sNew k hlt, ← hx, ← hs]
        have HNX := Lib.hid hnext
        have hkx := hkpx x hxm
        have hel' : wr.drew.rangeAt gl (ol + k * 5) (actC x) := hel
        have hqs := hDr.lt
        have hel5 : (actC x).length = 5 := rfl
        have hBd : Below wr.heap.size wr wr.drew := (Below.refl _ wr).drew
        have HA : Calls Try.prog 83 #[.pointer (some ⟨q, 0, none⟩), .agg #[.int .i64 (m : Int), .slice As s.sy.length cs, .slice Al s.ls.length cl, .int .i64 (relL s.stops s.left)], .agg (actC x).toArray] wr.drew (ActOut wr.drew q m (actS m x s)) :=
          act_gives wr.drew q m s As cs Al cl x (hDr.grow hBd) (hRr.grow hBd) hok (by omega) (by omega) w.heap.size hq (hBr.drew).size ((hKx x hxm).below hBr.drew) (by omega)
        have hkeep : ∀ W' : World, (wr.drew.grownBy W' (some q)) → W'.rangeAt gl (ol + k * 5) (actC x) := fun W' hg j v hj => (World.cell?_of_block (hg.block gl (Nat.lt_of_lt_of_le hgl hBr.size) (fun e => by injection e with e; omega))).trans (hel' j v hj)
        generalize actS m x s = s' at *
        unfold ActOut VAL at HA
        obtain ⟨ax, hax⟩ : ∃ ax, ax = (actC x).toArray := ⟨_, rfl⟩
        rw [← hax] at HA
        have HAX := Lib.hid hax
        have HEL := Lib.hid hel5
        clear hnext hx hs hax hel5 hel
        go_wp2
        refine RegF.start (fun W => W.rangeAt gl (ol + k * 5) (actC x)) 99 (by kernel_rfl) ?_
        have hSd := hel'
        refine RegF.take0 0 (.pointer (some ⟨q, 0, none⟩)) rfl (by kernel_rfl) (by kernel_rfl) (by kernel_rfl) rfl (fun _ _ _ h => h) hSd (RegF.yld rfl (fun W hW => by go_simp)) ?_
        simp only [List.getElem_toArray, List.getElem_cons_zero, Act.put, List.setIfInBounds_toArray, List.set_cons_zero, List.set_cons_succ]
        refine RegF.take0 2 (.slice (some ⟨gl, ol, none⟩) xs.length c) rfl (by kernel_rfl) (by kernel_rfl) (by kernel_rfl) rfl (fun _ _ _ h => h) hSd (RegF.yld rfl (fun W hW => by go_simp)) ?_
        simp only [List.getElem_toArray, List.getElem_cons_succ, List.getElem_cons_zero, Act.put, List.setIfInBounds_toArray, List.set_cons_zero, List.set_cons_succ]
        refine RegF.take0 3 (.int .i64 (k : Int)) rfl (by kernel_rfl) (by kernel_rfl) (by kernel_rfl) rfl (fun _ _ _ h => h) hSd (RegF.yld rfl (fun W hW => by go_simp)) ?_
        simp only [List.getElem_toArray, List.getElem_cons_succ, List.getElem_cons_zero, Act.put, List.setIfInBounds_toArray, List.set_cons_zero, List.set_cons_succ]
        refine RegF.take0 4 (.pointer (some ⟨gl, ol + k * 5, none⟩)) rfl (by kernel_rfl) (by kernel_rfl) (by kernel_rfl) rfl (fun _ _ _ h => h) hSd (RegF.yld rfl (fun W hW => by go_simp)) ?_
        simp only [List.getElem_toArray, List.getElem_cons_succ, List.getElem_cons_zero, Act.put, List.setIfInBounds_toArray, List.set_cons_zero, List.set_cons_succ]
        refine RegF.take0 5 (.agg ax) rfl (by kernel_rfl) (by kernel_rfl) (by kernel_rfl) rfl (fun _ _ _ h => h) hSd (RegF.yld rfl (fun W hW => by rw [HAX.out]; exact x_loadM rowAct hW HEL.out rfl rfl)) ?_
        simp only [List.getElem_toArray, List.getElem_cons_succ, List.getElem_cons_zero, Act.put, List.setIfInBounds_toArray, List.set_cons_zero, List.set_cons_succ]
        refine RegF.one 1 (by kernel_rfl) ?_
        refine RegF.opV (w' := wr.drew) (.agg #[.int .i64 (m : Int), .slice As s.sy.length cs, .slice Al s.ls.length cl, .int .i64 (relL s.stops s.left)]) rfl rfl (by exact x_loadM rowRDisk (BlkIs.range (show BlkIs wr.drew q9 141 _ from b9r)) rfl rfl rfl) ⟨fun _ => hSd, ?_⟩
        simp only [List.getElem_toArray, List.getElem_cons_succ, List.getElem_cons_zero, Act.put, List.setIfInBounds_toArray, List.set_cons_zero, List.set_cons_succ]
        refine RegF.one 6 (by kernel_rfl) ?_
        refine RegF.opC 83 #[.tmp 51, .tmp 52, .tmp 56] #[26, 141, 136] rfl rfl rfl (enters_of Try.func83 (by kernel_rfl) rfl) #[.pointer (some ⟨q, 0, none⟩), .agg #[.int .i64 (m : Int), .slice As s.sy.length cs, .slice Al s.ls.length cl, .int .i64 (relL s.stops s.left)], .agg ax] (by simp only [List.map_toArray, List.map_cons, List.map_nil]; rfl) (HA.mono ?_)
        rintro e w6 ⟨q', As', cs', Al', cl', rfl, hD6, hR6, hq6, hg6⟩
        have hS6 := hkeep w6 hg6
        refine ⟨_, rfl, fun _ => hS6, ?_⟩
        simp only [List.getElem_toArray, List.getElem_cons_succ, List.getElem_cons_zero, Act.put, List.setIfInBounds_toArray, List.set_cons_zero, List.set_cons_succ]
        refine RegF.one 7 (by kernel_rfl) ?_
        refine RegF.opV (w' := w6) (.tuple #[.pointer (some ⟨q', 0, none⟩), .agg #[.int .i64 (m : Int), .slice As' s'.sy.length cs', .slice Al' s'.ls.length cl', .int .i64 (relL s'.stops s'.left)], .bool true]) rfl rfl (by go_simp) ⟨fun _ => hS6, ?_⟩
        simp only [List.getElem_toArray, List.getElem_cons_succ, List.getElem_cons_zero, Act.put, List.setIfInBounds_toArray, List.set_cons_zero, List.set_cons_succ]
        refine RegF.take0 8 (.pointer (some ⟨q', 0, none⟩)) rfl (by kernel_rfl) (by kernel_rfl) (by kernel_rfl) rfl (fun _ _ _ h => h) hS6 (RegF.yld rfl (fun W hW => by go_simp)) ?_
        simp only [List.getElem_toArray, List.getElem_cons_succ, List.getElem_cons_zero, Act.put, List.setIfInBounds_toArray, List.set_cons_zero, List.set_cons_succ]
        refine RegF.take0 9 (.agg #[.int .i64 (m : Int), .slice As' s'.sy.length cs', .slice Al' s'.ls.length cl', .int .i64 (relL s'.stops s'.left)]) rfl (by kernel_rfl) (by kernel_rfl) (by kernel_rfl) rfl (fun _ _ _ h => h) hS6 (RegF.yld rfl (fun W hW => by go_simp)) ?_
        simp only [List.getElem_toArray, List.getElem_cons_succ, List.getElem_cons_zero, Act.put, List.setIfInBounds_toArray, List.set_cons_zero, List.set_cons_succ]
        refine RegF.take0 10 (.bool true) rfl (by kernel_rfl) (by kernel_rfl) (by kernel_rfl) rfl (fun _ _ _ h => h) hS6 (RegF.yld rfl (fun W hW => by go_simp)) ?_
        simp only [List.getElem_toArray, List.getElem_cons_succ, List.getElem_cons_zero, Act.put, List.setIfInBounds_toArray, List.set_cons_zero, List.set_cons_succ]
        refine RegF.one 11 (by kernel_rfl) ?_
        refine RegF.opV (w' := w6) (.pointer (some ⟨q', 0, none⟩)) rfl rfl (by go_simp) ⟨fun _ => hS6, ?_⟩
        simp only [List.getElem_toArray, List.getElem_cons_succ, List.getElem_cons_zero, Act.put, List.setIfInBounds_toArray, List.set_cons_zero, List.set_cons_succ]
        have b96 : BlkIs w6 q9 141 #[.int .i64 (m : Int), .slice As s.sy.length cs, .slice Al s.ls.length cl, .int .i64 (relL s.stops s.left)] := BlkIs.grown (show BlkIs wr.drew q9 141 _ from b9r) hg6 (fun e => by injection e with e; exact h99 e)
        have b56 : BlkIs w6 w.heap.size 137 #[.int .i64 wh0, .int .i64 at0, .int .i64 nn0, .int .u8 (bb0.toNat : Int), .slice K0 kp0.length kc0, .int .i64 wh1, .int .i64 at1, .int .i64 nn1, .int .u8 (bb1.toNat : Int), .slice K1 kp1.length kc1] := BlkIs.grown (show BlkIs wr.drew w.heap.size 137 _ from b5r) hg6 (fun e => by injection e with e; exact h59 e)
        have hB6 : Below w.heap.size w w6 := hBr.drew.trans (grown_below hg6 hBr.drew.size (fun r e => by injection e with e; omega))
        have hq96 : q9 ≠ q' := hD6.apart b96 (by decide)
        have gE := setRow_grownBy w6 q9 #[.int .i64 (m : Int), .slice As' s'.sy.length cs', .slice Al' s'.ls.length cl', .int .i64 (relL s'.stops s'.left)]
        refine RegF.one 12 (by kernel_rfl) ?_
        refine RegF.opS (w' := w6.setRow q9 #[.int .i64 (m : Int), .slice As' s'.sy.length cs', .slice Al' s'.ls.length cl', .int .i64 (relL s'.stops s'.left)]) rfl rfl (x_storeR (.tmp 9) (.tmp 59) rfl q9 rfl rfl b96 rfl rfl (four_oneR rfl rfl rfl rfl)) ⟨fun _ => ?_, ?_⟩
        · exact fun j v hj => (World.cell?_of_block (gE.block gl (Nat.lt_of_lt_of_le hgl hB6.size) (fun e => by injection e with e; omega))).trans (hS6 j v hj)
        simp only [List.getElem_toArray, List.getElem_cons_succ, List.getElem_cons_zero, Act.put]
        refine RegF.done (by kernel_rfl) ?_
        have b97 := b96.setRow #[.int .i64 (m : Int), .slice As' s'.sy.length cs', .slice Al' s'.ls.length cl', .int .i64 (relL s'.stops s'.left)]
        have b57 := b56.setRow_ne (show w.heap.size ≠ q9 by omega) #[.int .i64 (m : Int), .slice As' s'.sy.length cs', .slice Al' s'.ls.length cl', .int .i64 (relL s'.stops s'.left)]
        have hD7 := hD6.other b96 (by show 4 ≤ 64; decide) (fun e => hq96 e.symm) gE
        have hR7 := hR6.grownT b96 (noText4 _ _ _ _ _ _ _ _) gE
        have hB7 : Below w.heap.size w (w6.setRow q9 #[.int .i64 (m : Int), .slice As' s'.sy.length cs', .slice Al' s'.ls.length cl', .int .i64 (relL s'.stops s'.left)]) := below_setRow hB6 (by omega) _
        generalize w6.setRow q9 #[.int .i64 (m : Int), .slice As' s'.sy.length cs', .slice Al' s'.ls.length cl', .int .i64 (relL s'.stops s'.left)] = w7 at *
        have hqq : w.heap.size ≤ q' := by
          rcases hq6 with e | e
          · omega
          · exact Nat.le_trans hBr.drew.size e
        have hwk : IntKind.i64.wrap ((k : Int) + 1) = (k : Int) + 1 := wrap_i64_id' _ (by omega) (by omega)
        clear HA hkeep hSd hel' hS6 hg6 hD6 hR6 b96 b56 hB6 gE hDr hRr b9r b5r hBd
        go_wp2
        go_roundw
        case rel =>
          refine ⟨k + 1, q', As', cs', Al', cl', by omega, by simp, rfl, ?_, ?_, ?_, b57, hB7, hqq⟩
          · rw [HNX.out]; exact hD7
          · rw [HNX.out]; exact hR7
          · rw [HNX.out]; exact b97
        case measure => simp [intOf]; omega
      · obtain rfl : k = xs.length := by omega
        have HC := copy_gives wr q m (gOf s.sy) s.ls s.left s.stops hDr (by omega)
        have hqlt := hDr.lt
        go_upto_region 10 with (go_at_call 24; refine HC.mono ?_; rintro e W7 ⟨q7, rfl, hq7, hD7, hB7⟩)
        have hDd := hDr.grow hB7
        have hRw := hRr.grow hB7
        have b97 := b9r.below hB7 b9r.lt
        have b57 := b5r.below hB7 b5r.lt
        have hB07 := hBr.trans (hB7.mono hBr.size)
        have hwq7 : w.heap.size ≤ q7 := Nat.le_trans hBr.size hq7
        have h7q : q7 ≠ q := by omega
        have h97 : q9 ≠ q7 := hD7.apart b97 (by decide)
        have h57 : w.heap.size ≠ q7 := hD7.apart b57 (by decide)
        clear HC hDr hRr b9r b5r hBr hB7 hq7 hqlt
        obtain ⟨s1, hs1⟩ : ∃ x, x = actS m (⟨wh0, at0, nn0, bb0, kp0, K0, kc0⟩ : ActV) s := ⟨_, rfl⟩
        obtain ⟨s2, hs2⟩ : ∃ x, x = actS m (⟨wh1, at1, nn1, bb1, kp1, K1, kc1⟩ : ActV) s := ⟨_, rfl⟩
        have hok1 : StOk m s1 := by rw [hs1]; exact stOk_act hok _ hn0
        have hok2 : StOk m s2 := by rw [hs2]; exact stOk_act hok _ hnn1
        have hz1 : St0 s1 := by rw [hs1]; exact act_st0 hz _
        have hz2 : St0 s2 := by rw [hs2]; exact act_st0 hz _
        have hl1 : s1.sy.length + s1.ls.length ≤ 21 := by rw [hs1]; have := act_len m (⟨wh0, at0, nn0, bb0, kp0, K0, kc0⟩ : ActV) s; omega
        have hl2 : s2.sy.length + s2.ls.length ≤ 21 := by rw [hs2]; have := act_len m (⟨wh1, at1, nn1, bb1, kp1, K1, kc1⟩ : ActV) s; omega
        have HA1 : Calls Try.prog 83 #[.pointer (some ⟨q, 0, none⟩), .agg #[.int .i64 (m : Int), .slice As s.sy.length cs, .slice Al s.ls.length cl, .int .i64 (relL s.stops s.left)], .agg #[.int .i64 wh0, .int .i64 at0, .int .i64 nn0, .int .u8 (bb0.toNat : Int), .slice K0 kp0.length kc0]] W7 (ActOut W7 q m s1) := by
          rw [hs1]
          exact act_gives W7 q m s As cs Al cl (⟨wh0, at0, nn0, bb0, kp0, K0, kc0⟩ : ActV) hDd hRw hok (by omega) (by omega) w.heap.size hq hB07.size (hK0.below hB07) (show kp0.length ≤ 1000000 by omega)
        have HA2 : ∀ W, DkIs W q7 m (gOf s.sy) s.ls s.left s.stops → RIs W W.heap.size s.sy s.ls As cs Al cl → Below w.heap.size w W → Calls Try.prog 83 #[.pointer (some ⟨q7, 0, none⟩), .agg #[.int .i64 (m : Int), .slice As s.sy.length cs, .slice Al s.ls.length cl, .int .i64 (relL s.stops s.left)], .agg #[.int .i64 wh1, .int .i64 at1, .int .i64 nn1, .int .u8 (bb1.toNat : Int), .slice K1 kp1.length kc1]] W (ActOut W q7 m s2) := fun W hd hr hb => by
          rw [hs2]
          exact act_gives W q7 m s As cs Al cl (⟨wh1, at1, nn1, bb1, kp1, K1, kc1⟩ : ActV) hd hr hok (by omega) (by omega) w.heap.size hwq7 hb.size (hK1.below hb) (show kp1.length ≤ 1000000 by omega)
        unfold ActOut VAL at HA1 HA2
        clear hs1 hs2 hs hnx hn0 hnn1 hKx hkpx hrf hln
        go_upto_region 11 with (first
          | (refine wp_loadW rfl 141 (.tmp 9) rfl q9 rfl rowRDisk b97 (by rfl) ?_)
          | (refine wp_exec rfl (x_loadM rowAct (two_at b57 0) rfl rfl rfl) ?_)
          | (go_at_call 83; refine HA1.mono ?_; rintro e W8 ⟨q8, As8, cs8, Al8, cl8, rfl, hD8, hR8, hq8, hg8⟩)
          | (refine wp_storeW rfl 141 (.tmp 12) (.tmp 70) rfl W8.heap.size rfl rfl rowRDisk (BlkIs.new W8 141 #[.int .i64 0, .slice none 0 0, .slice none 0 0, .int .i64 0]) (by rfl) (by rfl) (four_oneR rfl rfl rfl rfl) ?_))
        obtain ⟨W9, hW9⟩ : ∃ x, (W8.alloc (.cells #[.int .i64 0, .slice none 0 0, .slice none 0 0, .int .i64 0] 141)).setRow W8.heap.size #[.int .i64 (m : Int), .slice As8 s1.sy.length cs8, .slice Al8 s1.ls.length cl8, .int .i64 (relL s1.stops s1.left)] = x := ⟨_, rfl⟩
        have g9 : Below W8.heap.size W8 W9 := by rw [← hW9]; exact below_setRow ((Below.refl _ W8).alloc (Nat.le_refl _) _) (Nat.le_refl _) _
        have b12 : BlkIs W9 W8.heap.size 141 #[.int .i64 (m : Int), .slice As8 s1.sy.length cs8, .slice Al8 s1.ls.length cl8, .int .i64 (relL s1.stops s1.left)] := by rw [← hW9]; exact (BlkIs.new W8 141 #[.int .i64 0, .slice none 0 0, .slice none 0 0, .int .i64 0]).setRow _
        rw [hW9]
        have hD9 := hD8.grow g9
        have hR9 := hR8.grow g9
        have hDc9 := (hD7.beside hDd h7q hg8).grow g9
        have hRw9 := (hRw.past hDd hg8).grow g9
        have b98 := b97.grown hg8 (fun e => by injection e with e; exact h99 e)
        have b99 := b98.below g9 b98.lt
        have b58 := b57.grown hg8 (fun e => by injection e with e; exact h59 e)
        have b59 := b58.below g9 b58.lt
        have hB08 : Below w.heap.size w W8 := hB07.trans (grown_below hg8 hB07.size (fun r e => by injection e with e; omega))
        have hB09 := hB08.trans (g9.mono hB08.size)
        have h78 : q8 ≠ q7 := by
          have := hD7.lt
          rcases hq8 with e | e <;> omega
        have h12 : W8.heap.size ≠ q7 := hDc9.apart b12 (by decide)
        generalize W8.heap.size = q12 at *
        have HA3 := HA2 W9 hDc9 hRw9 hB09
        clear HA1 HA2 hW9 hD8 hR8 b98 b58 hB08 g9 hD7 hDd hRw b97 b57 hB07 hg8 hq8
        go_upto_region 12 with (first
          | (refine wp_loadW rfl 141 (.tmp 9) rfl q9 rfl rowRDisk b99 (by rfl) ?_)
          | (refine wp_exec rfl (x_loadM rowAct (two_at b59 5) rfl rfl rfl) ?_)
          | (go_at_call 83; refine HA3.mono ?_; rintro e W10 ⟨q10, As0, cs0, Al0, cl0, rfl, hD10, hR10, hq10, hg10⟩)
          | (refine wp_storeW rfl 141 (.tmp 14) (.tmp 79) rfl W10.heap.size rfl rfl rowRDisk (BlkIs.new W10 141 #[.int .i64 0, .slice none 0 0, .slice none 0 0, .int .i64 0]) (by rfl) (by rfl) (four_oneR rfl rfl rfl rfl) ?_))
        obtain ⟨W11, hW11⟩ : ∃ x, (W10.alloc (.cells #[.int .i64 0, .slice none 0 0, .slice none 0 0, .int .i64 0] 141)).setRow W10.heap.size #[.int .i64 (m : Int), .slice As0 s2.sy.length cs0, .slice Al0 s2.ls.length cl0, .int .i64 (relL s2.stops s2.left)] = x := ⟨_, rfl⟩
        have g11 : Below W10.heap.size W10 W11 := by rw [← hW11]; exact below_setRow ((Below.refl _ W10).alloc (Nat.le_refl _) _) (Nat.le_refl _) _
        have b14 : BlkIs W11 W10.heap.size 141 #[.int .i64 (m : Int), .slice As0 s2.sy.length cs0, .slice Al0 s2.ls.length cl0, .int .i64 (relL s2.stops s2.left)] := by rw [← hW11]; exact (BlkIs.new W10 141 #[.int .i64 0, .slice none 0 0, .slice none 0 0, .int .i64 0]).setRow _
        rw [hW11]
        have hD11 := (hD9.beside hDc9 h78 hg10).grow g11
        have hR11 := (hR9.past hDc9 hg10).grow g11
        have hE11 := hD10.grow g11
        have hS11 := hR10.grow g11
        have b120 := b12.grown hg10 (fun e => by injection e with e; exact h12 e)
        have b121 := b120.below g11 b120.lt
        have hB010 : Below w.heap.size w W10 := hB09.trans (grown_below hg10 hB09.size (fun r e => by injection e with e; omega))
        have hB011 := hB010.trans (g11.mono hB010.size)
        generalize W10.heap.size = q14 at *
        clear HA3 hW11 hD9 hR9 hDc9 hRw9 b99 b59 hB09 hg10 hq10 hD10 hR10 b12 b120 hB010 g11
        have HSM := rsame_gives W11 (m : Int) (m : Int) s1.sy s1.ls s2.sy s2.ls As8 cs8 Al8 cl8 (relL s1.stops s1.left) As0 cs0 Al0 cl0 (relL s2.stops s2.left) hR11 hS11 (by omega) (by omega) (by omega) (by omega)
        unfold YesR VAL at HSM
        go_upto_region 13 with (first
          | (refine wp_loadW rfl 141 (.tmp 12) rfl q12 rfl rowRDisk b121 (by rfl) ?_)
          | (refine wp_loadW rfl 141 (.tmp 14) rfl q14 rfl rowRDisk b14 (by rfl) ?_)
          | (go_at_call 84; refine HSM.mono ?_; rintro e V ⟨SM, rfl, hB12, hSM⟩))
        have hVB := hB011.trans (hB12.mono hB011.size)
        have HI1 : ∀ W, Grow V W → Calls Try.prog 85 #[.pointer (some ⟨q8, 0, none⟩), .agg #[.int .i64 (m : Int), .slice As8 s1.sy.length cs8, .slice Al8 s1.ls.length cl8, .int .i64 (relL s1.stops s1.left)], .int .i64 99] W fun e w' => e = .returned (.bool true) ∧ Below W.heap.size W w' := fun W hg =>
          is_gives W q8 m s1.sy s1.ls s1.left s1.stops As8 cs8 Al8 cl8 ((hD11.grow hB12).grow hg) ((hR11.grow hB12).grow hg) hok1.at_ (by omega) (by omega) hm12
        have HI2 : ∀ W, Grow V W → Calls Try.prog 85 #[.pointer (some ⟨q10, 0, none⟩), .agg #[.int .i64 (m : Int), .slice As0 s2.sy.length cs0, .slice Al0 s2.ls.length cl0, .int .i64 (relL s2.stops s2.left)], .int .i64 99] W fun e w' => e = .returned (.bool true) ∧ Below W.heap.size W w' := fun W hg =>
          is_gives W q10 m s2.sy s2.ls s2.left s2.stops As0 cs0 Al0 cl0 ((hE11.grow hB12).grow hg) ((hS11.grow hB12).grow hg) hok2.at_ (by omega) (by omega) hm12
        have hiff := same_iff hok1 hok2 hz1 hz2
        have HD1 : ∀ W, Grow V W → Calls Try.prog 86 #[.pointer (some ⟨q8, 0, none⟩), .pointer (some ⟨q10, 0, none⟩)] W fun e w' => e = .returned (.bool SM) ∧ Below W.heap.size W w' := fun W hg =>
          (dsame_gives W q8 q10 m m (gOf s1.sy) (gOf s2.sy) s1.ls s2.ls s1.left s2.left s1.stops s2.stops ((hD11.grow hB12).grow hg) ((hE11.grow hB12).grow hg) (by omega)).mono fun e w' ⟨r, he, hb, hr⟩ => ⟨by rw [he, bool_iff hr (hSM.trans hiff)], hb⟩
        have HD2 : ∀ W, Grow V W → Calls Try.prog 86 #[.pointer (some ⟨q10, 0, none⟩), .pointer (some ⟨q8, 0, none⟩)] W fun e w' => e = .returned (.bool SM) ∧ Below W.heap.size W w' := fun W hg =>
          (dsame_gives W q10 q8 m m (gOf s2.sy) (gOf s1.sy) s2.ls s1.ls s2.left s1.left s2.stops s1.stops ((hE11.grow hB12).grow hg) ((hD11.grow hB12).grow hg) (by omega)).mono fun e w' ⟨r, he, hb, hr⟩ => ⟨by
            rw [he, bool_iff hr ((hSM.trans hiff).trans ⟨fun ⟨_, h1, h2, h3, h4⟩ => ⟨rfl, h1.symm, h2.symm, fun k => (h3 k).symm, h4.symm⟩, fun ⟨_, h1, h2, h3, h4⟩ => ⟨rfl, h1.symm, h2.symm, fun k => (h3 k).symm, h4.symm⟩⟩)], hb⟩
        have hb12 : ∀ W, Grow V W → BlkIs W q12 141 #[.int .i64 (m : Int), .slice As8 s1.sy.length cs8, .slice Al8 s1.ls.length cl8, .int .i64 (relL s1.stops s1.left)] := fun W hg => (b121.below hB12 b121.lt).below hg (b121.below hB12 b121.lt).lt
        have hb14 : ∀ W, Grow V W → BlkIs W q14 141 #[.int .i64 (m : Int), .slice As0 s2.sy.length cs0, .slice Al0 s2.ls.length cl0, .int .i64 (relL s2.stops s2.left)] := fun W hg => (b14.below hB12 b14.lt).below hg (b14.below hB12 b14.lt).lt
        have hG0 : Grow V V := Grow.refl _
        clear HSM hSM hiff hD11 hR11 hE11 hS11 hB12 hB011 b121 b14 hok hok1 hok2 hz hz1 hz2 hL hK0 hK1
        clear W11 W9 W7
        go_wp2_with (first
          | (go_at_call 20; refine (num4_gives _ _).mono ?_; rintro e W9 ⟨rfl, rfl⟩)
          | (refine wp_execG (by first | rfl | simp [Region.wanted, yielded]) (x_loadM rowRDisk (hb12 _ (by assumption)).range rfl rfl rfl) ?_)
          | (refine wp_execG (by first | rfl | simp [Region.wanted, yielded]) (x_loadM rowRDisk (hb14 _ (by assumption)).range rfl rfl rfl) ?_)
          | (go_at_call 85; first | ((with_reducible refine (HI1 _ (by assumption)).mono ?_); rintro e W9 ⟨rfl, hB9⟩; have hGk : Grow V W9 := Grow.trans (by assumption) hB9) | ((with_reducible refine (HI2 _ (by assumption)).mono ?_); rintro e W9 ⟨rfl, hB9⟩; have hGk : Grow V W9 := Grow.trans (by assumption) hB9))
          | (go_at_call 86; first | ((with_reducible refine (HD1 _ (by assumption)).mono ?_); rintro e W9 ⟨rfl, hB9⟩; have hGk : Grow V W9 := Grow.trans (by assumption) hB9) | ((with_reducible refine (HD2 _ (by assumption)).mono ?_); rintro e W9 ⟨rfl, hB9⟩; have hGk : Grow V W9 := Grow.trans (by assumption) hB9))
          | (go_at_call 18; refine (works4_gives _).mono ?_; rintro e W9 ⟨rfl, hB9⟩; have hGk : Grow V W9 := Grow.trans (by assumption) hB9))
        go_ret
        exact ⟨rfl, hVB.trans (Below.mono hGk hVB.size)⟩
theorem lawCopies_walk (w : World) (n : Int) (xs : List ActV) (A : Option Addr) (c : Nat) (y0 y1 : ActV) (hL : InG w w.heap.size 5 A xs.length c (acsC xs)) (hxl : xs.length * 56 ≤ 140737488351232) (hKx : ∀ x ∈ xs, KeepIs w w.heap.size x) (hK0 : KeepIs w w.heap.size y0) (hK1 : KeepIs w w.heap.size y1) (hnx : ∀ x ∈ xs, x.n ≤ 9223372036854775807) (hn0 : y0.n ≤ 9223372036854775807) (hn1 : y1.n ≤ 9223372036854775807) :
    Calls Try.prog 17 #[.int .i64 n, .slice A xs.length c, .agg (actC y0 ++ actC y1).toArray] w fun e w' => e = .returned (.bool true) ∧ Below w.heap.size w w' := by
  by_cases h1 : n < 1
  · exact cop_out1 w n xs A c _ _ _ _ _ _ _ _ _ _ _ _ _ _ hL hxl h1
  · by_cases h2 : 12 < n
    · exact cop_out2 w n xs A c _ _ _ _ _ _ _ _ _ _ _ _ _ _ hL hxl h1 h2
    · obtain ⟨m, rfl⟩ : ∃ m : Nat, n = (m : Int) := ⟨n.toNat, by omega⟩
      exact cop_main w m xs A c _ _ _ _ _ _ _ _ _ _ _ _ _ _ hL hxl h1 h2 hKx hK0 hK1 hnx hn0 hn1
end Go.Proofs.Ytlelckdcmlpmdaa
/- From a row's own reading of acts (loupelaw04) that came in to their parts. -/
namespace Go.Proofs.Ytlelckdcmlpmdaa
open Go Lou Go.ChangeShapes Go.WideShapes Go.ChangeAt Go.RowKit

theorem flat_getC {α : Type} {C : α → List Value} {sz : Nat} (hC : ∀ x, (C x).length = sz) : ∀ (s : List α) (j : Nat) (v : Value), ((s.map C).flatten)[j]? = some v → ∃ i q, ∃ hi : i < s.length, j = i * sz + q ∧ q < sz ∧ (C s[i])[q]? = some v
  | [], j, v, h => by simp at h
  | x :: s, j, v, h => by
    have e : ((x :: s).map C).flatten = C x ++ (s.map C).flatten := rfl
    rw [e] at h
    by_cases hj : j < (C x).length
    · rw [List.getElem?_append_left hj] at h
      exact ⟨0, j, by simp, by omega, by rw [← hC x]; exact hj, by simpa using h⟩
    · rw [List.getElem?_append_right (by omega)] at h
      obtain ⟨i, q, hi, e1, hq, e2⟩ := flat_getC hC s _ v h
      rw [hC] at e1 hj
      refine ⟨i + 1, q, by simpa using hi, ?_, hq, by simpa using e2⟩
      rw [Nat.succ_mul]
      omega
section
variable {H : Type} {enc : TypeId × Value → H} {W : World} {r : Reach} {b0 b1 : Nat} {held : Bool} {v : Value} {d : DataW H} {p : List MemPlace}
set_option maxRecDepth 100000 in
/-- A row of elements of sz cells each. -/
theorem one_rowC {α : Type} [Inhabited α] (C : α → List Value) {sz : Nat} (hz : 0 < sz) (hC : ∀ x, (C x).length = sz) (h1 : ∀ x, ∀ v ∈ C x, v.oneCell' = true) {T E : TypeId} (hT : Try.prog.underlying T = some (.slice E)) (hE : Try.prog.cellsOf E = sz)
    (hel : ∀ (n : Nat) (cs : List Value) (x : DataW H × List MemPlace), cs.length = sz → DataW.trod enc Try.prog W b1 (fun _ => true) held n E cs = some x → ∃ y : α, cs = C y)
    {n : Nat} {c : Value} {x : DataW H × List MemPlace} (h : DataW.trod enc Try.prog W b1 (fun _ => true) held n T [c] = some x) : ∃ A k, ∃ s : List α, c = .slice A s.length k ∧ InG W W.heap.size sz A s.length k ((s.map C).flatten) ∧ (s = [] ∨ ∃ elems sp, x.1 = .slice elems sp ∧ elems.length = s.length) := by
  rcases Go.Deep.open_slice hT h with ⟨hcs, _⟩ | ⟨a, len, cap, m, n', D, Pl, hcs, hb, hl, hm, hmm, hxd, hx⟩
  · simp at hcs
    exact ⟨none, 0, [], hcs, InG.mt _ _ _, .inl rfl⟩
  · simp at hcs
    simp only [if_true] at hmm
    subst hmm
    rw [hE] at hx
    obtain ⟨B, hB⟩ := Go.Deep.choose_lt (α := α) (p := fun i y => ∀ j (hj : j < (C y).length), W.cell? ((a.add (i * sz)).add j) = some (C y)[j]) (fun i hi => by
      obtain ⟨cs', h3, h4⟩ := hx i hi
      obtain ⟨_, hlen, hcell⟩ := World.cells?_some h3
      obtain ⟨y, rfl⟩ := hel _ _ _ hlen h4
      exact ⟨y, fun j hj => (hcell j (by omega)).trans (List.getElem?_eq_getElem hj)⟩)
    refine ⟨some a, m, (List.range len).map B, by simpa using hcs, ?_⟩
    have hln : ((List.range len).map B).length = len := by simp
    refine ⟨?_, .inr ⟨_, _, congrArg Prod.fst hxd, by simp⟩⟩
    refine ⟨by rw [hln]; exact hl, by unfold maxLen at hm; omega, (fun e => by cases e), ?_, ?_, fun h0 => ?_⟩
    · rw [List.length_flatten, List.map_map, hln]
      have : (List.map (List.length ∘ C) ((List.range len).map B)) = List.replicate len sz := by
        rw [List.eq_replicate_iff]
        refine ⟨by simp, fun b hb => ?_⟩
        obtain ⟨y, _, rfl⟩ := List.mem_map.1 hb
        exact hC y
      rw [this, List.sum_replicate_nat]
    · intro v hv
      obtain ⟨l, hl', hv⟩ := List.mem_flatten.1 hv
      obtain ⟨y, _, rfl⟩ := List.mem_map.1 hl'
      exact h1 y v hv
    · rw [hln] at h0
      obtain ⟨b, off, spot⟩ := a
      have hc0 := hB 0 (by omega) 0 (by rw [hC]; exact hz)
      have hspot : spot = none := by simpa [Addr.add] using World.cell?_spot hc0
      subst hspot
      have hbl : b < W.heap.size := by simpa [Addr.add] using cell_block_lt hc0
      refine ⟨b, off, rfl, hbl, fun j v hj => ?_⟩
      obtain ⟨i, q, hi, rfl, hq, e⟩ := flat_getC hC _ j v hj
      have hi' := hi
      rw [hln] at hi'
      have hg : ((List.range len).map B)[i] = B i := by simp
      rw [hg] at e
      obtain ⟨hq2, e⟩ := List.getElem?_eq_some_iff.1 e
      have := hB i (by omega) q hq2
      rw [Addr.add_mid, Addr.add_mid, e] at this
      rw [← Nat.add_assoc]
      exact this
theorem flat_oneC {α : Type} (f : α → Value) : ∀ s : List α, (s.map fun x => [f x]).flatten = s.map f
  | [] => rfl
  | x :: s => by
    have e : ((x :: s).map fun x => [f x]).flatten = f x :: (s.map fun x => [f x]).flatten := rfl
    rw [e, flat_oneC f s]
    rfl
set_option maxRecDepth 100000 in
theorem row_truths {n : Nat} {c : Value} {x : DataW H × List MemPlace} (h : DataW.trod enc Try.prog W b1 (fun _ => true) held n 24 [c] = some x) : ∃ A k, ∃ s : List Bool, c = .slice A s.length k ∧ InG W W.heap.size 1 A s.length k (s.map Value.bool) := by
  have hc : Try.prog.cellsOf 4 = 1 := by kernel_rfl
  obtain ⟨A, k, s, e, hin, _⟩ := one_rowC (α := Bool) (fun x => [Value.bool x]) (by decide) (fun _ => rfl) (fun x v hv => by simp at hv; subst hv; rfl) Try.underlying24 hc (fun n cs x hl ht => by
    obtain ⟨s, g, _⟩ := DataW.trod_bool Try.underlying4 ht
    exact ⟨s, g⟩) h
  rw [flat_oneC] at hin
  exact ⟨A, k, s, e, hin⟩
/-- An act that may come in. -/
def ActIn (W : World) (x : ActV) : Prop := KeepIs W W.heap.size x ∧ x.n ≤ 9223372036854775807
instance {W : World} : Inhabited { x : ActV // ActIn W x } := ⟨⟨⟨0, 0, 0, 0, [], none, 0⟩, InG.mt _ _ _, by decide⟩⟩
theorem i64_top {n : Int} (h : (Lit.int .i64 n).wf = true) : n ≤ 9223372036854775807 := by
  simp [Lit.wf, IntKind.min, IntKind.max, IntKind.signed, IntKind.bits] at h
  omega
set_option maxRecDepth 100000 in
theorem act_of {n : Nat} {cs : List Value} {x : DataW H × List MemPlace} (hl : cs.length = 5) (h : DataW.trod enc Try.prog W b1 (fun _ => true) held n 136 cs = some x) : ∃ y : { x : ActV // ActIn W x }, cs = actC y.1 := by
  have h1i : Try.prog.cellsOf 3 = 1 := by kernel_rfl
  have h1u : Try.prog.cellsOf 5 = 1 := by kernel_rfl
  have h1b : Try.prog.cellsOf 24 = 1 := by kernel_rfl
  obtain ⟨xs, m, _, _, _, hlx, hi⟩ := DataW.trod_struct Try.underlying136 h
  match cs, hl with
  | [c0, c1, c2, c3, c4], _ =>
    have hx5 : xs.length = 5 := hlx
    have e0 := hi 0 _ rfl
    have e1 := hi 1 _ rfl
    have e2 := hi 2 _ rfl
    have e3 := hi 3 _ rfl
    have e4 := hi 4 _ rfl
    rw [List.getElem?_eq_getElem (by omega)] at e0 e1 e2 e3 e4
    obtain ⟨z0, g0, _, _⟩ := DataW.trod_int Try.underlying3 e0
    obtain ⟨z1, g1, _, _⟩ := DataW.trod_int Try.underlying3 e1
    obtain ⟨z2, g2, _, w2⟩ := DataW.trod_int Try.underlying3 e2
    obtain ⟨z3, g3, _, w3⟩ := DataW.trod_int Try.underlying5 e3
    replace e4 : DataW.trod enc Try.prog W b1 (fun _ => true) held m 24 (([c0, c1, c2, c3, c4].drop 4).take (Try.prog.cellsOf 24)) = _ := e4
    rw [h1b] at e4
    obtain ⟨A, k, s, g4, hin⟩ := row_truths (show DataW.trod enc Try.prog W b1 (fun _ => true) held m 24 [c4] = _ from e4)
    replace g0 : ([c0, c1, c2, c3, c4].drop 0).take (Try.prog.cellsOf 3) = _ := g0
    replace g1 : ([c0, c1, c2, c3, c4].drop 1).take (Try.prog.cellsOf 3) = _ := g1
    replace g2 : ([c0, c1, c2, c3, c4].drop 2).take (Try.prog.cellsOf 3) = _ := g2
    replace g3 : ([c0, c1, c2, c3, c4].drop 3).take (Try.prog.cellsOf 5) = _ := g3
    rw [h1i] at g0 g1 g2
    rw [h1u] at g3
    simp at g0 g1 g2 g3
    subst g0 g1 g2 g3 g4
    have hu := u8_wf w3
    refine ⟨⟨⟨z0, z1, z2, UInt8.ofNat z3.toNat, s, A, k⟩, hin, i64_top w2⟩, ?_⟩
    unfold actC
    simp only [List.cons.injEq, and_true, true_and]
    congr 1
    simp
    omega
set_option maxRecDepth 100000 in
theorem open_acts (hval : Value.okWide Try.prog W r b0 134 v) (h : DataW.Trod enc Try.prog W b1 (fun _ => true) held 134 v d p) : ∃ (A : Option Addr) (k : Nat) (xs : List ActV), v = .slice A xs.length k ∧ InG W W.heap.size 5 A xs.length k (acsC xs) ∧ (∀ x ∈ xs, ActIn W x) ∧ (xs = [] ∨ ∃ elems sp, d = .slice elems sp ∧ elems.length = xs.length) := by
  obtain ⟨A, n, k, rfl⟩ := okWide_slice Try.underlying134 hval
  obtain ⟨fuel, hf⟩ := h
  have hc : Try.prog.cellsOf 136 = 5 := by kernel_rfl
  obtain ⟨A', k', s, e, hin, hd⟩ := one_rowC (α := { x : ActV // ActIn W x }) (fun x => actC x.1) (by decide) (fun _ => rfl) (fun x => actC_one x.1) Try.underlying134 hc (fun n cs x hl ht => act_of hl ht) (show DataW.trod enc Try.prog W b1 (fun _ => true) held fuel 134 [.slice A n k] = some (d, p) from hf)
  refine ⟨A', k', s.map (·.1), by rw [List.length_map]; exact e, ?_, fun x hx => ?_, ?_⟩
  · rw [List.length_map]
    unfold acsC
    rw [List.map_map]
    exact hin
  · obtain ⟨y, _, rfl⟩ := List.mem_map.1 hx
    exact y.2
  · rcases hd with rfl | ⟨elems, sp, h1, h2⟩
    · exact .inl rfl
    · exact .inr ⟨elems, sp, h1, by rw [List.length_map]; exact h2⟩
set_option maxRecDepth 100000 in
theorem open_two_acts (hval : Value.okWide Try.prog W r b0 137 v) (h : DataW.Trod enc Try.prog W b1 (fun _ => true) held 137 v d p) : ∃ y0 y1 : ActV, v = .agg (actC y0 ++ actC y1).toArray ∧ ActIn W y0 ∧ ActIn W y1 := by
  obtain ⟨cs, rfl, hl, hi⟩ := open_arr Try.underlying137 hval h
  have h2 : Try.prog.cellsOf 137 = 10 := by kernel_rfl
  have h5 : Try.prog.cellsOf 136 = 5 := by kernel_rfl
  rw [h2] at hl
  obtain ⟨_, _, e0⟩ := hi 0 (by omega)
  obtain ⟨_, _, e1⟩ := hi 1 (by omega)
  rw [h5] at e0 e1
  obtain ⟨y0, g0⟩ := act_of (by simp; omega) e0
  obtain ⟨y1, g1⟩ := act_of (by simp; omega) e1
  have e : cs = actC y0.1 ++ actC y1.1 := by
    rw [← g0, ← g1]
    have t1 : cs.drop (1 * 5) = (cs.drop 5) := rfl
    rw [t1, List.take_of_length_le (show (cs.drop 5).length ≤ 5 by simp; omega)]
    simp
  exact ⟨y0.1, y1.1, by rw [e], y0.2, y1.2⟩
end
end Go.Proofs.Ytlelckdcmlpmdaa
