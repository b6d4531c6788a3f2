/- Texts that the proof of WalNone leans on, part 11. -/
import Derived.Sort.CutIn
import Derived.Lib.Builder
import Derived.Test.YtocnabpplbeafaaGreatWalNoneB10
/- loupelaw06.WalNone. -/
namespace Go.Proofs.YtocnabpplbeafaaGreat
open Go Go.RowKit Lou Go.Shelf
attribute [local go_sem] Oper.semAt_some

theorem new_bad (w : World) (n : Int) (h : n < 1 ∨ (1 ≤ n ∧ 40000 < n)) : Calls Tryz.prog 9 #[.int .i64 n] w fun e w' => e = .returned (.tuple #[.pointer none, .int .i64 2]) ∧ w = w' := by
  rcases h with h | ⟨h1, h⟩
  · go_enter Tryz.func9, Tryz.ntmps9
    go_wp2
    exact bodyPost_ret (results_tmp2 rfl _ _ _) rfl ⟨rfl, rfl⟩
  · have h0 : ¬ n < 1 := by omega
    go_enter Tryz.func9, Tryz.ntmps9
    go_wp2
    exact bodyPost_ret (results_tmp2 rfl _ _ _) rfl ⟨rfl, rfl⟩
set_option maxRecDepth 100000 in
set_option maxHeartbeats 8000000 in
theorem lawWN_out (m : Nat) (hm : 8 ≤ m) (w : World) (fr pg n : Int) (h : n < 1 ∨ (1 ≤ n ∧ 40000 < n)) :
    CallsIn Fence.wide m Tryz.prog 4 #[.agg #[.int .i64 fr, .int .i64 pg], .int .i64 n] w fun e w' => e = .returned (.bool true) ∧ Below w.heap.size w w' := by
  have b1 := BlkIs.new (w.alloc (.cells #[.int .i64 fr, .int .i64 pg] 23)) 4 #[.bool false]
  rw [World.size_alloc] at b1
  have hB0 : Below w.heap.size w ((w.alloc (.cells #[.int .i64 fr, .int .i64 pg] 23)).alloc (.cells #[.bool false] 4)) := ((Below.refl _ w).alloc (Nat.le_refl _) _).alloc (by simp) _
  have hm1 : 1 ≤ m := by omega
  have HN := new_bad ((w.alloc (.cells #[.int .i64 fr, .int .i64 pg] 23)).alloc (.cells #[.bool false] 4)) n h
  refine callsIn_of_wp_marks Tryz.func4 rfl trivial ?_ rfl
  simp only [Tryz.ntmps4, List.size_toArray, List.length_cons, List.length_nil, Nat.reduceAdd, Nat.reduceSub, Array.replicate_succ, Array.replicate_zero, List.push_toArray, List.append_toArray, List.nil_append, List.cons_append]
  rcases h with h | ⟨h1, h⟩
  · gi_wp2_with (first
      | (refine ⟨trivial, ?_⟩; gi_at_call 9; refine (callsIn_wide.2 HN).mono ?_; rintro e W1 ⟨rfl, rfl⟩)
      | (refine ⟨trivial, ?_⟩; gi_at_call 12; refine (callsIn_wide.2 (num6_gives _ _)).mono ?_; rintro e W1 ⟨rfl, rfl⟩)
      | (refine ⟨trivial, ?_⟩; gi_at_call 8; refine (callsIn_wide.2 (works6_gives _)).mono ?_; rintro e W2 ⟨rfl, hB2⟩; have b2 := b1.below hB2 b1.lt; have k2 := b2.boxed; have f2 := b2.free 0))
    have b3 := b2.set 0 (.bool true)
    have hB3 := (hB0.trans (hB2.mono hB0.size)).setCell (p := ⟨w.heap.size + 1, 0, none⟩) (by simp) (.bool true)
    exact ⟨.bool true, results_cellQ (p := ⟨w.heap.size + 1, 0, none⟩) 4 rfl rfl (by simp [go_sem]) b3.boxed, rfl, hB3⟩
  · have h0 : ¬ n < 1 := by omega
    gi_wp2_with (first
      | (refine ⟨trivial, ?_⟩; gi_at_call 9; refine (callsIn_wide.2 HN).mono ?_; rintro e W1 ⟨rfl, rfl⟩)
      | (refine ⟨trivial, ?_⟩; gi_at_call 12; refine (callsIn_wide.2 (num6_gives _ _)).mono ?_; rintro e W1 ⟨rfl, rfl⟩)
      | (refine ⟨trivial, ?_⟩; gi_at_call 8; refine (callsIn_wide.2 (works6_gives _)).mono ?_; rintro e W2 ⟨rfl, hB2⟩; have b2 := b1.below hB2 b1.lt; have k2 := b2.boxed; have f2 := b2.free 0))
    have b3 := b2.set 0 (.bool true)
    have hB3 := (hB0.trans (hB2.mono hB0.size)).setCell (p := ⟨w.heap.size + 1, 0, none⟩) (by simp) (.bool true)
    exact ⟨.bool true, results_cellQ (p := ⟨w.heap.size + 1, 0, none⟩) 4 rfl rfl (by simp [go_sem]) b3.boxed, rfl, hB3⟩
@[local go_sem] theorem run_eqFseq (w : World) (f : Fn) (xs ys : Array Value) : (binOp .eql 63 (.func f xs ys) .nilFunc).run Tryz.prog w = .ok (.bool false) w := by
  have h := run_eqF_nil (P := Tryz.prog) 9999 63 w f xs ys Tryz.underlying63
  have e : binOp .eql 63 (.func f xs ys) .nilFunc = (do pure (.bool (← Op.equalIn (9999 + 1) 63 (.func f xs ys) .nilFunc))) := rfl
  rw [e]
  simp only [Sem.run_bind, h, Result.andThen, Sem.run_pure]
theorem diskP_same (w : World) (a : Addr) : (binOp .neq 28 (.pointer (some a)) (.pointer (some a))).run Tryz.prog w = .ok (.bool false) w := by
  obtain ⟨j, hj⟩ := Option.isSome_iff_exists.1 (by kernel_rfl : (Tryz.prog.info? 85).isSome = true)
  exact Lib.run_neq_ptr_same w a Tryz.underlying28 hj
/-- The function's own blocks: its plan, its result. -/
structure Pl (B : Nat) (fr pg : Int) (W : World) : Prop where
  b0 : BlkIs W B 23 #[.int .i64 fr, .int .i64 pg]
  b1 : BlkIs W (B + 1) 4 #[.bool false]
theorem Pl.grow {B : Nat} {fr pg : Int} {W W' : World} (h : Pl B fr pg W) (hB : Below W.heap.size W W') : Pl B fr pg W' := ⟨h.b0.below hB h.b0.lt, h.b1.below hB h.b1.lt⟩
theorem Pl.grown {B : Nat} {fr pg : Int} {W W' : World} {row : Option Nat} (h : Pl B fr pg W) (hB : W.grownBy W' row) (hr : ∀ r, row = some r → B + 2 ≤ r) : Pl B fr pg W' :=
  ⟨h.b0.grown hB (fun e => by have := hr _ e.symm; omega), h.b1.grown hB (fun e => by have := hr _ e.symm; omega)⟩
theorem Pl.c0 {B : Nat} {fr pg : Int} {W : World} (h : Pl B fr pg W) : W.cell? ⟨B, 0, none⟩ = some (.int .i64 fr) := by rw [h.b0.cell]; rfl
theorem Pl.c1 {B : Nat} {fr pg : Int} {W : World} (h : Pl B fr pg W) : W.cell? ⟨B, 1, none⟩ = some (.int .i64 pg) := by rw [h.b0.cell]; rfl
theorem tmod_two (k : Nat) (x : Nat) (h : k % 2 = x) : Int.tmod (k : Int) 2 = (x : Int) := by
  rw [← h]
  rfl
/-- A range over a function that hands over nothing. -/
theorem wpIn_rangeFunc_no {F : Fence} {n : Nat} {P : Program} {w : World} {g : Operand} {ps : Array Tmp} {body : Code} {Q : Exit → Act → World → Prop} {a : Act}
    (hro : F.round = none) (h1 : 1 ≤ n) {gf : Nat} {lb : Array Value} (hg : a.eval g = .func (.func gf) #[] lb) (hFg : F.fn gf) (eg : ∀ args w, (callFunc gf args).run P w = .ok (.enter gf args) w)
    {encs : Unit → Array Value} (hseq : SeqR F (n - 1) P gf lb encs (fun _ => False) (fun _ _ _ => False) (fun ys => ys = []) (fun _ => False) w) (hps : ∀ x, (encs x).size = ps.size)
    (hdone : ∀ (D : Nat) (V : World), w.heap.size ≤ D → Below w.heap.size w V → V.heap[D]? = some (.deferred (some [])) → Q .normal { a with defers := { target := .collected D, args := #[] } :: a.defers } V) :
    (Code.rangeFunc g ps .skip body).wpIn F n P Q a w := by
  refine wpIn_rangeFunc_R hro h1 hg hFg eg hseq (Below.refl _ _) hps
    (fun pre V => Below w.heap.size w V) (fun _ _ _ => False)
    (fun pre X Y row h hgr hr => below_abN (B := w.heap.size) (Nat.le_refl _) h.size h hgr hr) (fun c pre X Y row h _ _ => h) (fun pre x s X Y row h _ _ => h) (Below.refl _ _)
    (fun x => { tmps := (ps.zip (encs x)).foldl (fun t (p, v) => t.setIfInBounds p v) a.tmps, defers := [] }) ?_ ?_ ?_ ?_
  · intro l1 x V K hK
    gi_wp2
    simpa [hps x] using hK
  · intro l1 pre x V hI hR
    exact hR.elim
  · intro D xs V hD hS hI hK
    exact hdone D V hD hI hK
  · intro D c pre V hD hS h
    exact h.elim
set_option maxRecDepth 100000 in
set_option maxHeartbeats 16000000 in
theorem lawWN_in (m : Nat) (hm : 10 ≤ m) (w : World) (fr pg : Int) (k : Nat) (hk1 : 1 ≤ k) (hk2 : k ≤ 40000) :
    CallsIn Fence.wide m Tryz.prog 4 #[.agg #[.int .i64 fr, .int .i64 pg], .int .i64 (k : Int)] w fun e w' => e = .returned (.bool true) ∧ Below w.heap.size w w' := by
  have g1 : ¬ (k : Int) < 1 := by omega
  have g2 : ¬ (40000 : Int) < (k : Int) := by omega
  have hm1 : 1 ≤ m := by omega
  obtain ⟨V0, hV0⟩ : ∃ V0, V0 = (w.alloc (.cells #[.int .i64 fr, .int .i64 pg] 23)).alloc (.cells #[.bool false] 4) := ⟨_, rfl⟩
  have P0 : Pl w.heap.size fr pg V0 := by
    have b1 := BlkIs.new (w.alloc (.cells #[.int .i64 fr, .int .i64 pg] 23)) 4 #[.bool false]
    rw [World.size_alloc] at b1
    rw [hV0]
    exact ⟨(BlkIs.new w _ _).alloc _, b1⟩
  have hB0 : Below w.heap.size w V0 := by rw [hV0]; exact ((Below.refl _ w).alloc (Nat.le_refl _) _).alloc (by simp) _
  have hsz0 : w.heap.size + 2 ≤ V0.heap.size := by rw [hV0]; simp
  have HN := new_gives V0 k hk1 hk2
  have HRt : ∀ W, Calls Tryz.prog 20 #[.agg #[.int .i64 fr, .int .i64 pg]] W fun e w' => e = .returned (.bool (planOk fr pg)) ∧ Below W.heap.size W w' := fun W => refRight_gives fr pg W
  refine callsIn_of_wp_marks Tryz.func4 rfl trivial ?_ rfl
  simp only [Tryz.ntmps4, List.size_toArray, List.length_cons, List.length_nil, Nat.reduceAdd, Nat.reduceSub, Array.replicate_succ, Array.replicate_zero, List.push_toArray, List.append_toArray, List.nil_append, List.cons_append]
  have hpar : k % 2 = 0 ∨ k % 2 = 1 := by omega
  gi_wp2_with (refine ⟨trivial, ?_⟩; gi_at_call 9; rw [← hV0]; refine (callsIn_wide.2 HN).mono ?_; rintro e W1 ⟨d, rfl, hpd, hD1, hB1⟩; have P1 := P0.grow hB1; have x0 := P1.c0; have x1 := P1.c1)
  have hBw1 := hB0.trans (hB1.mono hB0.size)
  have hdl := hD1.lt
  clear hV0 HN hB0 hB1 P0
  have hcase : planOk fr pg = false ∨ (planOk fr pg = true ∧ ¬ (k : Int) = 2 + 9 * fr + 8 * pg) ∨ (planOk fr pg = true ∧ (k : Int) = 2 + 9 * fr + 8 * pg) := by
    by_cases h1 : planOk fr pg = true
    · by_cases h2 : (k : Int) = 2 + 9 * fr + 8 * pg
      · exact .inr (.inr ⟨h1, h2⟩)
      · exact .inr (.inl ⟨h1, h2⟩)
    · exact .inl (by simpa using h1)
  rcases hcase with hpl | ⟨hpl, hne⟩ | ⟨hpl, heq⟩
  case' inl =>
    have HO : Calls Tryz.prog 11 #[.pointer (some ⟨d, 0, none⟩), .agg #[.int .i64 fr, .int .i64 pg]] W1 fun e w' => e = .returned (.tuple #[.pointer none, .int .i64 2]) ∧ Below W1.heap.size W1 w' :=
      open_wrong W1 fr pg d k _ [] 0 false hD1 hk1 0 2 (by rw [hpl]; simp [plE]) (by rw [hpl]; simp [plE]) (.inl (by decide))
    simp only [hpl] at HRt
    clear hpl
    rcases hpar with hpar | hpar
    case' inl =>
      have hrem := tmod_two k _ hpar
      clear hpar
      gi_wp2_with (first
        | (refine ⟨trivial, ?_⟩; gi_at_call 11; refine (callsIn_wide.2 HO).mono ?_; rintro e W2 ⟨rfl, hB2⟩; have P2 := P1.grow hB2; have hB02 := hBw1.trans (hB2.mono hBw1.size); have x0 := P2.c0; have x1 := P2.c1)
        | (refine ⟨trivial, ?_⟩; gi_at_call 12; refine (callsIn_wide.2 (num6_gives _ _)).mono ?_; rintro e W' ⟨rfl, rfl⟩)
        | (refine ⟨trivial, ?_⟩; gi_at_call 20; refine (callsIn_wide.2 (HRt _)).mono ?_; rintro e W3 ⟨rfl, hB3⟩; have P3 := P2.grow hB3; have hB03 := hB02.trans (hB3.mono hB02.size); have x0 := P3.c0; have x1 := P3.c1)
        | (refine ⟨trivial, ?_⟩; fail_if_success (refine callsIn_wide.2 ?_)))
      obtain ⟨W4, hW4⟩ : ∃ W4, W4 = W3 := ⟨_, rfl⟩
      have hN : NoLog W4 (.pointer none) := .inl rfl
      have hB4 : Below w.heap.size w W4 := by rw [hW4]; exact hB03
      have P4 : Pl w.heap.size fr pg W4 := by rw [hW4]; exact P3
      rw [← hW4]
      clear hW4
    case' inr =>
      have hrem := tmod_two k _ hpar
      clear hpar
      gi_wp2_with (first
        | (refine ⟨trivial, ?_⟩; gi_at_call 11; refine (callsIn_wide.2 HO).mono ?_; rintro e W2 ⟨rfl, hB2⟩; have P2 := P1.grow hB2; have hB02 := hBw1.trans (hB2.mono hBw1.size); have x0 := P2.c0; have x1 := P2.c1)
        | (refine ⟨trivial, ?_⟩; gi_at_call 12; refine (callsIn_wide.2 (num6_gives _ _)).mono ?_; rintro e W' ⟨rfl, rfl⟩)
        | (refine ⟨trivial, ?_⟩; gi_at_call 20; refine (callsIn_wide.2 (HRt _)).mono ?_; rintro e W3 ⟨rfl, hB3⟩; have P3 := P2.grow hB3; have hB03 := hB02.trans (hB3.mono hB02.size); have x0 := P3.c0; have x1 := P3.c1)
        | (refine ⟨trivial, ?_⟩; fail_if_success (refine callsIn_wide.2 ?_)))
      obtain ⟨W4, hW4⟩ : ∃ W4, W4 = W3.alloc (.cells #[.pointer none, .int .i64 0, .int .i64 0, .int .u64 0, .int .u64 0, .int .i64 0, .slice none 0 0] 57) := ⟨_, rfl⟩
      have hB34 : Below W3.heap.size W3 W4 := by rw [hW4]; exact (Below.refl _ _).alloc (Nat.le_refl _) _
      have hN : NoLog W4 (.pointer (some ⟨W3.heap.size, 0, none⟩)) := .inr ⟨_, rfl, by rw [hW4]; exact BlkIs.new W3 _ _⟩
      have hB4 : Below w.heap.size w W4 := hB03.trans (hB34.mono hB03.size)
      have P4 : Pl w.heap.size fr pg W4 := P3.grow hB34
      rw [← hW4]
      clear hB34 hW4
    all_goals
      clear hB3 P3 hB02 hB03 P2 HO hrem HRt g1 g2 P1 hBw1 hD1 hdl hpd hB2
  case' inr.inl =>
    have HO : Calls Tryz.prog 11 #[.pointer (some ⟨d, 0, none⟩), .agg #[.int .i64 fr, .int .i64 pg]] W1 fun e w' => e = .returned (.tuple #[.pointer none, .int .i64 2]) ∧ Below W1.heap.size W1 w' :=
      open_wrong W1 fr pg d k _ [] 0 false hD1 hk1 (2 + 9 * fr + 8 * pg) 0 (by rw [hpl]; simp [plE]) (by rw [hpl]; simp [plE]) (.inr ⟨rfl, fun e => hne e.symm⟩)
    have hfp := (planOk_iff fr pg).1 hpl
    have HSec : ∀ W, Calls Tryz.prog 10 #[.agg #[.int .i64 fr, .int .i64 pg]] W fun e w' => e = .returned (.int .i64 (2 + 9 * fr + 8 * pg)) ∧ Below W.heap.size W w' := fun W => refSectors_gives fr pg W hfp.1 hfp.2
    generalize 2 + 9 * fr + 8 * pg = u at *
    simp only [hpl] at HRt
    clear hpl hfp
    rcases hpar with hpar | hpar
    case' inl =>
      have hrem := tmod_two k _ hpar
      clear hpar
      gi_wp2_with (first
        | (refine ⟨trivial, ?_⟩; gi_at_call 11; refine (callsIn_wide.2 HO).mono ?_; rintro e W2 ⟨rfl, hB2⟩; have P2 := P1.grow hB2; have hB02 := hBw1.trans (hB2.mono hBw1.size); have x0 := P2.c0; have x1 := P2.c1)
        | (refine ⟨trivial, ?_⟩; gi_at_call 12; refine (callsIn_wide.2 (num6_gives _ _)).mono ?_; rintro e W' ⟨rfl, rfl⟩)
        | (refine ⟨trivial, ?_⟩; gi_at_call 20; refine (callsIn_wide.2 (HRt _)).mono ?_; rintro e W3 ⟨rfl, hB3⟩; have P3 := P2.grow hB3; have hB03 := hB02.trans (hB3.mono hB02.size); have x0 := P3.c0; have x1 := P3.c1)
        | (refine ⟨trivial, ?_⟩; gi_at_call 10; refine (callsIn_wide.2 (HSec _)).mono ?_; rintro e W31 ⟨rfl, hB31⟩; have P31 := P3.grow hB31; have hB031 := hB03.trans (hB31.mono hB03.size))
        | (refine ⟨trivial, ?_⟩; fail_if_success (refine callsIn_wide.2 ?_)))
      obtain ⟨W4, hW4⟩ : ∃ W4, W4 = W31 := ⟨_, rfl⟩
      have hN : NoLog W4 (.pointer none) := .inl rfl
      have hB4 : Below w.heap.size w W4 := by rw [hW4]; exact hB031
      have P4 : Pl w.heap.size fr pg W4 := by rw [hW4]; exact P31
      rw [← hW4]
      clear hW4
    case' inr =>
      have hrem := tmod_two k _ hpar
      clear hpar
      gi_wp2_with (first
        | (refine ⟨trivial, ?_⟩; gi_at_call 11; refine (callsIn_wide.2 HO).mono ?_; rintro e W2 ⟨rfl, hB2⟩; have P2 := P1.grow hB2; have hB02 := hBw1.trans (hB2.mono hBw1.size); have x0 := P2.c0; have x1 := P2.c1)
        | (refine ⟨trivial, ?_⟩; gi_at_call 12; refine (callsIn_wide.2 (num6_gives _ _)).mono ?_; rintro e W' ⟨rfl, rfl⟩)
        | (refine ⟨trivial, ?_⟩; gi_at_call 20; refine (callsIn_wide.2 (HRt _)).mono ?_; rintro e W3 ⟨rfl, hB3⟩; have P3 := P2.grow hB3; have hB03 := hB02.trans (hB3.mono hB02.size); have x0 := P3.c0; have x1 := P3.c1)
        | (refine ⟨trivial, ?_⟩; gi_at_call 10; refine (callsIn_wide.2 (HSec _)).mono ?_; rintro e W31 ⟨rfl, hB31⟩; have P31 := P3.grow hB31; have hB031 := hB03.trans (hB31.mono hB03.size))
        | (refine ⟨trivial, ?_⟩; fail_if_success (refine callsIn_wide.2 ?_)))
      obtain ⟨W4, hW4⟩ : ∃ W4, W4 = W31.alloc (.cells #[.pointer none, .int .i64 0, .int .i64 0, .int .u64 0, .int .u64 0, .int .i64 0, .slice none 0 0] 57) := ⟨_, rfl⟩
      have hB34 : Below W31.heap.size W31 W4 := by rw [hW4]; exact (Below.refl _ _).alloc (Nat.le_refl _) _
      have hN : NoLog W4 (.pointer (some ⟨W31.heap.size, 0, none⟩)) := .inr ⟨_, rfl, by rw [hW4]; exact BlkIs.new W31 _ _⟩
      have hB4 : Below w.heap.size w W4 := hB031.trans (hB34.mono hB031.size)
      have P4 : Pl w.heap.size fr pg W4 := P31.grow hB34
      rw [← hW4]
      clear hB34 hW4
    all_goals
      clear hB3 P3 hB02 hB03 P2 HO hrem HRt g1 g2 P1 hBw1 hD1 hdl hpd hB2 HSec hne hB31 P31 hB031
  case' inr.inr =>
    have HO : Calls Tryz.prog 11 #[.pointer (some ⟨d, 0, none⟩), .agg #[.int .i64 fr, .int .i64 pg]] W1 fun e w' => ∃ l g, e = .returned (.tuple #[.pointer (some ⟨l, 0, none⟩), .int .i64 0]) ∧ W1.heap.size ≤ l ∧ DkIs w' d k g [] 0 false ∧ BlkIs w' l 57 (lgC (some ⟨d, 0, none⟩) fr pg 1 1 0 none 0 0) ∧ W1.grownBy w' (some d) :=
      open_new W1 fr pg d k 0 hD1 hpl heq (by omega) (by decide) (by decide)
    have hds := fun W => diskP_same W ⟨d, 0, none⟩
    have hfp := (planOk_iff fr pg).1 hpl
    have HSec : ∀ W, Calls Tryz.prog 10 #[.agg #[.int .i64 fr, .int .i64 pg]] W fun e w' => e = .returned (.int .i64 (k : Int)) ∧ Below W.heap.size W w' := fun W => by rw [heq]; exact refSectors_gives fr pg W hfp.1 hfp.2
    simp only [hpl] at HRt
    clear hpl hfp heq
    rcases hpar with hpar | hpar
    case' inl =>
      have hrem := tmod_two k _ hpar
      clear hpar
      gi_wp2_with (first
        | (refine ⟨trivial, ?_⟩; gi_at_call 11; refine (callsIn_wide.2 HO).mono ?_; rintro e W2 ⟨l, g, rfl, hl2, hD2, hb2, hg2⟩; have P2 := P1.grown hg2 (fun r e => by injection e with e; omega); have hB02 := hBw1.trans (grown_below hg2 hBw1.size (fun r e => by injection e with e; omega)); have x0 := P2.c0; have x1 := P2.c1)
        | (refine ⟨trivial, ?_⟩; gi_at_call 12; refine (callsIn_wide.2 (num6_gives _ _)).mono ?_; rintro e W' ⟨rfl, rfl⟩)
        | (refine ⟨trivial, ?_⟩; gi_at_call 20; refine (callsIn_wide.2 (HRt _)).mono ?_; rintro e W3 ⟨rfl, hB3⟩; have P3 := P2.grow hB3; have hB03 := hB02.trans (hB3.mono hB02.size); have x0 := P3.c0; have x1 := P3.c1)
        | (refine ⟨trivial, ?_⟩; gi_at_call 10; refine (callsIn_wide.2 (HSec _)).mono ?_; rintro e W31 ⟨rfl, hB31⟩; have P31 := P3.grow hB31; have hB031 := hB03.trans (hB31.mono hB03.size))
        | (refine ⟨trivial, ?_⟩; gi_at_call 21; refine (callsIn_wide.2 (ldisk_gives (hb2.below (hB3.trans (hB31.mono hB3.size)) hb2.lt))).mono ?_; rintro e W' ⟨rfl, rfl⟩)
        | (refine ⟨trivial, ?_⟩; fail_if_success (refine callsIn_wide.2 ?_)))
      obtain ⟨W4, hW4⟩ : ∃ W4, W4 = W31 := ⟨_, rfl⟩
      have hN : NoLog W4 (.pointer none) := .inl rfl
      have hB4 : Below w.heap.size w W4 := by rw [hW4]; exact hB031
      have P4 : Pl w.heap.size fr pg W4 := by rw [hW4]; exact P31
      rw [← hW4]
      clear hW4
    case' inr =>
      have hrem := tmod_two k _ hpar
      clear hpar
      gi_wp2_with (first
        | (refine ⟨trivial, ?_⟩; gi_at_call 11; refine (callsIn_wide.2 HO).mono ?_; rintro e W2 ⟨l, g, rfl, hl2, hD2, hb2, hg2⟩; have P2 := P1.grown hg2 (fun r e => by injection e with e; omega); have hB02 := hBw1.trans (grown_below hg2 hBw1.size (fun r e => by injection e with e; omega)); have x0 := P2.c0; have x1 := P2.c1)
        | (refine ⟨trivial, ?_⟩; gi_at_call 12; refine (callsIn_wide.2 (num6_gives _ _)).mono ?_; rintro e W' ⟨rfl, rfl⟩)
        | (refine ⟨trivial, ?_⟩; gi_at_call 20; refine (callsIn_wide.2 (HRt _)).mono ?_; rintro e W3 ⟨rfl, hB3⟩; have P3 := P2.grow hB3; have hB03 := hB02.trans (hB3.mono hB02.size); have x0 := P3.c0; have x1 := P3.c1)
        | (refine ⟨trivial, ?_⟩; gi_at_call 10; refine (callsIn_wide.2 (HSec _)).mono ?_; rintro e W31 ⟨rfl, hB31⟩; have P31 := P3.grow hB31; have hB031 := hB03.trans (hB31.mono hB03.size))
        | (refine ⟨trivial, ?_⟩; gi_at_call 21; refine (callsIn_wide.2 (ldisk_gives (hb2.below (hB3.trans (hB31.mono hB3.size)) hb2.lt))).mono ?_; rintro e W' ⟨rfl, rfl⟩)
        | (refine ⟨trivial, ?_⟩; fail_if_success (refine callsIn_wide.2 ?_)))
      obtain ⟨W4, hW4⟩ : ∃ W4, W4 = W31.alloc (.cells #[.pointer none, .int .i64 0, .int .i64 0, .int .u64 0, .int .u64 0, .int .i64 0, .slice none 0 0] 57) := ⟨_, rfl⟩
      have hB34 : Below W31.heap.size W31 W4 := by rw [hW4]; exact (Below.refl _ _).alloc (Nat.le_refl _) _
      have hN : NoLog W4 (.pointer (some ⟨W31.heap.size, 0, none⟩)) := .inr ⟨_, rfl, by rw [hW4]; exact BlkIs.new W31 _ _⟩
      have hB4 : Below w.heap.size w W4 := hB031.trans (hB34.mono hB031.size)
      have P4 : Pl w.heap.size fr pg W4 := P31.grow hB34
      rw [← hW4]
      clear hB34 hW4
    all_goals
      clear hB3 P3 hB02 hB03 P2 HO hrem HRt g1 g2 P1 hBw1 hD1 hdl hpd HSec hB31 P31 hB031 hD2 hb2 hg2 hl2
  all_goals
    have HM := lmany_no hN
    have HP := page_of W4 _ 0 (last_no W4 _ hN)
    have x0 := P4.c0
    have x1 := P4.c1
    gi_wp2_with (first
      | (refine ⟨trivial, ?_⟩; gi_at_call 22; refine (callsIn_wide.2 HM).mono ?_; rintro e W' ⟨rfl, rfl⟩)
      | (refine ⟨trivial, ?_⟩; gi_at_call 23; refine (callsIn_wide.2 HP).mono ?_; rintro e W5 ⟨A5, c5, rfl, hB5⟩; have P5 := P4.grow hB5; have hN5 := hN.grow hB5; have x0 := P5.c0; have x1 := P5.c1)
      | (refine ⟨trivial, ?_⟩; gi_at_call 11; refine (callsIn_wide.2 (open_nil _ fr pg)).mono ?_; rintro e W6 ⟨rfl, hB6⟩; have P6 := P5.grow hB6; have hN6 := hN5.grow hB6)
      | (refine ⟨trivial, ?_⟩; gi_at_call 24; refine (callsIn_wide.2 (pages_of _ _ (last_no _ _ hN6))).mono ?_; rintro e W7 ⟨q, rfl, hq7, hm7, hB7⟩; have P7 := P6.grow hB7; have hN7 := hN6.grow hB7))
    have hB57 := hB5.trans ((hB6.trans (hB7.mono hB6.size)).mono hB5.size)
    have hB07 := hB4.trans (hB57.mono hB4.size)
    clear HM HP x0 x1 P4 P5 P6 hN hN5 hN6 hB57 hB5 hB6 hB7 hB4
    refine wpI_stopB (fun a0 a V => ∃ D, a = { a0 with defers := { target := .collected D, args := #[] } :: a0.defers } ∧ V.heap[D]? = some (.deferred (some [])) ∧ W7.heap.size ≤ D ∧ Below W7.heap.size W7 V) ?_ ?_
    · intro Q' hQ
      exact wpIn_rangeFunc_no rfl hm1 (gf := 63) (lb := #[.pointer (some ⟨q, 0, none⟩)]) rfl trivial (enters_of Tryz.func63 (by kernel_rfl) rfl)
        (pages1_seq (m - 1) (by omega) q _ 0 W7 hq7 hm7) (fun _ => rfl) (fun D V hD hB hK => hQ _ _ ⟨D, rfl, hK, hD, hB⟩)
    rintro a V ⟨D, rfl, hK, hD, hBV⟩
    have PV := P7.grow hBV
    have hNV := hN7.grow hBV
    have hBwV := hB07.trans (hBV.mono hB07.size)
    gi_wp2_with (first
      | (refine ⟨trivial, ?_⟩; gi_at_call 14; refine (callsIn_wide.2 (lappend_no hNV none 0 0 0)).mono ?_; rintro e W8 ⟨rfl, hB8⟩; have P8 := PV.grow hB8; have hN8 := hNV.grow hB8)
      | (refine ⟨trivial, ?_⟩; gi_at_call 13; refine (callsIn_wide.2 (lreset_no hN8)).mono ?_; rintro e W' ⟨rfl, rfl⟩)
      | (refine ⟨trivial, ?_⟩; gi_at_call 25; refine (callsIn_wide.2 (lsize_no hN8)).mono ?_; rintro e W' ⟨rfl, rfl⟩)
      | (refine ⟨trivial, ?_⟩; gi_at_call 26; refine (callsIn_wide.2 (lepoch_no hN8)).mono ?_; rintro e W' ⟨rfl, rfl⟩)
      | (refine ⟨trivial, ?_⟩; gi_at_call 21; refine (callsIn_wide.2 (ldisk_no hN8)).mono ?_; rintro e W' ⟨rfl, rfl⟩)
      | (refine ⟨trivial, ?_⟩; gi_at_call 12; refine (callsIn_wide.2 (num6_gives _ _)).mono ?_; rintro e W' ⟨rfl, rfl⟩)
      | (refine ⟨trivial, ?_⟩; gi_at_call 8; refine (callsIn_wide.2 (works6_gives _)).mono ?_; rintro e W9 ⟨rfl, hB9⟩; have P9 := P8.grow hB9; have k9 := P9.b1.boxed; have f9 := P9.b1.free 0))
    have b10 := P9.b1.set 0 (.bool true)
    have hBf : Below w.heap.size w (W9.setCell ⟨w.heap.size + 1, 0, none⟩ (.bool true)) := (hBwV.trans ((hB8.trans (hB9.mono hB8.size)).mono hBwV.size)).setCell (p := ⟨w.heap.size + 1, 0, none⟩) (by simp) _
    have hK8 : W9.heap[D]? = some (.deferred (some [])) := (Below.block (hB8.trans (hB9.mono hB8.size)) D (Array.getElem?_eq_some_iff.1 hK).1).trans hK
    have hDw : w.heap.size + 1 < D := by have := P7.b1.lt; omega
    have hE1 := (Below.heap_setCell W9 ⟨w.heap.size + 1, 0, none⟩ (.bool true) D (by simp; omega)).trans hK8
    clear k9 f9 hK8 hK
    generalize W9.setCell ⟨w.heap.size + 1, 0, none⟩ (.bool true) = Z at *
    refine ⟨by simp, .inl ⟨D, _, rfl, run_takeDeferred hE1, ?_⟩⟩
    have b11 : BlkIs (Z.putObj D (.deferred none)) (w.heap.size + 1) 4 #[.bool true] := (putObj_oth Z D (.deferred none) (g := w.heap.size + 1) (by omega)).trans b10
    exact ⟨.bool true, results_cellQ (p := ⟨w.heap.size + 1, 0, none⟩) 4 rfl rfl (by simp [go_sem]) b11.boxed, rfl, hBf.trans (belowK_b (w := w) (Nat.le_refl _) Z D _ _ (by omega) hE1 rfl rfl)⟩
theorem lawWN_walk (w : World) (fr pg n : Int) :
    Calls Tryz.prog 4 #[.agg #[.int .i64 fr, .int .i64 pg], .int .i64 n] w fun e w' => e = .returned (.bool true) ∧ Below w.heap.size w w' := by
  by_cases h : 1 ≤ n ∧ n ≤ 40000
  · obtain ⟨k, rfl⟩ : ∃ k : Nat, n = k := ⟨n.toNat, by omega⟩
    exact callsIn_wide.1 (lawWN_in 10 (Nat.le_refl _) w fr pg k (by omega) (by omega))
  · exact callsIn_wide.1 (lawWN_out 10 (by decide) w fr pg n (by omega))
end Go.Proofs.YtocnabpplbeafaaGreat
