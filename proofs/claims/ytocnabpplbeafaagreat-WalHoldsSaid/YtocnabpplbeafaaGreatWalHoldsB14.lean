/- Texts that the proof of WalHolds leans on, part 14. -/
import Derived.Test.YtocnabpplbeafaaGreatWalHoldsB13
/- loupelaw06.writes: the pages that an act appends. -/
namespace Go.Proofs.YtocnabpplbeafaaGreat
open Go Go.RowKit Lou

def pwC (v : Int × Option Addr × Nat) : List Value := [.int .i64 v.1, .slice v.2.1 512 v.2.2]
def pwsC (vs : List (Int × Option Addr × Nat)) : List Value := (vs.map pwC).flatten
theorem pwsC_snoc (vs : List (Int × Option Addr × Nat)) (x : Int × Option Addr × Nat) : pwsC (vs ++ [x]) = pwsC vs ++ pwC x := by simp [pwsC]
theorem pwsC_one (vs : List (Int × Option Addr × Nat)) : ∀ v ∈ pwsC vs, v.oneCell' = true := by
  intro v hv
  unfold pwsC at hv
  obtain ⟨l, hl, hvl⟩ := List.mem_flatten.1 hv
  obtain ⟨x, _, rfl⟩ := List.mem_map.1 hl
  simp [pwC] at hvl
  rcases hvl with rfl | rfl <;> rfl
theorem pwsC_get : ∀ (vs : List (Int × Option Addr × Nat)) (k : Nat) (h : k < vs.length) (j : Nat) (v : Value), (pwC vs[k])[j]? = some v → (pwsC vs)[k * 2 + j]? = some v
  | x :: vs, 0, _, j, v, hv => by
    have hj : j < (pwC x).length := (List.getElem?_eq_some_iff.1 hv).1
    have e : pwsC (x :: vs) = pwC x ++ pwsC vs := rfl
    rw [e, Nat.zero_mul, Nat.zero_add, List.getElem?_append_left hj]
    exact hv
  | x :: vs, k + 1, h, j, v, hv => by
    have e : pwsC (x :: vs) = pwC x ++ pwsC vs := rfl
    have hl : (pwC x).length = 2 := rfl
    rw [e, List.getElem?_append_right (by rw [hl]; omega), hl, show (k + 1) * 2 + j - 2 = k * 2 + j by omega]
    exact pwsC_get vs k (by simpa using h) j v hv
/-- A page that an act appends. -/
def pwOf (ps : List Int) (bs : List UInt8) (k : Nat) : Int × List UInt8 := (ps.getD k 0, pgL (bs.getD k 0))
/-- What comes of it. -/
def WrsOut (ps : List Int) (bs : List UInt8) (w : World) (e : Ending) (w' : World) : Prop := ∃ A1 c xs, e = .returned (.slice A1 ps.length c) ∧ (1 ≤ ps.length → ∃ g o, A1 = some ⟨g, o, none⟩ ∧ PwIn w' g o ps.length xs ∧ g < w'.heap.size) ∧
  (∀ k, k < ps.length → (pwOf ps bs k).1 = (xs k).1 ∧ (pwOf ps bs k).2.length = 512 ∧ InB w' w'.heap.size (xs k).2.1 (xs k).2.2 (pwOf ps bs k).2) ∧ Below w.heap.size w w' ∧ (∀ g o, A1 = some ⟨g, o, none⟩ → w.heap.size ≤ g) ∧ ∀ k, k < ps.length → TyB w' (xs k).2.1
theorem elPW : ElT 44 80 2 32 (.agg #[.int .i64 0, .slice none 0 0]) := ⟨Tryz.underlying44, by kernel_rfl, by kernel_rfl, by decide⟩
/-- What lies there behind so many. -/
def PwRel (base : Nat) (ps : List Int) (bs : List UInt8) (i v : Value) (W0 wr : World) : Prop := ∃ k : Nat, k ≤ ps.length ∧ i = .int .i64 (k : Int) ∧ Below W0.heap.size W0 wr ∧ ∃ vk : List (Int × Option Addr × Nat), vk.length = k ∧ wr.ownsRow base 80 2 v k (pwsC vk) ∧
  ∀ j (h : j < vk.length), vk[j].1 = ps.getD j 0 ∧ InB wr wr.heap.size vk[j].2.1 vk[j].2.2 (pgL (bs.getD j 0)) ∧ TyB wr vk[j].2.1
set_option maxRecDepth 100000 in
set_option maxHeartbeats 8000000 in
theorem writes_gives (w : World) (what size : Int) (Ap : Option Addr) (cp : Nat) (ps : List Int) (Ab : Option Addr) (cb : Nat) (bs : List UInt8) (Ak : Option Addr) (nk ck : Nat) (hp : InG w w.heap.size 1 Ap ps.length cp (ps.map (Value.int .i64))) (hb : InB w w.heap.size Ab cb bs) (hl : ps.length ≤ 1000) :
    Calls Tryz.prog 15 #[.agg #[.int .i64 what, .int .i64 size, .slice Ap ps.length cp, .slice Ab bs.length cb, .slice Ak nk ck]] w (WrsOut ps bs w) := by
  obtain ⟨W0, hW0⟩ : ∃ W0, W0 = w.alloc (.cells #[.int .i64 what, .int .i64 size, .slice Ap ps.length cp, .slice Ab bs.length cb, .slice Ak nk ck] 41) := ⟨_, rfl⟩
  have hB0 : Below w.heap.size w W0 := by rw [hW0]; exact (Below.refl _ w).alloc (Nat.le_refl _) _
  have b0 : BlkIs W0 w.heap.size 41 #[.int .i64 what, .int .i64 size, .slice Ap ps.length cp, .slice Ab bs.length cb, .slice Ak nk ck] := by rw [hW0]; exact BlkIs.new w _ _
  go_enter Tryz.func15, Tryz.ntmps15
  go_wp2
  rw [← hW0]
  clear hW0
  go_loopw [4, 3] (fun i v wr => PwRel W0.heap.size ps bs i v W0 wr) (fun i _ _ => ps.length - (intOf i).toNat)
  case atStart => exact ⟨0, by omega, rfl, Below.refl _ _, [], rfl, World.ownsRow_nil _ _ _ _, fun j h => absurd h (Nat.not_lt_zero j)⟩
  case round =>
    obtain ⟨k, hk, rfl, hB, vk, hvl, own, hvk⟩ := hrel
    have br := b0.below hB b0.lt
    have k2 : wr.cell? ⟨w.heap.size, 2, none⟩ = some (.slice Ap ps.length cp) := by rw [br.cell]; rfl
    by_cases hlt : k < ps.length
    · obtain ⟨gp, op, rfl, hgp, hrp⟩ := hp.lies (by omega)
      have hBW := hB0.trans (hB.mono hB0.size)
      have kp : ∀ W, Below W0.heap.size W0 W → W.cell? ⟨gp, op + k, none⟩ = some (.int .i64 (ps.getD k 0)) := fun W hW => by
        refine ((hB0.trans (hW.mono hB0.size)).cell (p := ⟨gp, op + k, none⟩) hgp).trans (hrp k _ ?_)
        rw [List.getElem?_map, List.getElem?_eq_getElem hlt, List.getD_eq_getElem?_getD, List.getElem?_eq_getElem hlt]
        rfl
      have hwk : IntKind.i64.wrap ((k : Int) + 1) = (k : Int) + 1 := wrap_i64_fr _ (by omega) (by omega)
      have k3 : wr.cell? ⟨w.heap.size, 3, none⟩ = some (.slice Ab bs.length cb) := by rw [br.cell]; rfl
      have T2 : ∀ W, Below W0.heap.size W0 W → W.cell? ⟨w.heap.size, 2, none⟩ = some (.slice (some ⟨gp, op, none⟩) ps.length cp) := fun W hW => by rw [(b0.below hW b0.lt).cell]; rfl
      have HPG : ∀ W, Calls Tryz.prog 36 #[.int .u8 ((bs.getD k 0).toNat : Int)] W fun e w' => ∃ A c, e = .returned (.slice A 512 c) ∧ InB w' w'.heap.size A c (pgL (bs.getD k 0)) ∧ TyB w' A ∧ Below W.heap.size W w' := fun W => by
        refine (page6_gives W (bs.getD k 0)).mono ?_
        rintro e w' ⟨v, rfl, own, hBc⟩
        have hty := ownG_ty own
        obtain ⟨A, c, rfl, hin⟩ := own.inB
        exact ⟨A, c, by simp [pgL], hin, fun g o e => by subst e; exact hty g rfl, hBc⟩
      have hS0 : Below W0.heap.size W0 wr.drew := hB.drew
      have hSr : Below wr.heap.size wr wr.drew := (Below.refl _ _).drew
      have HVL := Lib.hid hvl
      have hwl := hB.size
      obtain ⟨Av, cv, rfl, hinv⟩ := ownG_in own (pwsC_one vk)
      clear hvl hp hrp
      by_cases hbk : k < bs.length
      case' pos =>
        obtain ⟨gb, ob, rfl, hgb, hrb⟩ := hb.lies (by omega)
        have kb : wr.cell? ⟨gb, ob + k, none⟩ = some (.int .u8 ((bs.getD k 0).toNat : Int)) := by
          rw [List.getD_eq_getElem?_getD, List.getElem?_eq_getElem hbk]
          exact (hBW.cell (p := ⟨gb, ob + k, none⟩) hgb).trans (hrb k hbk)
        generalize hc : bs.getD k 0 = C at *
        have HC := Lib.hid hc
        clear hrb hc
        go_wp2
        refine RegF.start (fun W => Below W0.heap.size W0 W) 99 (by kernel_rfl) ?_
        refine RegF.take0 0 (.slice Av k cv) rfl (by kernel_rfl) (by kernel_rfl) (by kernel_rfl) rfl (fun _ _ _ h => h) hS0 (RegF.yld rfl (fun W hW => by go_simp)) ?_
        simp only [List.getElem_toArray, List.getElem_cons_zero, Act.put, List.setIfInBounds_toArray, List.set_cons_zero, List.set_cons_succ]
        refine RegF.take0 1 (.pointer (some ⟨w.heap.size, 2, none⟩)) rfl (by kernel_rfl) (by kernel_rfl) (by kernel_rfl) rfl (fun _ _ _ h => h) hS0 (RegF.yld rfl (fun W hW => by go_simp)) ?_
        simp only [List.getElem_toArray, List.getElem_cons_succ, List.getElem_cons_zero, Act.put, List.setIfInBounds_toArray, List.set_cons_zero, List.set_cons_succ]
        refine RegF.take0 2 (.slice (some ⟨gp, op, none⟩) ps.length cp) rfl (by kernel_rfl) (by kernel_rfl) (by kernel_rfl) rfl (fun _ _ _ h => h) hS0 (RegF.yld rfl (fun W hW => by have q := T2 W hW; go_simp)) ?_
        simp only [List.getElem_toArray, List.getElem_cons_succ, List.getElem_cons_zero, Act.put, List.setIfInBounds_toArray, List.set_cons_zero, List.set_cons_succ]
        refine RegF.take0 3 (.int .i64 (k : Int)) rfl (by kernel_rfl) (by kernel_rfl) (by kernel_rfl) rfl (fun _ _ _ h => h) hS0 (RegF.yld rfl (fun W hW => by go_simp)) ?_
        simp only [List.getElem_toArray, List.getElem_cons_succ, List.getElem_cons_zero, Act.put, List.setIfInBounds_toArray, List.set_cons_zero, List.set_cons_succ]
        refine RegF.take0 4 (.pointer (some ⟨gp, op + k, none⟩)) rfl (by kernel_rfl) (by kernel_rfl) (by kernel_rfl) rfl (fun _ _ _ h => h) hS0 (RegF.yld rfl (fun W hW => by go_simp)) ?_
        simp only [List.getElem_toArray, List.getElem_cons_succ, List.getElem_cons_zero, Act.put, List.setIfInBounds_toArray, List.set_cons_zero, List.set_cons_succ]
        refine RegF.take0 5 (.int .i64 (ps.getD k 0)) rfl (by kernel_rfl) (by kernel_rfl) (by kernel_rfl) rfl (fun _ _ _ h => h) hS0 (RegF.yld rfl (fun W hW => by have q := kp W hW; go_simp)) ?_
        simp only [List.getElem_toArray, List.getElem_cons_succ, List.getElem_cons_zero, Act.put, List.setIfInBounds_toArray, List.set_cons_zero, List.set_cons_succ]
        refine RegF.take0 6 (.int .u8 (C.toNat : Int)) rfl (by kernel_rfl) (by kernel_rfl) (by kernel_rfl) rfl (fun _ _ _ h => h) hS0 (RegF.yld rfl (fun W hW => by go_simp)) ?_
        simp only [List.getElem_toArray, List.getElem_cons_succ, List.getElem_cons_zero, Act.put, List.setIfInBounds_toArray, List.set_cons_zero, List.set_cons_succ]
      case' neg =>
        have hc0 : bs.getD k 0 = 0 := by rw [List.getD_eq_getElem?_getD, List.getElem?_eq_none (by omega)]; rfl
        rw [hc0] at HPG
        have HC := Lib.hid hc0
        have h00 : ((0 : UInt8).toNat : Int) = 0 := rfl
        rw [h00] at HPG
        clear hc0
        go_wp2
        refine RegF.start (fun W => Below W0.heap.size W0 W) 99 (by kernel_rfl) ?_
        refine RegF.take0 0 (.slice Av k cv) rfl (by kernel_rfl) (by kernel_rfl) (by kernel_rfl) rfl (fun _ _ _ h => h) hS0 (RegF.yld rfl (fun W hW => by go_simp)) ?_
        simp only [List.getElem_toArray, List.getElem_cons_zero, Act.put, List.setIfInBounds_toArray, List.set_cons_zero, List.set_cons_succ]
        refine RegF.take0 1 (.pointer (some ⟨w.heap.size, 2, none⟩)) rfl (by kernel_rfl) (by kernel_rfl) (by kernel_rfl) rfl (fun _ _ _ h => h) hS0 (RegF.yld rfl (fun W hW => by go_simp)) ?_
        simp only [List.getElem_toArray, List.getElem_cons_succ, List.getElem_cons_zero, Act.put, List.setIfInBounds_toArray, List.set_cons_zero, List.set_cons_succ]
        refine RegF.take0 2 (.slice (some ⟨gp, op, none⟩) ps.length cp) rfl (by kernel_rfl) (by kernel_rfl) (by kernel_rfl) rfl (fun _ _ _ h => h) hS0 (RegF.yld rfl (fun W hW => by have q := T2 W hW; go_simp)) ?_
        simp only [List.getElem_toArray, List.getElem_cons_succ, List.getElem_cons_zero, Act.put, List.setIfInBounds_toArray, List.set_cons_zero, List.set_cons_succ]
        refine RegF.take0 3 (.int .i64 (k : Int)) rfl (by kernel_rfl) (by kernel_rfl) (by kernel_rfl) rfl (fun _ _ _ h => h) hS0 (RegF.yld rfl (fun W hW => by go_simp)) ?_
        simp only [List.getElem_toArray, List.getElem_cons_succ, List.getElem_cons_zero, Act.put, List.setIfInBounds_toArray, List.set_cons_zero, List.set_cons_succ]
        refine RegF.take0 4 (.pointer (some ⟨gp, op + k, none⟩)) rfl (by kernel_rfl) (by kernel_rfl) (by kernel_rfl) rfl (fun _ _ _ h => h) hS0 (RegF.yld rfl (fun W hW => by go_simp)) ?_
        simp only [List.getElem_toArray, List.getElem_cons_succ, List.getElem_cons_zero, Act.put, List.setIfInBounds_toArray, List.set_cons_zero, List.set_cons_succ]
        refine RegF.take0 5 (.int .i64 (ps.getD k 0)) rfl (by kernel_rfl) (by kernel_rfl) (by kernel_rfl) rfl (fun _ _ _ h => h) hS0 (RegF.yld rfl (fun W hW => by have q := kp W hW; go_simp)) ?_
        simp only [List.getElem_toArray, List.getElem_cons_succ, List.getElem_cons_zero, Act.put, List.setIfInBounds_toArray, List.set_cons_zero, List.set_cons_succ]
        refine RegF.take0 6 (.int .u8 0) rfl (by kernel_rfl) (by kernel_rfl) (by kernel_rfl) rfl (fun _ _ _ h => h) hS0 (RegF.yld rfl (fun W hW => by go_simp)) ?_
        simp only [List.getElem_toArray, List.getElem_cons_succ, List.getElem_cons_zero, Act.put, List.setIfInBounds_toArray, List.set_cons_zero, List.set_cons_succ]
      all_goals
        refine RegF.one 7 (by kernel_rfl) ?_
        refine RegF.opC 36 #[.tmp 29] #[5] rfl rfl rfl (enters_of Tryz.func36 (by kernel_rfl) rfl) _ (by simp only [List.map_toArray, List.map_cons, List.map_nil]; rfl) ((HPG _).mono ?_)
        rintro e w7 ⟨A7, c7, rfl, hin7, hty7, hB7⟩
        have hB7w : Below W0.heap.size W0 w7 := hS0.trans (hB7.mono hS0.size)
        have hB7r : Below wr.heap.size wr w7 := hSr.trans (hB7.mono hSr.size)
        refine ⟨_, rfl, fun _ => hB7w, ?_⟩
        simp only [List.getElem_toArray, List.getElem_cons_succ, List.getElem_cons_zero, Act.put, List.setIfInBounds_toArray, List.set_cons_zero, List.set_cons_succ]
        refine RegF.take0 8 (.agg #[.int .i64 (ps.getD k 0), .slice A7 512 c7]) rfl (by kernel_rfl) (by kernel_rfl) (by kernel_rfl) rfl (fun _ _ _ h => h) hB7w (RegF.yld rfl (fun W hW => by go_simp)) ?_
        simp only [List.getElem_toArray, List.getElem_cons_succ, List.getElem_cons_zero, Act.put, List.setIfInBounds_toArray, List.set_cons_zero, List.set_cons_succ]
        have in8 : InG (w7.alloc (.cells (pwC (ps.getD k 0, A7, c7)).toArray 80)) (w7.alloc (.cells (pwC (ps.getD k 0, A7, c7)).toArray 80)).heap.size 2 (some ⟨w7.heap.size, 0, none⟩) 1 1 (pwC (ps.getD k 0, A7, c7)) :=
          ⟨Nat.le_refl _, by omega, (fun e => by cases e), rfl, (by intro v hv; simp [pwC] at hv; rcases hv with rfl | rfl <;> rfl), fun _ => ⟨w7.heap.size, 0, rfl, by simp, fun j v hj => by
            rw [(BlkIs.new w7 80 (pwC (ps.getD k 0, A7, c7)).toArray).cell, Nat.zero_add]
            simpa using hj⟩⟩
        have hBL : Below w7.heap.size w7 (w7.alloc (.cells (pwC (ps.getD k 0, A7, c7)).toArray 80)) := (Below.refl _ _).alloc (Nat.le_refl _) _
        have hB8 : Below W0.heap.size W0 (w7.alloc (.cells (pwC (ps.getD k 0, A7, c7)).toArray 80)) := hB7w.alloc hB7w.size _
        have own8 := ownG_grow (ownG_grow own hB7r) hBL
        refine RegF.one 9 (by kernel_rfl) (RegF.opV (w' := w7.alloc (.cells (pwC (ps.getD k 0, A7, c7)).toArray 80)) (.slice (some ⟨w7.heap.size, 0, none⟩) 1 1) rfl rfl (by unfold pwC; go_simp) ⟨fun _ => hB8, ?_⟩)
        simp only [List.getElem_toArray, List.getElem_cons_succ, List.getElem_cons_zero, Act.put, List.setIfInBounds_toArray, List.set_cons_zero, List.set_cons_succ]
        generalize w7.alloc (.cells (pwC (ps.getD k 0, A7, c7)).toArray 80) = w8 at *
        refine RegF.one 10 (by kernel_rfl) ?_
        refine opApp rfl rfl elPW (.tmp 23) (.tmp 32) rfl W0.heap.size (.slice Av k cv) k (pwsC vk) rfl own8 _ _ 1 1 (pwC (ps.getD k 0, A7, c7)) rfl in8 (by unfold maxLen; omega) (by omega) hB8.size ?_
        intro v9 w9 own9 hg9
        have hB9 : Below W0.heap.size W0 w9 := hB8.trans (grown_below hg9 hB8.size (ownG_ge own8))
        have G9 : GrowBut (fun g => (Value.slice Av k cv).ownBlock = some g) w7 w9 := (GrowBut.below hBL).trans (GrowBut.grown hg9 (fun r e => .inl e))
        have G9r : GrowBut (fun g => (Value.slice Av k cv).ownBlock = some g) wr w9 := (GrowBut.below hB7r).trans G9
        have hMu : ∀ (W : World) g cs, W.ownsRow W0.heap.size 80 2 (.slice Av k cv) k (pwsC vk) → BlkIs W g 5 cs → ¬ (Value.slice Av k cv).ownBlock = some g := fun W g cs ho hb h => by
          obtain ⟨cur, hcur⟩ := ownG_ty ho g h
          exact BlkIs.ne_type hcur hb (by decide) rfl
        have hnew : (ps.getD k 0, A7, c7).1 = ps.getD k 0 ∧ InB w9 w9.heap.size A7 c7 (pgL (bs.getD k 0)) ∧ TyB w9 A7 := by
          have h := keepB G9 hin7 hty7 (fun g cs hb => hMu w7 g cs (ownG_grow own hB7r) hb)
          rw [HC.out]
          exact ⟨rfl, h⟩
        have hold : ∀ j (h : j < vk.length), vk[j].1 = ps.getD j 0 ∧ InB w9 w9.heap.size vk[j].2.1 vk[j].2.2 (pgL (bs.getD j 0)) ∧ TyB w9 vk[j].2.1 := fun j h => by
          obtain ⟨h1, h2, h3⟩ := hvk j h
          exact ⟨h1, keepB G9r h2 h3 (fun g cs hb => hMu wr g cs own hb)⟩
        rw [← pwsC_snoc] at own9
        refine ⟨fun _ => hB9, ?_⟩
        simp only [List.getElem_toArray, List.getElem_cons_succ, List.getElem_cons_zero, Act.put, List.setIfInBounds_toArray, List.set_cons_zero, List.set_cons_succ]
        refine RegF.one 11 (by kernel_rfl) (RegF.opV (w' := w9) v9 rfl rfl (by go_simp) ⟨fun _ => hB9, RegF.done (by kernel_rfl) ?_⟩)
        simp only [List.getElem_toArray, List.getElem_cons_succ, List.getElem_cons_zero, Act.put, List.setIfInBounds_toArray, List.set_cons_zero, List.set_cons_succ]
        obtain ⟨A9, c9, rfl, _⟩ := ownG_in own9 (pwsC_one _)
        have hall : ∀ j (h : j < (vk ++ [(ps.getD k 0, A7, c7)]).length), (vk ++ [(ps.getD k 0, A7, c7)])[j].1 = ps.getD j 0 ∧ InB w9 w9.heap.size (vk ++ [(ps.getD k 0, A7, c7)])[j].2.1 (vk ++ [(ps.getD k 0, A7, c7)])[j].2.2 (pgL (bs.getD j 0)) ∧ TyB w9 (vk ++ [(ps.getD k 0, A7, c7)])[j].2.1 := fun j h => by
          by_cases hj : j < vk.length
          · rw [List.getElem_append_left hj]
            exact hold j hj
          · have hv := HVL.out
            have hj2 : j = vk.length := by rw [List.length_append, List.length_singleton] at h; omega
            subst hj2
            rw [List.getElem_append_right (Nat.le_refl _)]
            simp only [Nat.sub_self, List.getElem_cons_zero]
            rw [hv]
            exact hnew
        clear T2 kp HPG hS0 hSr hMu G9 G9r hold hnew own own8 hin7 hty7 hinv in8
        go_wp2
        exact ⟨⟨k + 1, by omega, by simp, hB9, vk ++ [(ps.getD k 0, A7, c7)], by rw [List.length_append, HVL.out]; rfl, own9, hall⟩, by simp [intOf]; omega⟩
    · have hkn : k = ps.length := by omega
      have HVL := Lib.hid hvl
      have HKN := Lib.hid hkn
      obtain ⟨Av, cv, rfl, hin⟩ := ownG_in own (pwsC_one vk)
      clear hvl hkn hp hb br
      go_wp2
      go_ret
      have hkn := HKN.out
      subst hkn
      have hvl := HVL.out
      have hx : ∀ j (h : j < ps.length), vk.getD j (0, none, 0) = vk[j]'(by omega) := fun j h => by rw [List.getD_eq_getElem?_getD, List.getElem?_eq_getElem (by omega)]; rfl
      refine ⟨Av, cv, fun j => vk.getD j (0, none, 0), rfl, fun h1 => ?_, fun j hj => ?_, hB0.trans (hB.mono hB0.size), fun g o e => Nat.le_trans hB0.size (ownG_ge own g (by rw [e]; rfl)), fun j hj => ?_⟩
      · obtain ⟨g, o, e, hg, hr⟩ := hin.lies (by omega)
        refine ⟨g, o, e, fun j hj q v hq => ?_, hg⟩
        have hq2 : (pwC (vk[j]'(by omega)))[q]? = some v := by rw [← hx j hj]; exact hq
        have := hr (j * 2 + q) v (pwsC_get vk j (by omega) q v hq2)
        rw [show o + j * 2 + q = o + (j * 2 + q) by omega]
        exact this
      · obtain ⟨h1, h2, _⟩ := hvk j (by omega)
        simp only [hx j hj]
        exact ⟨h1.symm, by simp [pwOf, pgL], h2⟩
      · obtain ⟨_, _, h3⟩ := hvk j (by omega)
        simp only [hx j hj]
        exact h3
end Go.Proofs.YtocnabpplbeafaaGreat
/- loupelaw06: rows of acts; small. -/
namespace Go.Proofs.YtocnabpplbeafaaGreat
open Go Go.RowKit Lou

/-- An act, and where its slices lie. -/
structure AcV where
  what : Int
  size : Int
  ps : List Int
  P : Option Addr
  pc : Nat
  bs : List UInt8
  B : Option Addr
  bc : Nat
  ks : List Bool
  K : Option Addr
  kc : Nat
def acC (x : AcV) : List Value := [.int .i64 x.what, .int .i64 x.size, .slice x.P x.ps.length x.pc, .slice x.B x.bs.length x.bc, .slice x.K x.ks.length x.kc]
def acsV (xs : List AcV) : List Value := (xs.map acC).flatten
theorem acsV_elem : ∀ (xs : List AcV) (j : Nat) (h : j < xs.length), ((acsV xs).drop (j * 5)).take 5 = acC xs[j]
  | x :: xs, 0, _ => by
    have e : acsV (x :: xs) = acC x ++ acsV xs := rfl
    rw [e]
    rfl
  | x :: xs, j + 1, h => by
    have e : acsV (x :: xs) = acC x ++ acsV xs := rfl
    rw [e, show (j + 1) * 5 = 5 + j * 5 from by omega, ← List.drop_drop]
    have e2 : (acC x ++ acsV xs).drop 5 = acsV xs := rfl
    rw [e2, acsV_elem xs j (by simpa using h)]
    rfl
theorem acC_one (x : AcV) : ∀ v ∈ acC x, v.oneCell' = true := by
  intro v hv
  simp [acC] at hv
  rcases hv with rfl | rfl | rfl | rfl | rfl <;> rfl
theorem rowAc : RowTy Tryz.prog 41 5 := ⟨⟨_, Tryz.underlying41, rfl⟩, by kernel_rfl⟩
/-- What an act's slices hold. -/
structure AcIs (w : World) (B : Nat) (x : AcV) : Prop where
  pages : InG w B 1 x.P x.ps.length x.pc (x.ps.map (Value.int .i64))
  bytes : InB w B x.B x.bc x.bs
  keep : InG w B 1 x.K x.ks.length x.kc (x.ks.map Value.bool)
/-- Small enough. -/
def SmallP (fr pg : Int) (xs : List AcV) (most : Nat) : Prop := (∀ x ∈ xs, x.ps.length ≤ 6 ∧ x.ks.length ≤ 80) ∧ planOk fr pg = true ∧ fr ≤ 6 ∧ pg ≤ 4 ∧ xs.length ≤ most
def SmallR (w : World) (P : Prop) (e : Ending) (w' : World) : Prop := ∃ r : Bool, e = .returned (.bool r) ∧ Below w.heap.size w w' ∧ (r = true ↔ P)
theorem SmallR.no {w w' : World} {P : Prop} {e : Ending} (h : e = .returned (.bool false)) (hB : Below w.heap.size w w') (hP : ¬ P) : SmallR w P e w' := ⟨false, h, hB, (fun e => by cases e), fun h => absurd h hP⟩
theorem SmallR.yes {w w' : World} {P : Prop} {e : Ending} (h : e = .returned (.bool true)) (hB : Below w.heap.size w w') (hP : P) : SmallR w P e w' := ⟨true, h, hB, fun _ => hP, fun _ => rfl⟩
set_option maxRecDepth 100000 in
set_option maxHeartbeats 4000000 in
theorem small_gives (w : World) (fr pg : Int) (A : Option Addr) (c : Nat) (xs : List AcV) (h : InG w w.heap.size 5 A xs.length c (acsV xs)) (hl : xs.length ≤ 9223372036854775807) (most : Nat) :
    Calls Tryz.prog 7 #[.agg #[.int .i64 fr, .int .i64 pg], .slice A xs.length c, .int .i64 (most : Int)] w (SmallR w (SmallP fr pg xs most)) := by
  have HF : Hid (SmallP fr pg xs most ↔ ((∀ x ∈ xs, x.ps.length ≤ 6 ∧ x.ks.length ≤ 80) ∧ planOk fr pg = true ∧ fr ≤ 6 ∧ pg ≤ 4 ∧ xs.length ≤ most)) := Lib.hid Iff.rfl
  generalize SmallP fr pg xs most = PF at *
  obtain ⟨W0, hW0⟩ : ∃ W0, W0 = w.alloc (.cells #[.int .i64 fr, .int .i64 pg] 23) := ⟨_, rfl⟩
  have hB0 : Below w.heap.size w W0 := by rw [hW0]; exact (Below.refl _ w).alloc (Nat.le_refl _) _
  have b0 : BlkIs W0 w.heap.size 23 #[.int .i64 fr, .int .i64 pg] := by rw [hW0]; exact BlkIs.new w _ _
  have h0 := h.below hB0
  go_enter Tryz.func7, Tryz.ntmps7
  go_wp2
  rw [← hW0]
  clear hW0
  go_loopw [7] (fun i wr => ∃ k : Nat, k ≤ xs.length ∧ i = .int .i64 (k : Int) ∧ Hid (∀ j, (hj : j < xs.length) → j < k → xs[j].ps.length ≤ 6 ∧ xs[j].ks.length ≤ 80) ∧ wr = W0) (fun i _ => xs.length - (intOf i).toNat)
  case atStart => exact ⟨0, by omega, rfl, Lib.hid (fun j _ h => by omega), rfl⟩
  case round =>
    obtain ⟨k, hk, rfl, HA, rfl⟩ := hrel
    by_cases hlt : k < xs.length
    · obtain ⟨g, o, rfl, hg, _⟩ := h0.lies (by omega)
      have hr := h0.elem k hlt
      rw [acsV_elem xs k hlt] at hr
      have d2 : wr.cell? ⟨g, o + k * 5 + 2, none⟩ = some (.slice xs[k].P xs[k].ps.length xs[k].pc) := hr 2 _ rfl
      have d4 : wr.cell? ⟨g, o + k * 5 + 4, none⟩ = some (.slice xs[k].K xs[k].ks.length xs[k].kc) := hr 4 _ rfl
      have hwk : IntKind.i64.wrap ((k : Int) + 1) = (k : Int) + 1 := wrap_i64_fr _ (by omega) (by omega)
      by_cases h6 : xs[k].ps.length ≤ 6
      · have h6' : ¬ (6 : Int) < (xs[k].ps.length : Int) := by omega
        by_cases h80 : xs[k].ks.length ≤ 80
        · have HN : Hid (∀ j, (hj : j < xs.length) → j < k + 1 → xs[j].ps.length ≤ 6 ∧ xs[j].ks.length ≤ 80) := Lib.hid (fun j hj h1 => by
            by_cases e : j = k
            · subst e; exact ⟨h6, h80⟩
            · exact HA.out j hj (by omega))
          have h80' : ¬ (80 : Int) < (xs[k].ks.length : Int) := by omega
          clear hr
          generalize xs[k] = x at *
          go_wp2
          exact ⟨⟨k + 1, by omega, by simp, HN, by first | rfl | trivial⟩, by simp [intOf]; omega⟩
        · have HN : Hid (¬ PF) := Lib.hid (fun hP => h80 ((HF.out.1 hP).1 _ (List.getElem_mem hlt)).2)
          have h80' : (80 : Int) < (xs[k].ks.length : Int) := by omega
          clear hr
          generalize xs[k] = x at *
          go_wp2
          go_ret
          exact SmallR.no rfl hB0 HN.out
      · have HN : Hid (¬ PF) := Lib.hid (fun hP => h6 ((HF.out.1 hP).1 _ (List.getElem_mem hlt)).1)
        have h6' : (6 : Int) < (xs[k].ps.length : Int) := by omega
        clear hr
        generalize xs[k] = x at *
        go_wp2
        go_ret
        exact SmallR.no rfl hB0 HN.out
    · obtain rfl : k = xs.length := by omega
      have HAll : Hid (∀ x ∈ xs, x.ps.length ≤ 6 ∧ x.ks.length ≤ 80) := Lib.hid (fun x hx => by
        obtain ⟨j, hj, rfl⟩ := List.getElem_of_mem hx
        exact HA.out j hj hj)
      have hR := refRight_gives (fr := fr) (pg := pg) wr
      have hP : ∀ b, planOk fr pg = b → Hid (PF ↔ (b = true ∧ fr ≤ 6 ∧ pg ≤ 4 ∧ xs.length ≤ most)) := fun b hb => Lib.hid (HF.out.trans ⟨fun h => ⟨hb ▸ h.2.1, h.2.2⟩, fun h => ⟨HAll.out, hb ▸ h.1, h.2⟩⟩)
      have hE : ∀ {w2 : World}, Below wr.heap.size wr w2 → Below w.heap.size w w2 := fun {w2} hB => hB0.trans (hB.mono hB0.size)
      generalize planOk fr pg = b at *
      have HP := hP b rfl
      clear hP HF HA h h0
      cases b
      · go_wp2_with (first
          | (refine wp_loadW rfl 23 (.tmp 3) rfl w.heap.size rfl rowPlan b0 rfl ?_)
          | (go_at_call 20; refine hR.mono ?_; rintro e w2 ⟨rfl, hB2⟩; have b2 := b0.below hB2 b0.lt; have q0 : w2.cell? ⟨w.heap.size, 0, none⟩ = some (.int .i64 fr) := (by rw [b2.cell]; rfl); have q1 : w2.cell? ⟨w.heap.size, 1, none⟩ = some (.int .i64 pg) := (by rw [b2.cell]; rfl)))
        go_ret
        exact SmallR.no rfl (hE hB2) (fun h => absurd (HP.out.1 h).1 (by decide))
      · by_cases g1 : fr ≤ 6
        · by_cases g2 : pg ≤ 4
          · by_cases g3 : xs.length ≤ most
            · have g3' : (xs.length : Int) ≤ (most : Int) := by omega
              go_wp2_with (first
                | (refine wp_loadW rfl 23 (.tmp 3) rfl w.heap.size rfl rowPlan b0 rfl ?_)
                | (go_at_call 20; refine hR.mono ?_; rintro e w2 ⟨rfl, hB2⟩; have b2 := b0.below hB2 b0.lt; have q0 : w2.cell? ⟨w.heap.size, 0, none⟩ = some (.int .i64 fr) := (by rw [b2.cell]; rfl); have q1 : w2.cell? ⟨w.heap.size, 1, none⟩ = some (.int .i64 pg) := (by rw [b2.cell]; rfl)))
              go_ret
              exact SmallR.yes (by simp [g3]) (hE hB2) (HP.out.2 (by first | exact ⟨rfl, g1, g2, g3⟩ | exact ⟨trivial, g1, g2, g3⟩ | exact ⟨g1, g2, g3⟩))
            · have g3' : ¬ (xs.length : Int) ≤ (most : Int) := by omega
              go_wp2_with (first
                | (refine wp_loadW rfl 23 (.tmp 3) rfl w.heap.size rfl rowPlan b0 rfl ?_)
                | (go_at_call 20; refine hR.mono ?_; rintro e w2 ⟨rfl, hB2⟩; have b2 := b0.below hB2 b0.lt; have q0 : w2.cell? ⟨w.heap.size, 0, none⟩ = some (.int .i64 fr) := (by rw [b2.cell]; rfl); have q1 : w2.cell? ⟨w.heap.size, 1, none⟩ = some (.int .i64 pg) := (by rw [b2.cell]; rfl)))
              go_ret
              exact SmallR.no (by simp [g3]) (hE hB2) (fun h => absurd (HP.out.1 h).2.2.2 g3)
          · go_wp2_with (first
              | (refine wp_loadW rfl 23 (.tmp 3) rfl w.heap.size rfl rowPlan b0 rfl ?_)
              | (go_at_call 20; refine hR.mono ?_; rintro e w2 ⟨rfl, hB2⟩; have b2 := b0.below hB2 b0.lt; have q0 : w2.cell? ⟨w.heap.size, 0, none⟩ = some (.int .i64 fr) := (by rw [b2.cell]; rfl); have q1 : w2.cell? ⟨w.heap.size, 1, none⟩ = some (.int .i64 pg) := (by rw [b2.cell]; rfl)))
            go_ret
            exact SmallR.no rfl (hE hB2) (fun h => absurd (HP.out.1 h).2.2.1 (by omega))
        · go_wp2_with (first
            | (refine wp_loadW rfl 23 (.tmp 3) rfl w.heap.size rfl rowPlan b0 rfl ?_)
            | (go_at_call 20; refine hR.mono ?_; rintro e w2 ⟨rfl, hB2⟩; have b2 := b0.below hB2 b0.lt; have q0 : w2.cell? ⟨w.heap.size, 0, none⟩ = some (.int .i64 fr) := (by rw [b2.cell]; rfl); have q1 : w2.cell? ⟨w.heap.size, 1, none⟩ = some (.int .i64 pg) := (by rw [b2.cell]; rfl)))
          go_ret
          exact SmallR.no rfl (hE hB2) (fun h => absurd (HP.out.1 h).2.1 (by omega))
end Go.Proofs.YtocnabpplbeafaaGreat
/- wal: the head of a disk. -/
namespace Go.Proofs.YtocnabpplbeafaaGreat
open Go Go.RowKit Lou

/-- A head, in plain words: serial, epoch, size, count. -/
structure HdP where
  s : Nat
  e : Nat
  z : Int
  c : Int
def HdP.zero : HdP := ⟨0, 0, 0, 0⟩
def HdP.l (h : HdP) : List Value := [.int .u64 (h.s : Int), .int .u64 (h.e : Int), .int .i64 h.z, .int .i64 h.c]
theorem HdP.one (h : HdP) : ∀ v ∈ h.l.toArray.toList, v.oneCell' = true := by
  intro v hv
  simp [HdP.l] at hv
  rcases hv with rfl | rfl | rfl | rfl <;> rfl
def cmpI (x y : Nat) : Int := if x < y then -1 else if y < x then 1 else 0
theorem compareG_gives (w : World) (x y : Nat) : Calls Tryz.prog 77 #[.int .u64 (x : Int), .int .u64 (y : Int)] w fun e w' => e = .returned (.int .i64 (cmpI x y)) ∧ w = w' := by
  rcases Nat.lt_trichotomy x y with h | h | h
  · have h0 : (x : Int) < (y : Int) := by omega
    have hc : cmpI x y = -1 := by unfold cmpI; rw [if_pos h]
    rw [hc]
    clear h
    go_enter Tryz.func77, Tryz.ntmps77
    go_wp2_with (go_at_call 110; refine (isNaN64_gives w _).mono ?_; rintro e w' ⟨rfl, rfl⟩)
    go_ret
    exact ⟨rfl, rfl⟩
  · subst h
    have hc : cmpI x x = 0 := by unfold cmpI; rw [if_neg (Nat.lt_irrefl x), if_neg (Nat.lt_irrefl x)]
    rw [hc]
    exact compare64_gives w x
  · have h0 : ¬ (x : Int) < (y : Int) := by omega
    have h1 : (y : Int) < (x : Int) := by omega
    have hc : cmpI x y = 1 := by unfold cmpI; rw [if_neg (by omega), if_pos h]
    rw [hc]
    clear h
    go_enter Tryz.func77, Tryz.ntmps77
    go_wp2_with (go_at_call 110; refine (isNaN64_gives w _).mono ?_; rintro e w' ⟨rfl, rfl⟩)
    go_ret
    exact ⟨rfl, rfl⟩
theorem head1G_gives (w : World) (a b : HdP) : Calls Tryz.prog 76 #[.agg a.l.toArray, .agg b.l.toArray] w fun e w' => e = .returned (.int .i64 (cmpI a.s b.s)) ∧ Below w.heap.size w w' := by
  obtain ⟨x1, x2, x3, x4⟩ := a
  obtain ⟨y1, y2, y3, y4⟩ := b
  simp only [HdP.l]
  have hB : Below w.heap.size w ((w.alloc (.cells #[.int .u64 (x1 : Int), .int .u64 (x2 : Int), .int .i64 x3, .int .i64 x4] 89)).alloc (.cells #[.int .u64 (y1 : Int), .int .u64 (y2 : Int), .int .i64 y3, .int .i64 y4] 89)) := ((Below.refl _ w).alloc (Nat.le_refl _) _).alloc (by simp) _
  go_enter Tryz.func76, Tryz.ntmps76
  go_wp2_with (go_at_call 77; refine (compareG_gives _ x1 y1).mono ?_; rintro e w' ⟨rfl, rfl⟩)
  go_ret
  exact ⟨rfl, hB⟩
set_option maxRecDepth 100000 in
set_option maxHeartbeats 8000000 in
theorem maxG_gives (w : World) (q : Nat) (T : TypeId) (a b : HdP) (hq : BlkIs w q T (a.l ++ b.l).toArray) : Calls Tryz.prog 78 #[.slice (some ⟨q, 0, none⟩) 2 2, .func (.func 76) #[] #[]] w fun e w' => e = .returned (.agg (if a.s < b.s then b else a).l.toArray) ∧ Below w.heap.size w w' := by
  have hql := hq.lt
  obtain ⟨A, hA⟩ : ∃ A, A = a.l := ⟨_, rfl⟩
  obtain ⟨B, hBB⟩ : ∃ B, B = b.l := ⟨_, rfl⟩
  have hAl : A.length = 4 := by rw [hA]; rfl
  have hBl : B.length = 4 := by rw [hBB]; rfl
  have hA1 : ∀ v ∈ A.toArray.toList, v.oneCell' = true := by rw [hA]; exact a.one
  have hB1 : ∀ v ∈ B.toArray.toList, v.oneCell' = true := by rw [hBB]; exact b.one
  have HC := fun W => head1G_gives W b a
  rw [← hA, ← hBB] at HC
  rw [← hA, ← hBB] at hq
  have hX : (.agg (if a.s < b.s then b else a).l.toArray : Value) = .agg (if a.s < b.s then B else A).toArray := by
    rw [hA, hBB]
    split <;> rfl
  rw [hX]
  have hcm : (decide (0 < cmpI b.s a.s)) = decide (a.s < b.s) := by
    unfold cmpI
    by_cases h : a.s < b.s
    · rw [if_neg (by omega), if_pos h]; simp [h]
    · by_cases h2 : b.s < a.s
      · rw [if_pos h2]; simp [h]
      · rw [if_neg h2, if_neg h]; simp [h]
  generalize cmpI b.s a.s = cm at HC hcm
  have hr : w.rangeAt q 0 (A ++ B) := fun j v hj => by
    rw [hq.cell, Nat.zero_add]
    simpa using hj
  have hr4 : w.rangeAt q 4 B := fun j v hj => by
    have := hr (4 + j) v (by rw [List.getElem?_append_right (by omega), show 4 + j - A.length = j by omega]; exact hj)
    simpa using this
  have hr0 : w.rangeAt q 0 A := fun j v hj => hr j v (by rw [List.getElem?_append_left (List.getElem?_eq_some_iff.1 hj).1]; exact hj)
  have hBa : Below w.heap.size w (w.alloc (.cells #[.int .u64 0, .int .u64 0, .int .i64 0, .int .i64 0] 89)) := (Below.refl _ w).alloc (Nat.le_refl _) _
  have hr0a : (w.alloc (.cells #[.int .u64 0, .int .u64 0, .int .i64 0, .int .i64 0] 89)).rangeAt q 0 A := fun j v hj => (hBa.cell (p := ⟨q, 0 + j, none⟩) hql).trans (hr0 j v hj)
  have b1 := BlkIs.new (w.alloc (.cells #[.int .u64 0, .int .u64 0, .int .i64 0, .int .i64 0] 89)) 89 #[.int .u64 0, .int .u64 0, .int .i64 0, .int .i64 0]
  have b0 := (BlkIs.new w 89 #[.int .u64 0, .int .u64 0, .int .i64 0, .int .i64 0]).alloc (.cells #[.int .u64 0, .int .u64 0, .int .i64 0, .int .i64 0] 89)
  rw [World.size_alloc] at b1
  have hBb : Below w.heap.size w ((w.alloc (.cells #[.int .u64 0, .int .u64 0, .int .i64 0, .int .i64 0] 89)).alloc (.cells #[.int .u64 0, .int .u64 0, .int .i64 0, .int .i64 0] 89)) := hBa.alloc (by simp) _
  have HX := Lib.hid (rfl : (if a.s < b.s then B else A) = if a.s < b.s then B else A)
  obtain ⟨R, hR⟩ : ∃ R, R = if a.s < b.s then B else A := ⟨_, rfl⟩
  rw [← hR]
  have HR := Lib.hid hR
  have HCM := Lib.hid hcm
  have hAs : A.toArray.size = 4 := by simpa using hAl
  have hBs4 : B.toArray.size = 4 := by simpa using hBl
  clear hX hcm hA hBB hR HX
  go_enter Tryz.func78, Tryz.ntmps78
  go_wp2_with (first
    | (refine wp_exec rfl (x_loadM rowHead hr0a hAl rfl rfl) ?_)
    | (refine wp_storeW rfl 89 (.tmp 5) (.tmp 13) rfl (w.heap.size + 1) rfl rfl rowHead b1 rfl hAs hA1 ?_))
  have bS := b1.setRow A.toArray
  have bS0 := b0.setRow_ne (k := w.heap.size + 1) (by omega) A.toArray
  have hBs : Below w.heap.size w (((w.alloc (.cells #[.int .u64 0, .int .u64 0, .int .i64 0, .int .i64 0] 89)).alloc (.cells #[.int .u64 0, .int .u64 0, .int .i64 0, .int .i64 0] 89)).setRow (w.heap.size + 1) A.toArray) := below_setRow hBb (by omega) _
  generalize ((w.alloc (.cells #[.int .u64 0, .int .u64 0, .int .i64 0, .int .i64 0] 89)).alloc (.cells #[.int .u64 0, .int .u64 0, .int .i64 0, .int .i64 0] 89)).setRow (w.heap.size + 1) A.toArray = W1 at *
  clear hr0a b1 b0 hBa hBb hr0 hr hq
  go_loopw [6] (fun i wr => ((i = .int .i64 1 ∧ BlkIs wr (w.heap.size + 1) 89 A.toArray) ∨ (i = .int .i64 2 ∧ BlkIs wr (w.heap.size + 1) 89 R.toArray)) ∧ BlkIs wr w.heap.size 89 #[.int .u64 0, .int .u64 0, .int .i64 0, .int .i64 0] ∧ Below w.heap.size w wr) (fun i _ => 2 - (intOf i).toNat)
  case atStart => exact ⟨.inl ⟨rfl, bS⟩, bS0, hBs⟩
  case round =>
    obtain ⟨hi, c0, hB⟩ := hrel
    rcases hi with ⟨rfl, c1⟩ | ⟨rfl, c1⟩
    · have hr4' : ∀ W, Below wr.heap.size wr W → W.rangeAt q 4 B := fun W hW j v hj => ((hB.trans (hW.mono hB.size)).cell (p := ⟨q, 4 + j, none⟩) hql).trans (hr4 j v hj)
      have c1r : ∀ W, Below wr.heap.size wr W → W.rangeAt (w.heap.size + 1) 0 A := fun W hW j v hj => by
        rw [(c1.below hW c1.lt).cell, Nat.zero_add]
        simpa using hj
      go_wp2_with fail
      have hS0 : Below wr.heap.size wr wr.drew := (Below.refl _ _).drew
      refine RegF.start (fun W : World => Below wr.heap.size wr W) 99 (by kernel_rfl) ?_
      refine RegF.take0 0 (.func (.func 76) #[] #[]) rfl (by kernel_rfl) (by kernel_rfl) (by kernel_rfl) rfl (fun _ _ _ h => h) hS0 (RegF.yld rfl (fun W hW => by go_simp)) ?_
      simp only [List.getElem_toArray, List.getElem_cons_zero, Act.put, List.setIfInBounds_toArray, List.set_cons_zero, List.set_cons_succ]
      refine RegF.take0 1 (.slice (some ⟨q, 0, none⟩) 2 2) rfl (by kernel_rfl) (by kernel_rfl) (by kernel_rfl) rfl (fun _ _ _ h => h) hS0 (RegF.yld rfl (fun W hW => by go_simp)) ?_
      simp only [List.getElem_toArray, List.getElem_cons_succ, List.getElem_cons_zero, Act.put, List.setIfInBounds_toArray, List.set_cons_zero, List.set_cons_succ]
      refine RegF.take0 2 (.int .i64 1) rfl (by kernel_rfl) (by kernel_rfl) (by kernel_rfl) rfl (fun _ _ _ h => h) hS0 (RegF.yld rfl (fun W hW => by go_simp)) ?_
      simp only [List.getElem_toArray, List.getElem_cons_succ, List.getElem_cons_zero, Act.put, List.setIfInBounds_toArray, List.set_cons_zero, List.set_cons_succ]
      refine RegF.take0 3 (.pointer (some ⟨q, 4, none⟩)) rfl (by kernel_rfl) (by kernel_rfl) (by kernel_rfl) rfl (fun _ _ _ h => h) hS0 (RegF.yld rfl (fun W hW => by simp [execOp, go_sem, Act.eval])) ?_
      simp only [List.getElem_toArray, List.getElem_cons_succ, List.getElem_cons_zero, Act.put, List.setIfInBounds_toArray, List.set_cons_zero, List.set_cons_succ]
      refine RegF.take0 4 (.agg B.toArray) rfl (by kernel_rfl) (by kernel_rfl) (by kernel_rfl) rfl (fun _ _ _ h => h) hS0 (RegF.yld rfl (fun W hW => by exact x_loadM rowHead (hr4' W hW) hBl rfl rfl)) ?_
      simp only [List.getElem_toArray, List.getElem_cons_succ, List.getElem_cons_zero, Act.put, List.setIfInBounds_toArray, List.set_cons_zero, List.set_cons_succ]
      refine RegF.take0 5 (.agg A.toArray) rfl (by kernel_rfl) (by kernel_rfl) (by kernel_rfl) rfl (fun _ _ _ h => h) hS0 (RegF.yld rfl (fun W hW => by exact x_loadM rowHead (c1r W hW) hAl rfl rfl)) ?_
      simp only [List.getElem_toArray, List.getElem_cons_succ, List.getElem_cons_zero, Act.put, List.setIfInBounds_toArray, List.set_cons_zero, List.set_cons_succ]
      refine RegF.one 6 (by kernel_rfl) ?_
      refine RegF.opCT 76 (.tmp 20) #[.tmp 24, .tmp 25] #[89, 89] rfl rfl rfl rfl (enters_of Tryz.func76 (by kernel_rfl) rfl) #[.agg B.toArray, .agg A.toArray] (by simp only [List.map_toArray, List.map_cons, List.map_nil]; rfl) ((HC wr.drew).mono ?_)
      rintro e w2 ⟨rfl, hB2⟩
      have hB02 : Below wr.heap.size wr w2 := hS0.trans (hB2.mono (Nat.le_refl _))
      refine ⟨_, rfl, fun _ => hB02, ?_⟩
      simp only [List.getElem_toArray, List.getElem_cons_succ, List.getElem_cons_zero, Act.put, List.setIfInBounds_toArray, List.set_cons_zero, List.set_cons_succ]
      refine RegF.one 7 (by kernel_rfl) (RegF.opV (w' := w2) (.bool (decide (0 < cm))) rfl rfl (by go_simp) ⟨fun _ => hB02, RegF.done (by kernel_rfl) ?_⟩)
      simp only [List.getElem_toArray, List.getElem_cons_succ, List.getElem_cons_zero, Act.put, List.setIfInBounds_toArray, List.set_cons_zero, List.set_cons_succ]
      have hr42 := hr4' w2 hB02
      have d0 := c0.below hB02 c0.lt
      have d1 := c1.below hB02 c1.lt
      have hBf := hB.trans (hB02.mono hB.size)
      have hcm := HCM.out
      have hR := HR.out
      clear hr4 hr4' c1r HC
      by_cases hlt : a.s < b.s
      · rw [if_pos hlt] at hR
        subst hR
        have h1 : decide (0 < cm) = true := by rw [hcm]; exact decide_eq_true hlt
        have h2 : 0 < cm := of_decide_eq_true h1
        clear h1 hcm hlt HR HCM
        go_wp2_with (first
          | (refine wp_exec rfl (x_loadM rowHead hr42 hBl rfl rfl) ?_)
          | (refine wp_storeW rfl 89 (.tmp 5) (.tmp 31) rfl (w.heap.size + 1) rfl rfl rowHead d1 hAs (by rw [hBs4, hAs]) hB1 ?_))
        go_roundw
        case rel => exact ⟨.inr ⟨rfl, d1.setRow _⟩, d0.setRow_ne (k := w.heap.size + 1) (by omega) _, below_setRow hBf (by omega) _⟩
        case measure => simp [intOf]
      · rw [if_neg hlt] at hR
        subst hR
        have h1 : decide (0 < cm) = false := by rw [hcm]; exact decide_eq_false hlt
        have h2 : ¬ 0 < cm := of_decide_eq_false h1
        clear h1 hcm hlt HR HCM
        go_wp2
        go_roundw
        case rel => exact ⟨.inr ⟨rfl, d1⟩, d0, hBf⟩
        case measure => simp [intOf]
    · have hRl : R.toArray.size = 4 := by rw [HR.out]; split; exact hBs4; exact hAs
      have hR1 : ∀ v ∈ R.toArray.toList, v.oneCell' = true := by rw [HR.out]; split; exact hB1; exact hA1
      clear hr4 HC
      go_wp2_with (first
        | (refine wp_loadW rfl 89 (.tmp 5) rfl (w.heap.size + 1) rfl rowHead c1 hRl ?_)
        | (refine wp_storeW rfl 89 (.tmp 4) (.tmp 32) rfl w.heap.size rfl rfl rowHead c0 rfl hRl hR1 ?_))
      refine bodyPost_ret_by (results_cellW 4 rfl rfl rowHead (c0.setRow _) hRl) rfl ⟨rfl, below_setRow hB (Nat.le_refl _) _⟩
end Go.Proofs.YtocnabpplbeafaaGreat
/- wal: the good head with the greatest serial. -/
namespace Go.Proofs.YtocnabpplbeafaaGreat
open Go Go.RowKit Lou

def hvOf (l : List UInt8) : HdP := if isHead l then ⟨hdS l, hdE l, (hdZ l : Int), (hdC l : Int)⟩ else HdP.zero
def goodH (l : List UInt8) (j : Nat) : Bool := isHead l && decide (hdS l % 2 = j)
def gdH (l : List UInt8) (j : Nat) : HdP := if goodH l j then hvOf l else HdP.zero
theorem decHV_hv (l : List UInt8) : decHV l = .tuple #[.agg (hvOf l).l.toArray, .int .i64 (if isHead l then 0 else 150)] := by
  unfold decHV hvOf
  cases isHead l <;> rfl
/-- How a good head is told: the reading's error, and its serial's parity. -/
theorem goodH_cases (l : List UInt8) (j : Nat) (hj : j < 2) : ∃ (h : HdP) (er : Int), decHV l = .tuple #[.agg h.l.toArray, .int .i64 er] ∧ ((er = 150 ∧ goodH l j = false ∧ gdH l j = HdP.zero) ∨ (er = 0 ∧ ((h.s % 2 = j ∧ goodH l j = true ∧ gdH l j = h) ∨ (¬ h.s % 2 = j ∧ goodH l j = false ∧ gdH l j = HdP.zero)))) := by
  refine ⟨_, _, decHV_hv l, ?_⟩
  cases hh : isHead l
  · exact .inl ⟨by simp, by simp [goodH, hh], by simp [gdH, goodH, hh]⟩
  · refine .inr ⟨by simp, ?_⟩
    have hs : (hvOf l).s = hdS l := by simp [hvOf, hh]
    rw [hs]
    by_cases hp : hdS l % 2 = j
    · exact .inl ⟨hp, by simp [goodH, hh, hp], by simp [gdH, goodH, hh, hp]⟩
    · exact .inr ⟨hp, by simp [goodH, hh, hp], by simp [gdH, goodH, hh, hp]⟩
theorem tmod2 (k : Nat) (x : Nat) (h : k % 2 = x) : Int.tmod (k : Int) 2 = (x : Int) := by
  rw [← h]
  rfl
set_option maxRecDepth 100000 in
set_option maxHeartbeats 16000000 in
theorem headH_gives (w : World) (l d many : Nat) (s : DS) (hD : DkS w d many s) (hs : s.stopped = false) (hxl : s.xs.length ≤ 1000000) (hc : w.cell? ⟨l, 0, none⟩ = some (.pointer (some ⟨d, 0, none⟩))) (hll : l < w.heap.size) (hm2 : 2 ≤ many) (hmax : many ≤ 1000000) (G : Nat → List UInt8) (hG : G = laid s.g s.xs) :
    Calls Tryz.prog 39 #[.pointer (some ⟨l, 0, none⟩)] w fun e w' => e = .returned (.tuple #[.agg (if (gdH (G 0) 0).s < (gdH (G 1) 1).s then gdH (G 1) 1 else gdH (G 0) 0).l.toArray, .bool (goodH (G 0) 0 || goodH (G 1) 1), .int .i64 0]) ∧ Below w.heap.size w w' := by
  have hGl : ∀ k, (G k).length = 64 := by rw [hG]; exact laid_long hD
  have HR : ∀ (i : Nat) (W : World), i < 2 → Below w.heap.size w W → Calls Tryz.prog 74 #[.pointer (some ⟨l, 0, none⟩), .int .i64 (i : Int), .int .i64 1] W fun e w' => ∃ A c, e = .returned (.tuple #[.slice A 64 c, .int .i64 0]) ∧ InB w' w'.heap.size A c (G i) ∧ Below W.heap.size W w' := fun i W hi hB => by
    have := wread_gives W l d many s.g s.xs s.left s.st (hD.grow hB) hs hxl ((hB.cell (p := ⟨l, 0, none⟩) hll).trans hc) (Nat.lt_of_lt_of_le hll hB.size) i 1 (by omega) hmax
    rw [← hG] at this
    exact this
  have HDC : ∀ (i : Nat) (W : World) (A : Option Addr) (c : Nat), InB W W.heap.size A c (G i) → Calls Tryz.prog 75 #[.slice A 64 c] W fun e w' => e = .returned (decHV (G i)) ∧ Below W.heap.size W w' := fun i W A c h => by
    have := decodeHead_gives W A c (G i) h
    rw [hGl] at this
    exact this
  obtain ⟨p0, r0, hd0, hg0⟩ := goodH_cases (G 0) 0 (by omega)
  obtain ⟨p1, r1, hd1, hg1⟩ := goodH_cases (G 1) 1 (by omega)
  have HDC0 := HDC 0
  have HDC1 := HDC 1
  rw [hd0] at HDC0
  rw [hd1] at HDC1
  have HR0 := fun W => HR 0 W (by omega)
  have HR1 := fun W => HR 1 W (by omega)
  generalize G 0 = G0 at *
  generalize G 1 = G1 at *
  generalize goodH G0 0 = g0 at *
  generalize goodH G1 1 = g1 at *
  generalize gdH G0 0 = q0 at *
  generalize gdH G1 1 = q1 at *
  clear hd0 hd1 HR HDC hG hGl hD hs
  have b0 := (BlkIs.new w 89 #[.int .u64 0, .int .u64 0, .int .i64 0, .int .i64 0]).alloc (.cells #[.int .u64 0, .int .u64 0, .int .i64 0, .int .i64 0, .int .u64 0, .int .u64 0, .int .i64 0, .int .i64 0] 123)
  have b1 := BlkIs.new (w.alloc (.cells #[.int .u64 0, .int .u64 0, .int .i64 0, .int .i64 0] 89)) 123 #[.int .u64 0, .int .u64 0, .int .i64 0, .int .i64 0, .int .u64 0, .int .u64 0, .int .i64 0, .int .i64 0]
  rw [World.size_alloc] at b1
  have hBb : Below w.heap.size w ((w.alloc (.cells #[.int .u64 0, .int .u64 0, .int .i64 0, .int .i64 0] 89)).alloc (.cells #[.int .u64 0, .int .u64 0, .int .i64 0, .int .i64 0, .int .u64 0, .int .u64 0, .int .i64 0, .int .i64 0] 123)) := ((Below.refl _ w).alloc (Nat.le_refl _) _).alloc (by simp) _
  have HG0 := Lib.hid hg0
  have HG1 := Lib.hid hg1
  clear hg0 hg1
  obtain ⟨RR, hRR⟩ : ∃ RR, RR = (if q0.s < q1.s then q1 else q0).l.toArray := ⟨_, rfl⟩
  rw [← hRR]
  have HRA := Lib.hid hRR
  clear hRR
  go_enter Tryz.func39, Tryz.ntmps39
  go_wp2
  go_loopw [13, 6] (fun i v wr => ((i = .int .i64 0 ∧ v = .bool false ∧ BlkIs wr (w.heap.size + 1) 123 (HdP.zero.l ++ HdP.zero.l).toArray) ∨ (i = .int .i64 1 ∧ v = .bool g0 ∧ BlkIs wr (w.heap.size + 1) 123 (q0.l ++ HdP.zero.l).toArray) ∨ (i = .int .i64 2 ∧ v = .bool (g0 || g1) ∧ BlkIs wr (w.heap.size + 1) 123 (q0.l ++ q1.l).toArray)) ∧ BlkIs wr w.heap.size 89 HdP.zero.l.toArray ∧ Below w.heap.size w wr) (fun i _ _ => 2 - (intOf i).toNat)
  case atStart => exact ⟨.inl ⟨rfl, rfl, b1⟩, b0, hBb⟩
  case round =>
    clear b0 b1 hBb
    obtain ⟨(⟨rfl, rfl, c1⟩ | ⟨rfl, rfl, c1⟩ | ⟨rfl, rfl, c1⟩), c0, hB⟩ := hrel
    · have HRk := HR0 wr hB
      obtain ⟨S, E, Z, C⟩ := p0
      have HDC0 := HDC0
      simp only [HdP.l] at HDC0
      have hone : ∀ v ∈ (#[.int .u64 (S : Int), .int .u64 (E : Int), .int .i64 Z, .int .i64 C] : Array Value).toList, v.oneCell' = true := HdP.one ⟨S, E, Z, C⟩
      clear HR1
      rcases HG0.out with ⟨rfl, hgf, hq⟩ | ⟨rfl, ⟨hp, hgf, hq⟩ | ⟨hp, hgf, hq⟩⟩
      · replace hgf := Lib.hid hgf
        replace hq := Lib.hid hq
        go_wp2_with (first
          | (go_at_call 74; refine HRk.mono ?_; rintro e w2 ⟨A, c, rfl, hin, hB2⟩)
          | (go_at_call 75; refine (HDC0 w2 A c hin).mono ?_; rintro e w3 ⟨rfl, hB3⟩; have b4 := BlkIs.new w3 89 #[.int .u64 0, .int .u64 0, .int .i64 0, .int .i64 0])
          | (refine wp_storeW rfl 89 (.tmp 10) (.tmp 31) rfl w3.heap.size rfl rfl rowHead b4 rfl rfl hone ?_; obtain ⟨W4, hW4⟩ : ∃ W4, W4 = (w3.alloc (.cells #[.int .u64 0, .int .u64 0, .int .i64 0, .int .i64 0] 89)).setRow w3.heap.size #[.int .u64 (S : Int), .int .u64 (E : Int), .int .i64 Z, .int .i64 C] := ⟨_, rfl⟩; have b5 : BlkIs W4 w3.heap.size 89 #[.int .u64 (S : Int), .int .u64 (E : Int), .int .i64 Z, .int .i64 C] := (by rw [hW4]; exact b4.setRow _); have hB4 : Below wr.heap.size wr W4 := (by rw [hW4]; exact below_setRow ((hB2.trans (hB3.mono hB2.size)).alloc (Nat.le_trans hB2.size hB3.size) _) (Nat.le_trans hB2.size hB3.size) _); rw [← hW4]; clear hW4; have c4 := c1.below hB4 c1.lt; have d4 := c0.below hB4 c0.lt; have k0 : W4.cell? ⟨w3.heap.size, 0, none⟩ = some (.int .u64 (S : Int)) := (by rw [b5.cell]; rfl); have k1 : W4.cell? ⟨w3.heap.size, 1, none⟩ = some (.int .u64 (E : Int)) := (by rw [b5.cell]; rfl); have k2 : W4.cell? ⟨w3.heap.size, 2, none⟩ = some (.int .i64 Z) := (by rw [b5.cell]; rfl); have k3 : W4.cell? ⟨w3.heap.size, 3, none⟩ = some (.int .i64 C) := (by rw [b5.cell]; rfl); have z0 : W4.cell? ⟨w.heap.size + 1, 0, none⟩ = some (.int .u64 0) := (by rw [c4.cell]; rfl); have z1 : W4.cell? ⟨w.heap.size + 1, 1, none⟩ = some (.int .u64 0) := (by rw [c4.cell]; rfl); have z2 : W4.cell? ⟨w.heap.size + 1, 2, none⟩ = some (.int .i64 0) := (by rw [c4.cell]; rfl); have z3 : W4.cell? ⟨w.heap.size + 1, 3, none⟩ = some (.int .i64 0) := (by rw [c4.cell]; rfl); have y0 := c4.free 0; have y1 := c4.free 1; have y2 := c4.free 2; have y3 := c4.free 3))
        go_roundw
        case rel => exact ⟨.inr (.inl ⟨rfl, by rw [hgf.out], by rw [hq.out]; exact c4⟩), d4, hB.trans (hB4.mono hB.size)⟩
        case measure => simp [intOf]
      · have hm : Int.tmod (S : Int) 2 = 0 := by
          have := tmod2 S 0 hp
          exact this
        replace hgf := Lib.hid hgf
        replace hq := Lib.hid hq
        clear hp
        go_wp2_with (first
          | (go_at_call 74; refine HRk.mono ?_; rintro e w2 ⟨A, c, rfl, hin, hB2⟩)
          | (go_at_call 75; refine (HDC0 w2 A c hin).mono ?_; rintro e w3 ⟨rfl, hB3⟩; have b4 := BlkIs.new w3 89 #[.int .u64 0, .int .u64 0, .int .i64 0, .int .i64 0])
          | (refine wp_storeW rfl 89 (.tmp 10) (.tmp 31) rfl w3.heap.size rfl rfl rowHead b4 rfl rfl hone ?_; obtain ⟨W4, hW4⟩ : ∃ W4, W4 = (w3.alloc (.cells #[.int .u64 0, .int .u64 0, .int .i64 0, .int .i64 0] 89)).setRow w3.heap.size #[.int .u64 (S : Int), .int .u64 (E : Int), .int .i64 Z, .int .i64 C] := ⟨_, rfl⟩; have b5 : BlkIs W4 w3.heap.size 89 #[.int .u64 (S : Int), .int .u64 (E : Int), .int .i64 Z, .int .i64 C] := (by rw [hW4]; exact b4.setRow _); have hB4 : Below wr.heap.size wr W4 := (by rw [hW4]; exact below_setRow ((hB2.trans (hB3.mono hB2.size)).alloc (Nat.le_trans hB2.size hB3.size) _) (Nat.le_trans hB2.size hB3.size) _); rw [← hW4]; clear hW4; have c4 := c1.below hB4 c1.lt; have d4 := c0.below hB4 c0.lt; have k0 : W4.cell? ⟨w3.heap.size, 0, none⟩ = some (.int .u64 (S : Int)) := (by rw [b5.cell]; rfl); have k1 : W4.cell? ⟨w3.heap.size, 1, none⟩ = some (.int .u64 (E : Int)) := (by rw [b5.cell]; rfl); have k2 : W4.cell? ⟨w3.heap.size, 2, none⟩ = some (.int .i64 Z) := (by rw [b5.cell]; rfl); have k3 : W4.cell? ⟨w3.heap.size, 3, none⟩ = some (.int .i64 C) := (by rw [b5.cell]; rfl); have z0 : W4.cell? ⟨w.heap.size + 1, 0, none⟩ = some (.int .u64 0) := (by rw [c4.cell]; rfl); have z1 : W4.cell? ⟨w.heap.size + 1, 1, none⟩ = some (.int .u64 0) := (by rw [c4.cell]; rfl); have z2 : W4.cell? ⟨w.heap.size + 1, 2, none⟩ = some (.int .i64 0) := (by rw [c4.cell]; rfl); have z3 : W4.cell? ⟨w.heap.size + 1, 3, none⟩ = some (.int .i64 0) := (by rw [c4.cell]; rfl); have y0 := c4.free 0; have y1 := c4.free 1; have y2 := c4.free 2; have y3 := c4.free 3))
        go_roundw
        case rel =>
          have e1 := (((c4.set 0 (.int .u64 (S : Int))).set 1 (.int .u64 (E : Int))).set 2 (.int .i64 Z)).set 3 (.int .i64 C)
          have e0 := (((d4.other (p := ⟨w.heap.size + 1, 0, none⟩) (by simp) (.int .u64 (S : Int))).other (p := ⟨w.heap.size + 1, 1, none⟩) (by simp) (.int .u64 (E : Int))).other (p := ⟨w.heap.size + 1, 2, none⟩) (by simp) (.int .i64 Z)).other (p := ⟨w.heap.size + 1, 3, none⟩) (by simp) (.int .i64 C)
          exact ⟨.inr (.inl ⟨rfl, by rw [hgf.out], by rw [hq.out]; exact e1⟩), e0, ((((hB.trans (hB4.mono hB.size)).setCell (by simp) _).setCell (by simp) _).setCell (by simp) _).setCell (by simp) _⟩
        case measure => simp [intOf]
      · have hm : Int.tmod (S : Int) 2 = 1 := by
          have := tmod2 S 1 (by have hp' : ¬ S % 2 = 0 := hp; omega)
          exact this
        replace hgf := Lib.hid hgf
        replace hq := Lib.hid hq
        clear hp
        go_wp2_with (first
          | (go_at_call 74; refine HRk.mono ?_; rintro e w2 ⟨A, c, rfl, hin, hB2⟩)
          | (go_at_call 75; refine (HDC0 w2 A c hin).mono ?_; rintro e w3 ⟨rfl, hB3⟩; have b4 := BlkIs.new w3 89 #[.int .u64 0, .int .u64 0, .int .i64 0, .int .i64 0])
          | (refine wp_storeW rfl 89 (.tmp 10) (.tmp 31) rfl w3.heap.size rfl rfl rowHead b4 rfl rfl hone ?_; obtain ⟨W4, hW4⟩ : ∃ W4, W4 = (w3.alloc (.cells #[.int .u64 0, .int .u64 0, .int .i64 0, .int .i64 0] 89)).setRow w3.heap.size #[.int .u64 (S : Int), .int .u64 (E : Int), .int .i64 Z, .int .i64 C] := ⟨_, rfl⟩; have b5 : BlkIs W4 w3.heap.size 89 #[.int .u64 (S : Int), .int .u64 (E : Int), .int .i64 Z, .int .i64 C] := (by rw [hW4]; exact b4.setRow _); have hB4 : Below wr.heap.size wr W4 := (by rw [hW4]; exact below_setRow ((hB2.trans (hB3.mono hB2.size)).alloc (Nat.le_trans hB2.size hB3.size) _) (Nat.le_trans hB2.size hB3.size) _); rw [← hW4]; clear hW4; have c4 := c1.below hB4 c1.lt; have d4 := c0.below hB4 c0.lt; have k0 : W4.cell? ⟨w3.heap.size, 0, none⟩ = some (.int .u64 (S : Int)) := (by rw [b5.cell]; rfl); have k1 : W4.cell? ⟨w3.heap.size, 1, none⟩ = some (.int .u64 (E : Int)) := (by rw [b5.cell]; rfl); have k2 : W4.cell? ⟨w3.heap.size, 2, none⟩ = some (.int .i64 Z) := (by rw [b5.cell]; rfl); have k3 : W4.cell? ⟨w3.heap.size, 3, none⟩ = some (.int .i64 C) := (by rw [b5.cell]; rfl); have z0 : W4.cell? ⟨w.heap.size + 1, 0, none⟩ = some (.int .u64 0) := (by rw [c4.cell]; rfl); have z1 : W4.cell? ⟨w.heap.size + 1, 1, none⟩ = some (.int .u64 0) := (by rw [c4.cell]; rfl); have z2 : W4.cell? ⟨w.heap.size + 1, 2, none⟩ = some (.int .i64 0) := (by rw [c4.cell]; rfl); have z3 : W4.cell? ⟨w.heap.size + 1, 3, none⟩ = some (.int .i64 0) := (by rw [c4.cell]; rfl); have y0 := c4.free 0; have y1 := c4.free 1; have y2 := c4.free 2; have y3 := c4.free 3))
        go_roundw
        case rel => exact ⟨.inr (.inl ⟨rfl, by rw [hgf.out], by rw [hq.out]; exact c4⟩), d4, hB.trans (hB4.mono hB.size)⟩
        case measure => simp [intOf]
    · have HRk := HR1 wr hB
      obtain ⟨S, E, Z, C⟩ := p1
      have HDC1 := HDC1
      simp only [HdP.l] at HDC1
      have hone : ∀ v ∈ (#[.int .u64 (S : Int), .int .u64 (E : Int), .int .i64 Z, .int .i64 C] : Array Value).toList, v.oneCell' = true := HdP.one ⟨S, E, Z, C⟩
      clear HR0
      rcases HG1.out with ⟨rfl, hgf, hq⟩ | ⟨rfl, ⟨hp, hgf, hq⟩ | ⟨hp, hgf, hq⟩⟩
      · replace hgf := Lib.hid hgf
        replace hq := Lib.hid hq
        go_wp2_with (first
          | (go_at_call 74; refine HRk.mono ?_; rintro e w2 ⟨A, c, rfl, hin, hB2⟩)
          | (go_at_call 75; refine (HDC1 w2 A c hin).mono ?_; rintro e w3 ⟨rfl, hB3⟩; have b4 := BlkIs.new w3 89 #[.int .u64 0, .int .u64 0, .int .i64 0, .int .i64 0])
          | (refine wp_storeW rfl 89 (.tmp 10) (.tmp 31) rfl w3.heap.size rfl rfl rowHead b4 rfl rfl hone ?_; obtain ⟨W4, hW4⟩ : ∃ W4, W4 = (w3.alloc (.cells #[.int .u64 0, .int .u64 0, .int .i64 0, .int .i64 0] 89)).setRow w3.heap.size #[.int .u64 (S : Int), .int .u64 (E : Int), .int .i64 Z, .int .i64 C] := ⟨_, rfl⟩; have b5 : BlkIs W4 w3.heap.size 89 #[.int .u64 (S : Int), .int .u64 (E : Int), .int .i64 Z, .int .i64 C] := (by rw [hW4]; exact b4.setRow _); have hB4 : Below wr.heap.size wr W4 := (by rw [hW4]; exact below_setRow ((hB2.trans (hB3.mono hB2.size)).alloc (Nat.le_trans hB2.size hB3.size) _) (Nat.le_trans hB2.size hB3.size) _); rw [← hW4]; clear hW4; have c4 := c1.below hB4 c1.lt; have d4 := c0.below hB4 c0.lt; have k0 : W4.cell? ⟨w3.heap.size, 0, none⟩ = some (.int .u64 (S : Int)) := (by rw [b5.cell]; rfl); have k1 : W4.cell? ⟨w3.heap.size, 1, none⟩ = some (.int .u64 (E : Int)) := (by rw [b5.cell]; rfl); have k2 : W4.cell? ⟨w3.heap.size, 2, none⟩ = some (.int .i64 Z) := (by rw [b5.cell]; rfl); have k3 : W4.cell? ⟨w3.heap.size, 3, none⟩ = some (.int .i64 C) := (by rw [b5.cell]; rfl); have z0 : W4.cell? ⟨w.heap.size + 1, 4, none⟩ = some (.int .u64 0) := (by rw [c4.cell]; rfl); have z1 : W4.cell? ⟨w.heap.size + 1, 5, none⟩ = some (.int .u64 0) := (by rw [c4.cell]; rfl); have z2 : W4.cell? ⟨w.heap.size + 1, 6, none⟩ = some (.int .i64 0) := (by rw [c4.cell]; rfl); have z3 : W4.cell? ⟨w.heap.size + 1, 7, none⟩ = some (.int .i64 0) := (by rw [c4.cell]; rfl); have y0 := c4.free 4; have y1 := c4.free 5; have y2 := c4.free 6; have y3 := c4.free 7))
        go_roundw
        case rel => exact ⟨.inr (.inr ⟨rfl, by rw [hgf.out]; simp, by rw [hq.out]; exact c4⟩), d4, hB.trans (hB4.mono hB.size)⟩
        case measure => simp [intOf]
      · have hm : Int.tmod (S : Int) 2 = 1 := by
          have := tmod2 S 1 hp
          exact this
        replace hgf := Lib.hid hgf
        replace hq := Lib.hid hq
        clear hp
        go_wp2_with (first
          | (go_at_call 74; refine HRk.mono ?_; rintro e w2 ⟨A, c, rfl, hin, hB2⟩)
          | (go_at_call 75; refine (HDC1 w2 A c hin).mono ?_; rintro e w3 ⟨rfl, hB3⟩; have b4 := BlkIs.new w3 89 #[.int .u64 0, .int .u64 0, .int .i64 0, .int .i64 0])
          | (refine wp_storeW rfl 89 (.tmp 10) (.tmp 31) rfl w3.heap.size rfl rfl rowHead b4 rfl rfl hone ?_; obtain ⟨W4, hW4⟩ : ∃ W4, W4 = (w3.alloc (.cells #[.int .u64 0, .int .u64 0, .int .i64 0, .int .i64 0] 89)).setRow w3.heap.size #[.int .u64 (S : Int), .int .u64 (E : Int), .int .i64 Z, .int .i64 C] := ⟨_, rfl⟩; have b5 : BlkIs W4 w3.heap.size 89 #[.int .u64 (S : Int), .int .u64 (E : Int), .int .i64 Z, .int .i64 C] := (by rw [hW4]; exact b4.setRow _); have hB4 : Below wr.heap.size wr W4 := (by rw [hW4]; exact below_setRow ((hB2.trans (hB3.mono hB2.size)).alloc (Nat.le_trans hB2.size hB3.size) _) (Nat.le_trans hB2.size hB3.size) _); rw [← hW4]; clear hW4; have c4 := c1.below hB4 c1.lt; have d4 := c0.below hB4 c0.lt; have k0 : W4.cell? ⟨w3.heap.size, 0, none⟩ = some (.int .u64 (S : Int)) := (by rw [b5.cell]; rfl); have k1 : W4.cell? ⟨w3.heap.size, 1, none⟩ = some (.int .u64 (E : Int)) := (by rw [b5.cell]; rfl); have k2 : W4.cell? ⟨w3.heap.size, 2, none⟩ = some (.int .i64 Z) := (by rw [b5.cell]; rfl); have k3 : W4.cell? ⟨w3.heap.size, 3, none⟩ = some (.int .i64 C) := (by rw [b5.cell]; rfl); have z0 : W4.cell? ⟨w.heap.size + 1, 4, none⟩ = some (.int .u64 0) := (by rw [c4.cell]; rfl); have z1 : W4.cell? ⟨w.heap.size + 1, 5, none⟩ = some (.int .u64 0) := (by rw [c4.cell]; rfl); have z2 : W4.cell? ⟨w.heap.size + 1, 6, none⟩ = some (.int .i64 0) := (by rw [c4.cell]; rfl); have z3 : W4.cell? ⟨w.heap.size + 1, 7, none⟩ = some (.int .i64 0) := (by rw [c4.cell]; rfl); have y0 := c4.free 4; have y1 := c4.free 5; have y2 := c4.free 6; have y3 := c4.free 7))
        go_roundw
        case rel =>
          have e1 := (((c4.set 4 (.int .u64 (S : Int))).set 5 (.int .u64 (E : Int))).set 6 (.int .i64 Z)).set 7 (.int .i64 C)
          have e0 := (((d4.other (p := ⟨w.heap.size + 1, 4, none⟩) (by simp) (.int .u64 (S : Int))).other (p := ⟨w.heap.size + 1, 5, none⟩) (by simp) (.int .u64 (E : Int))).other (p := ⟨w.heap.size + 1, 6, none⟩) (by simp) (.int .i64 Z)).other (p := ⟨w.heap.size + 1, 7, none⟩) (by simp) (.int .i64 C)
          exact ⟨.inr (.inr ⟨rfl, by rw [hgf.out]; simp, by rw [hq.out]; exact e1⟩), e0, ((((hB.trans (hB4.mono hB.size)).setCell (by simp) _).setCell (by simp) _).setCell (by simp) _).setCell (by simp) _⟩
        case measure => simp [intOf]
      · have hm : Int.tmod (S : Int) 2 = 0 := by
          have := tmod2 S 0 (by have hp' : ¬ S % 2 = 1 := hp; omega)
          exact this
        replace hgf := Lib.hid hgf
        replace hq := Lib.hid hq
        clear hp
        go_wp2_with (first
          | (go_at_call 74; refine HRk.mono ?_; rintro e w2 ⟨A, c, rfl, hin, hB2⟩)
          | (go_at_call 75; refine (HDC1 w2 A c hin).mono ?_; rintro e w3 ⟨rfl, hB3⟩; have b4 := BlkIs.new w3 89 #[.int .u64 0, .int .u64 0, .int .i64 0, .int .i64 0])
          | (refine wp_storeW rfl 89 (.tmp 10) (.tmp 31) rfl w3.heap.size rfl rfl rowHead b4 rfl rfl hone ?_; obtain ⟨W4, hW4⟩ : ∃ W4, W4 = (w3.alloc (.cells #[.int .u64 0, .int .u64 0, .int .i64 0, .int .i64 0] 89)).setRow w3.heap.size #[.int .u64 (S : Int), .int .u64 (E : Int), .int .i64 Z, .int .i64 C] := ⟨_, rfl⟩; have b5 : BlkIs W4 w3.heap.size 89 #[.int .u64 (S : Int), .int .u64 (E : Int), .int .i64 Z, .int .i64 C] := (by rw [hW4]; exact b4.setRow _); have hB4 : Below wr.heap.size wr W4 := (by rw [hW4]; exact below_setRow ((hB2.trans (hB3.mono hB2.size)).alloc (Nat.le_trans hB2.size hB3.size) _) (Nat.le_trans hB2.size hB3.size) _); rw [← hW4]; clear hW4; have c4 := c1.below hB4 c1.lt; have d4 := c0.below hB4 c0.lt; have k0 : W4.cell? ⟨w3.heap.size, 0, none⟩ = some (.int .u64 (S : Int)) := (by rw [b5.cell]; rfl); have k1 : W4.cell? ⟨w3.heap.size, 1, none⟩ = some (.int .u64 (E : Int)) := (by rw [b5.cell]; rfl); have k2 : W4.cell? ⟨w3.heap.size, 2, none⟩ = some (.int .i64 Z) := (by rw [b5.cell]; rfl); have k3 : W4.cell? ⟨w3.heap.size, 3, none⟩ = some (.int .i64 C) := (by rw [b5.cell]; rfl); have z0 : W4.cell? ⟨w.heap.size + 1, 4, none⟩ = some (.int .u64 0) := (by rw [c4.cell]; rfl); have z1 : W4.cell? ⟨w.heap.size + 1, 5, none⟩ = some (.int .u64 0) := (by rw [c4.cell]; rfl); have z2 : W4.cell? ⟨w.heap.size + 1, 6, none⟩ = some (.int .i64 0) := (by rw [c4.cell]; rfl); have z3 : W4.cell? ⟨w.heap.size + 1, 7, none⟩ = some (.int .i64 0) := (by rw [c4.cell]; rfl); have y0 := c4.free 4; have y1 := c4.free 5; have y2 := c4.free 6; have y3 := c4.free 7))
        go_roundw
        case rel => exact ⟨.inr (.inr ⟨rfl, by rw [hgf.out]; simp, by rw [hq.out]; exact c4⟩), d4, hB.trans (hB4.mono hB.size)⟩
        case measure => simp [intOf]
    · have HM := maxG_gives wr (w.heap.size + 1) _ q0 q1 c1
      clear HR0 HR1 HDC0 HDC1
      rw [← HRA.out] at HM
      have hRl : RR.size = 4 := by rw [HRA.out]; rfl
      have hRo : ∀ v ∈ RR.toList, v.oneCell' = true := by rw [HRA.out]; exact HdP.one _
      go_wp2_with (first
        | (go_at_call 78; refine HM.mono ?_; rintro e w5 ⟨rfl, hB5⟩; have d0 := c0.below hB5 c0.lt)
        | (refine wp_storeW rfl 89 (.tmp 2) (.tmp 49) rfl w.heap.size rfl rfl rowHead d0 rfl hRl hRo ?_))
      refine bodyPost_ret_by (results_cellW_tmp2 2 3 4 rfl rfl rfl rfl rowHead (d0.setRow _) hRl) rfl ⟨rfl, below_setRow (hB.trans (hB5.mono hB.size)) (Nat.le_refl _) _⟩
end Go.Proofs.YtocnabpplbeafaaGreat
/- frame: what is encoded is decoded again; plain. -/
namespace Go.Proofs.YtocnabpplbeafaaGreat
open Go Go.RowKit Lou

theorem frame_back {e i p z n : Nat} {f : Bool} {y : List UInt8} (he : e < 2 ^ 64) (hi : i ≤ 2000) (hp : p ≤ 2000) (hz : z ≤ 2000) (hf : f = true ∨ z = 0) (hn : n < 2 ^ 32) (hy : y.length = 512) :
    isFrame (frameB (partB e i p f z n) y) = true ∧ fdE (frameB (partB e i p f z n) y) = e ∧ fdI (frameB (partB e i p f z n) y) = i ∧ fdP (frameB (partB e i p f z n) y) = p ∧ fdF (frameB (partB e i p f z n) y) = f ∧ fdZ (frameB (partB e i p f z n) y) = z ∧ fdL (frameB (partB e i p f z n) y) = n ∧ (frameB (partB e i p f z n) y).drop 64 = y := by
  obtain ⟨R, hR⟩ : ∃ R, frameB (partB e i p f z n) y = fixL 8 e ++ (fixL 4 i ++ (fixL 4 p ++ ([if f then 1 else 0] ++ (fixL 4 z ++ (fixL 4 n ++ R))))) := ⟨_, by
    unfold frameB sectB
    rw [partB_eq]
    simp only [List.append_assoc, List.cons_append, List.nil_append]
    rfl⟩
  have l8 : ∀ k, (fixL 8 k).length = 8 := fun k => fixL_length 8 k
  have l4 : ∀ k, (fixL 4 k).length = 4 := fun k => fixL_length 4 k
  have d8 : (frameB (partB e i p f z n) y).drop 8 = fixL 4 i ++ (fixL 4 p ++ ([if f then 1 else 0] ++ (fixL 4 z ++ (fixL 4 n ++ R)))) := by rw [hR, List.drop_left' (l8 e)]
  have d12 : (frameB (partB e i p f z n) y).drop 12 = fixL 4 p ++ ([if f then 1 else 0] ++ (fixL 4 z ++ (fixL 4 n ++ R))) := by
    have : (frameB (partB e i p f z n) y).drop 12 = ((frameB (partB e i p f z n) y).drop 8).drop 4 := by rw [List.drop_drop]
    rw [this, d8, List.drop_left' (l4 i)]
  have d16 : (frameB (partB e i p f z n) y).drop 16 = [if f then 1 else 0] ++ (fixL 4 z ++ (fixL 4 n ++ R)) := by
    have : (frameB (partB e i p f z n) y).drop 16 = ((frameB (partB e i p f z n) y).drop 12).drop 4 := by rw [List.drop_drop]
    rw [this, d12, List.drop_left' (l4 p)]
  have d17 : (frameB (partB e i p f z n) y).drop 17 = fixL 4 z ++ (fixL 4 n ++ R) := by
    have : (frameB (partB e i p f z n) y).drop 17 = ((frameB (partB e i p f z n) y).drop 16).drop 1 := by rw [List.drop_drop]
    rw [this, d16]
    rfl
  have d21 : (frameB (partB e i p f z n) y).drop 21 = fixL 4 n ++ R := by
    have : (frameB (partB e i p f z n) y).drop 21 = ((frameB (partB e i p f z n) y).drop 17).drop 4 := by rw [List.drop_drop]
    rw [this, d17, List.drop_left' (l4 z)]
  have hs : (sectB (partB e i p f z n) y).length = 64 := by rw [sectB_length, partB_length]
  have d64 : (frameB (partB e i p f z n) y).drop 64 = y := by unfold frameB; rw [List.drop_left' hs]
  have t64 : (frameB (partB e i p f z n) y).take 64 = sectB (partB e i p f z n) y := by unfold frameB; rw [List.take_left' hs]
  have hlen : (frameB (partB e i p f z n) y).length = 576 := by unfold frameB; rw [List.length_append, hs, hy]
  have e1 : fdE (frameB (partB e i p f z n) y) = e := by
    unfold fdE
    rw [hR, List.take_left' (l8 e), rfix_fixL_lt (by omega)]
  have e2 : fdI (frameB (partB e i p f z n) y) = i := by
    unfold fdI
    rw [d8, List.take_left' (l4 i), rfix_fixL_lt (by omega)]
  have e3 : fdP (frameB (partB e i p f z n) y) = p := by
    unfold fdP
    rw [d12, List.take_left' (l4 p), rfix_fixL_lt (by omega)]
  have e4 : fdF (frameB (partB e i p f z n) y) = f := by
    unfold fdF
    have : (frameB (partB e i p f z n) y).getD 16 0 = ((frameB (partB e i p f z n) y).drop 16).getD 0 0 := by
      simp [List.getD_eq_getElem?_getD, List.getElem?_drop]
    rw [this, d16]
    cases f <;> rfl
  have e5 : fdZ (frameB (partB e i p f z n) y) = z := by
    unfold fdZ
    rw [d17, List.take_left' (l4 z), rfix_fixL_lt (by omega)]
  have e6 : fdL (frameB (partB e i p f z n) y) = n := by
    unfold fdL
    rw [d21, List.take_left' (l4 n), rfix_fixL_lt (by omega)]
  refine ⟨?_, e1, e2, e3, e4, e5, e6, d64⟩
  unfold isFrame
  rw [e1, e2, e3, e4, e5, e6, d64, t64, hlen]
  have hok : frOk 512 (i : Int) (p : Int) f (z : Int) = true := (frOk_iff _ _ _ _ _).2 ⟨rfl, ⟨by omega, by omega⟩, ⟨by omega, by omega⟩, ⟨by omega, by omega⟩, by rcases hf with h | h; exact .inl h; exact .inr (by omega)⟩
  rw [hok]
  simp
end Go.Proofs.YtocnabpplbeafaaGreat
