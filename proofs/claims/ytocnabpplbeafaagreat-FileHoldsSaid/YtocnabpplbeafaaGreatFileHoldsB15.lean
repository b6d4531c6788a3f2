/- Texts that the proof of FileHolds leans on, part 15. -/
import Derived.Deep.Slices
import Derived.Deep.Grids
import Derived.ChangeArms
import Derived.Test.YtocnabpplbeafaaGreatFileHoldsB14
/- loupelaw07: writes. -/
namespace Go.Proofs.YtocnabpplbeafaaGreat
open Go Go.RowKit Lou

set_option maxRecDepth 100000 in
set_option maxHeartbeats 8000000 in
theorem writes7_gives (w : World) (what size : Int) (Ap : Option Addr) (cp : Nat) (ps : List Int) (Ab : Option Addr) (cb : Nat) (bs : List UInt8) (Ak : Option Addr) (nk ck : Nat) (hp : InG w w.heap.size 1 Ap ps.length cp (ps.map (Value.int .i64))) (hb : InB w w.heap.size Ab cb bs) (hl : ps.length ≤ 1000) :
    Calls Tryz.prog 32 #[.agg #[.int .i64 what, .int .i64 size, .slice Ap ps.length cp, .slice Ab bs.length cb, .slice Ak nk ck]] w (WrsOut ps bs w) := by
  obtain ⟨W0, hW0⟩ : ∃ W0, W0 = w.alloc (.cells #[.int .i64 what, .int .i64 size, .slice Ap ps.length cp, .slice Ab bs.length cb, .slice Ak nk ck] 73) := ⟨_, rfl⟩
  have hB0 : Below w.heap.size w W0 := by rw [hW0]; exact (Below.refl _ w).alloc (Nat.le_refl _) _
  have b0 : BlkIs W0 w.heap.size 73 #[.int .i64 what, .int .i64 size, .slice Ap ps.length cp, .slice Ab bs.length cb, .slice Ak nk ck] := by rw [hW0]; exact BlkIs.new w _ _
  go_enter Tryz.func32, Tryz.ntmps32
  go_wp2
  rw [← hW0]
  clear hW0
  go_loopw [4, 3] (fun i v wr => PwRel W0.heap.size ps bs i v W0 wr) (fun i _ _ => ps.length - (intOf i).toNat)
  case atStart => exact ⟨0, by omega, rfl, Below.refl _ _, [], rfl, World.ownsRow_nil _ _ _ _, fun j h => absurd h (Nat.not_lt_zero j)⟩
  case round =>
    obtain ⟨k, hk, rfl, hB, vk, hvl, own, hvk⟩ := hrel
    have br := b0.below hB b0.lt
    have k2 : wr.cell? ⟨w.heap.size, 2, none⟩ = some (.slice Ap ps.length cp) := by rw [br.cell]; rfl
    by_cases hlt : k < ps.length
    · obtain ⟨gp, op, rfl, hgp, hrp⟩ := hp.lies (by omega)
      have hBW := hB0.trans (hB.mono hB0.size)
      have kp : ∀ W, Below W0.heap.size W0 W → W.cell? ⟨gp, op + k, none⟩ = some (.int .i64 (ps.getD k 0)) := fun W hW => by
        refine ((hB0.trans (hW.mono hB0.size)).cell (p := ⟨gp, op + k, none⟩) hgp).trans (hrp k _ ?_)
        rw [List.getElem?_map, List.getElem?_eq_getElem hlt, List.getD_eq_getElem?_getD, List.getElem?_eq_getElem hlt]
        rfl
      have hwk : IntKind.i64.wrap ((k : Int) + 1) = (k : Int) + 1 := wrap_i64_fr _ (by omega) (by omega)
      have k3 : wr.cell? ⟨w.heap.size, 3, none⟩ = some (.slice Ab bs.length cb) := by rw [br.cell]; rfl
      have T2 : ∀ W, Below W0.heap.size W0 W → W.cell? ⟨w.heap.size, 2, none⟩ = some (.slice (some ⟨gp, op, none⟩) ps.length cp) := fun W hW => by rw [(b0.below hW b0.lt).cell]; rfl
      have HPG : ∀ W, Calls Tryz.prog 65 #[.int .u8 ((bs.getD k 0).toNat : Int)] W fun e w' => ∃ A c, e = .returned (.slice A 512 c) ∧ InB w' w'.heap.size A c (pgL (bs.getD k 0)) ∧ TyB w' A ∧ Below W.heap.size W w' := fun W => by
        refine (page7_gives W (bs.getD k 0)).mono ?_
        rintro e w' ⟨v, rfl, own, hBc⟩
        have hty := ownG_ty own
        obtain ⟨A, c, rfl, hin⟩ := own.inB
        exact ⟨A, c, by simp [pgL], hin, fun g o e => by subst e; exact hty g rfl, hBc⟩
      have hS0 : Below W0.heap.size W0 wr.drew := hB.drew
      have hSr : Below wr.heap.size wr wr.drew := (Below.refl _ _).drew
      have HVL := Lib.hid hvl
      have hwl := hB.size
      obtain ⟨Av, cv, rfl, hinv⟩ := ownG_in own (pwsC_one vk)
      clear hvl hp hrp
      by_cases hbk : k < bs.length
      case' pos =>
        obtain ⟨gb, ob, rfl, hgb, hrb⟩ := hb.lies (by omega)
        have kb : wr.cell? ⟨gb, ob + k, none⟩ = some (.int .u8 ((bs.getD k 0).toNat : Int)) := by
          rw [List.getD_eq_getElem?_getD, List.getElem?_eq_getElem hbk]
          exact (hBW.cell (p := ⟨gb, ob + k, none⟩) hgb).trans (hrb k hbk)
        generalize hc : bs.getD k 0 = C at *
        have HC := Lib.hid hc
        clear hrb hc
        go_wp2
        refine RegF.start (fun W => Below W0.heap.size W0 W) 99 (by kernel_rfl) ?_
        refine RegF.take0 0 (.slice Av k cv) rfl (by kernel_rfl) (by kernel_rfl) (by kernel_rfl) rfl (fun _ _ _ h => h) hS0 (RegF.yld rfl (fun W hW => by go_simp)) ?_
        simp only [List.getElem_toArray, List.getElem_cons_zero, Act.put, List.setIfInBounds_toArray, List.set_cons_zero, List.set_cons_succ]
        refine RegF.take0 1 (.pointer (some ⟨w.heap.size, 2, none⟩)) rfl (by kernel_rfl) (by kernel_rfl) (by kernel_rfl) rfl (fun _ _ _ h => h) hS0 (RegF.yld rfl (fun W hW => by go_simp)) ?_
        simp only [List.getElem_toArray, List.getElem_cons_succ, List.getElem_cons_zero, Act.put, List.setIfInBounds_toArray, List.set_cons_zero, List.set_cons_succ]
        refine RegF.take0 2 (.slice (some ⟨gp, op, none⟩) ps.length cp) rfl (by kernel_rfl) (by kernel_rfl) (by kernel_rfl) rfl (fun _ _ _ h => h) hS0 (RegF.yld rfl (fun W hW => by have q := T2 W hW; go_simp)) ?_
        simp only [List.getElem_toArray, List.getElem_cons_succ, List.getElem_cons_zero, Act.put, List.setIfInBounds_toArray, List.set_cons_zero, List.set_cons_succ]
        refine RegF.take0 3 (.int .i64 (k : Int)) rfl (by kernel_rfl) (by kernel_rfl) (by kernel_rfl) rfl (fun _ _ _ h => h) hS0 (RegF.yld rfl (fun W hW => by go_simp)) ?_
        simp only [List.getElem_toArray, List.getElem_cons_succ, List.getElem_cons_zero, Act.put, List.setIfInBounds_toArray, List.set_cons_zero, List.set_cons_succ]
        refine RegF.take0 4 (.pointer (some ⟨gp, op + k, none⟩)) rfl (by kernel_rfl) (by kernel_rfl) (by kernel_rfl) rfl (fun _ _ _ h => h) hS0 (RegF.yld rfl (fun W hW => by go_simp)) ?_
        simp only [List.getElem_toArray, List.getElem_cons_succ, List.getElem_cons_zero, Act.put, List.setIfInBounds_toArray, List.set_cons_zero, List.set_cons_succ]
        refine RegF.take0 5 (.int .i64 (ps.getD k 0)) rfl (by kernel_rfl) (by kernel_rfl) (by kernel_rfl) rfl (fun _ _ _ h => h) hS0 (RegF.yld rfl (fun W hW => by have q := kp W hW; go_simp)) ?_
        simp only [List.getElem_toArray, List.getElem_cons_succ, List.getElem_cons_zero, Act.put, List.setIfInBounds_toArray, List.set_cons_zero, List.set_cons_succ]
        refine RegF.take0 6 (.int .u8 (C.toNat : Int)) rfl (by kernel_rfl) (by kernel_rfl) (by kernel_rfl) rfl (fun _ _ _ h => h) hS0 (RegF.yld rfl (fun W hW => by go_simp)) ?_
        simp only [List.getElem_toArray, List.getElem_cons_succ, List.getElem_cons_zero, Act.put, List.setIfInBounds_toArray, List.set_cons_zero, List.set_cons_succ]
      case' neg =>
        have hc0 : bs.getD k 0 = 0 := by rw [List.getD_eq_getElem?_getD, List.getElem?_eq_none (by omega)]; rfl
        rw [hc0] at HPG
        have HC := Lib.hid hc0
        have h00 : ((0 : UInt8).toNat : Int) = 0 := rfl
        rw [h00] at HPG
        clear hc0
        go_wp2
        refine RegF.start (fun W => Below W0.heap.size W0 W) 99 (by kernel_rfl) ?_
        refine RegF.take0 0 (.slice Av k cv) rfl (by kernel_rfl) (by kernel_rfl) (by kernel_rfl) rfl (fun _ _ _ h => h) hS0 (RegF.yld rfl (fun W hW => by go_simp)) ?_
        simp only [List.getElem_toArray, List.getElem_cons_zero, Act.put, List.setIfInBounds_toArray, List.set_cons_zero, List.set_cons_succ]
        refine RegF.take0 1 (.pointer (some ⟨w.heap.size, 2, none⟩)) rfl (by kernel_rfl) (by kernel_rfl) (by kernel_rfl) rfl (fun _ _ _ h => h) hS0 (RegF.yld rfl (fun W hW => by go_simp)) ?_
        simp only [List.getElem_toArray, List.getElem_cons_succ, List.getElem_cons_zero, Act.put, List.setIfInBounds_toArray, List.set_cons_zero, List.set_cons_succ]
        refine RegF.take0 2 (.slice (some ⟨gp, op, none⟩) ps.length cp) rfl (by kernel_rfl) (by kernel_rfl) (by kernel_rfl) rfl (fun _ _ _ h => h) hS0 (RegF.yld rfl (fun W hW => by have q := T2 W hW; go_simp)) ?_
        simp only [List.getElem_toArray, List.getElem_cons_succ, List.getElem_cons_zero, Act.put, List.setIfInBounds_toArray, List.set_cons_zero, List.set_cons_succ]
        refine RegF.take0 3 (.int .i64 (k : Int)) rfl (by kernel_rfl) (by kernel_rfl) (by kernel_rfl) rfl (fun _ _ _ h => h) hS0 (RegF.yld rfl (fun W hW => by go_simp)) ?_
        simp only [List.getElem_toArray, List.getElem_cons_succ, List.getElem_cons_zero, Act.put, List.setIfInBounds_toArray, List.set_cons_zero, List.set_cons_succ]
        refine RegF.take0 4 (.pointer (some ⟨gp, op + k, none⟩)) rfl (by kernel_rfl) (by kernel_rfl) (by kernel_rfl) rfl (fun _ _ _ h => h) hS0 (RegF.yld rfl (fun W hW => by go_simp)) ?_
        simp only [List.getElem_toArray, List.getElem_cons_succ, List.getElem_cons_zero, Act.put, List.setIfInBounds_toArray, List.set_cons_zero, List.set_cons_succ]
        refine RegF.take0 5 (.int .i64 (ps.getD k 0)) rfl (by kernel_rfl) (by kernel_rfl) (by kernel_rfl) rfl (fun _ _ _ h => h) hS0 (RegF.yld rfl (fun W hW => by have q := kp W hW; go_simp)) ?_
        simp only [List.getElem_toArray, List.getElem_cons_succ, List.getElem_cons_zero, Act.put, List.setIfInBounds_toArray, List.set_cons_zero, List.set_cons_succ]
        refine RegF.take0 6 (.int .u8 0) rfl (by kernel_rfl) (by kernel_rfl) (by kernel_rfl) rfl (fun _ _ _ h => h) hS0 (RegF.yld rfl (fun W hW => by go_simp)) ?_
        simp only [List.getElem_toArray, List.getElem_cons_succ, List.getElem_cons_zero, Act.put, List.setIfInBounds_toArray, List.set_cons_zero, List.set_cons_succ]
      all_goals
        refine RegF.one 7 (by kernel_rfl) ?_
        refine RegF.opC 65 #[.tmp 29] #[5] rfl rfl rfl (enters_of Tryz.func65 (by kernel_rfl) rfl) _ (by simp only [List.map_toArray, List.map_cons, List.map_nil]; rfl) ((HPG _).mono ?_)
        rintro e w7 ⟨A7, c7, rfl, hin7, hty7, hB7⟩
        have hB7w : Below W0.heap.size W0 w7 := hS0.trans (hB7.mono hS0.size)
        have hB7r : Below wr.heap.size wr w7 := hSr.trans (hB7.mono hSr.size)
        refine ⟨_, rfl, fun _ => hB7w, ?_⟩
        simp only [List.getElem_toArray, List.getElem_cons_succ, List.getElem_cons_zero, Act.put, List.setIfInBounds_toArray, List.set_cons_zero, List.set_cons_succ]
        refine RegF.take0 8 (.agg #[.int .i64 (ps.getD k 0), .slice A7 512 c7]) rfl (by kernel_rfl) (by kernel_rfl) (by kernel_rfl) rfl (fun _ _ _ h => h) hB7w (RegF.yld rfl (fun W hW => by go_simp)) ?_
        simp only [List.getElem_toArray, List.getElem_cons_succ, List.getElem_cons_zero, Act.put, List.setIfInBounds_toArray, List.set_cons_zero, List.set_cons_succ]
        have in8 : InG (w7.alloc (.cells (pwC (ps.getD k 0, A7, c7)).toArray 80)) (w7.alloc (.cells (pwC (ps.getD k 0, A7, c7)).toArray 80)).heap.size 2 (some ⟨w7.heap.size, 0, none⟩) 1 1 (pwC (ps.getD k 0, A7, c7)) :=
          ⟨Nat.le_refl _, by omega, (fun e => by cases e), rfl, (by intro v hv; simp [pwC] at hv; rcases hv with rfl | rfl <;> rfl), fun _ => ⟨w7.heap.size, 0, rfl, by simp, fun j v hj => by
            rw [(BlkIs.new w7 80 (pwC (ps.getD k 0, A7, c7)).toArray).cell, Nat.zero_add]
            simpa using hj⟩⟩
        have hBL : Below w7.heap.size w7 (w7.alloc (.cells (pwC (ps.getD k 0, A7, c7)).toArray 80)) := (Below.refl _ _).alloc (Nat.le_refl _) _
        have hB8 : Below W0.heap.size W0 (w7.alloc (.cells (pwC (ps.getD k 0, A7, c7)).toArray 80)) := hB7w.alloc hB7w.size _
        have own8 := ownG_grow (ownG_grow own hB7r) hBL
        refine RegF.one 9 (by kernel_rfl) (RegF.opV (w' := w7.alloc (.cells (pwC (ps.getD k 0, A7, c7)).toArray 80)) (.slice (some ⟨w7.heap.size, 0, none⟩) 1 1) rfl rfl (by unfold pwC; go_simp) ⟨fun _ => hB8, ?_⟩)
        simp only [List.getElem_toArray, List.getElem_cons_succ, List.getElem_cons_zero, Act.put, List.setIfInBounds_toArray, List.set_cons_zero, List.set_cons_succ]
        generalize w7.alloc (.cells (pwC (ps.getD k 0, A7, c7)).toArray 80) = w8 at *
        refine RegF.one 10 (by kernel_rfl) ?_
        refine opApp rfl rfl elPW (.tmp 23) (.tmp 32) rfl W0.heap.size (.slice Av k cv) k (pwsC vk) rfl own8 _ _ 1 1 (pwC (ps.getD k 0, A7, c7)) rfl in8 (by unfold maxLen; omega) (by omega) hB8.size ?_
        intro v9 w9 own9 hg9
        have hB9 : Below W0.heap.size W0 w9 := hB8.trans (grown_below hg9 hB8.size (ownG_ge own8))
        have G9 : GrowBut (fun g => (Value.slice Av k cv).ownBlock = some g) w7 w9 := (GrowBut.below hBL).trans (GrowBut.grown hg9 (fun r e => .inl e))
        have G9r : GrowBut (fun g => (Value.slice Av k cv).ownBlock = some g) wr w9 := (GrowBut.below hB7r).trans G9
        have hMu : ∀ (W : World) g cs, W.ownsRow W0.heap.size 80 2 (.slice Av k cv) k (pwsC vk) → BlkIs W g 5 cs → ¬ (Value.slice Av k cv).ownBlock = some g := fun W g cs ho hb h => by
          obtain ⟨cur, hcur⟩ := ownG_ty ho g h
          exact BlkIs.ne_type hcur hb (by decide) rfl
        have hnew : (ps.getD k 0, A7, c7).1 = ps.getD k 0 ∧ InB w9 w9.heap.size A7 c7 (pgL (bs.getD k 0)) ∧ TyB w9 A7 := by
          have h := keepB G9 hin7 hty7 (fun g cs hb => hMu w7 g cs (ownG_grow own hB7r) hb)
          rw [HC.out]
          exact ⟨rfl, h⟩
        have hold : ∀ j (h : j < vk.length), vk[j].1 = ps.getD j 0 ∧ InB w9 w9.heap.size vk[j].2.1 vk[j].2.2 (pgL (bs.getD j 0)) ∧ TyB w9 vk[j].2.1 := fun j h => by
          obtain ⟨h1, h2, h3⟩ := hvk j h
          exact ⟨h1, keepB G9r h2 h3 (fun g cs hb => hMu wr g cs own hb)⟩
        rw [← pwsC_snoc] at own9
        refine ⟨fun _ => hB9, ?_⟩
        simp only [List.getElem_toArray, List.getElem_cons_succ, List.getElem_cons_zero, Act.put, List.setIfInBounds_toArray, List.set_cons_zero, List.set_cons_succ]
        refine RegF.one 11 (by kernel_rfl) (RegF.opV (w' := w9) v9 rfl rfl (by go_simp) ⟨fun _ => hB9, RegF.done (by kernel_rfl) ?_⟩)
        simp only [List.getElem_toArray, List.getElem_cons_succ, List.getElem_cons_zero, Act.put, List.setIfInBounds_toArray, List.set_cons_zero, List.set_cons_succ]
        obtain ⟨A9, c9, rfl, _⟩ := ownG_in own9 (pwsC_one _)
        have hall : ∀ j (h : j < (vk ++ [(ps.getD k 0, A7, c7)]).length), (vk ++ [(ps.getD k 0, A7, c7)])[j].1 = ps.getD j 0 ∧ InB w9 w9.heap.size (vk ++ [(ps.getD k 0, A7, c7)])[j].2.1 (vk ++ [(ps.getD k 0, A7, c7)])[j].2.2 (pgL (bs.getD j 0)) ∧ TyB w9 (vk ++ [(ps.getD k 0, A7, c7)])[j].2.1 := fun j h => by
          by_cases hj : j < vk.length
          · rw [List.getElem_append_left hj]
            exact hold j hj
          · have hv := HVL.out
            have hj2 : j = vk.length := by rw [List.length_append, List.length_singleton] at h; omega
            subst hj2
            rw [List.getElem_append_right (Nat.le_refl _)]
            simp only [Nat.sub_self, List.getElem_cons_zero]
            rw [hv]
            exact hnew
        clear T2 kp HPG hS0 hSr hMu G9 G9r hold hnew own own8 hin7 hty7 hinv in8
        go_wp2
        exact ⟨⟨k + 1, by omega, by simp, hB9, vk ++ [(ps.getD k 0, A7, c7)], by rw [List.length_append, HVL.out]; rfl, own9, hall⟩, by simp [intOf]; omega⟩
    · have hkn : k = ps.length := by omega
      have HVL := Lib.hid hvl
      have HKN := Lib.hid hkn
      obtain ⟨Av, cv, rfl, hin⟩ := ownG_in own (pwsC_one vk)
      clear hvl hkn hp hb br
      go_wp2
      go_ret
      have hkn := HKN.out
      subst hkn
      have hvl := HVL.out
      have hx : ∀ j (h : j < ps.length), vk.getD j (0, none, 0) = vk[j]'(by omega) := fun j h => by rw [List.getD_eq_getElem?_getD, List.getElem?_eq_getElem (by omega)]; rfl
      refine ⟨Av, cv, fun j => vk.getD j (0, none, 0), rfl, fun h1 => ?_, fun j hj => ?_, hB0.trans (hB.mono hB0.size), fun g o e => Nat.le_trans hB0.size (ownG_ge own g (by rw [e]; rfl)), fun j hj => ?_⟩
      · obtain ⟨g, o, e, hg, hr⟩ := hin.lies (by omega)
        refine ⟨g, o, e, fun j hj q v hq => ?_, hg⟩
        have hq2 : (pwC (vk[j]'(by omega)))[q]? = some v := by rw [← hx j hj]; exact hq
        have := hr (j * 2 + q) v (pwsC_get vk j (by omega) q v hq2)
        rw [show o + j * 2 + q = o + (j * 2 + q) by omega]
        exact this
      · obtain ⟨h1, h2, _⟩ := hvk j (by omega)
        simp only [hx j hj]
        exact ⟨h1.symm, by simp [pwOf, pgL], h2⟩
      · obtain ⟨_, _, h3⟩ := hvk j (by omega)
        simp only [hx j hj]
        exact h3
end Go.Proofs.YtocnabpplbeafaaGreat
/- loupelaw07: rows of acts; small. -/
namespace Go.Proofs.YtocnabpplbeafaaGreat
open Go Go.RowKit Lou

theorem rowAc7 : RowTy Tryz.prog 73 5 := ⟨⟨_, Tryz.underlying73, rfl⟩, by kernel_rfl⟩
/-- Small enough. -/
def SmallP7 (fr pg : Int) (xs : List AcV) (most : Nat) : Prop := (∀ x ∈ xs, x.ps.length ≤ 6 ∧ x.ks.length ≤ 120) ∧ planOk fr pg = true ∧ fr ≤ 5 ∧ pg ≤ 4 ∧ xs.length ≤ most
set_option maxRecDepth 100000 in
set_option maxHeartbeats 4000000 in
theorem small7_gives (w : World) (fr pg : Int) (A : Option Addr) (c : Nat) (xs : List AcV) (h : InG w w.heap.size 5 A xs.length c (acsV xs)) (hl : xs.length ≤ 9223372036854775807) (most : Nat) :
    Calls Tryz.prog 27 #[.agg #[.int .i64 fr, .int .i64 pg], .slice A xs.length c, .int .i64 (most : Int)] w (SmallR w (SmallP7 fr pg xs most)) := by
  have HF : Hid (SmallP7 fr pg xs most ↔ ((∀ x ∈ xs, x.ps.length ≤ 6 ∧ x.ks.length ≤ 120) ∧ planOk fr pg = true ∧ fr ≤ 5 ∧ pg ≤ 4 ∧ xs.length ≤ most)) := Lib.hid Iff.rfl
  generalize SmallP7 fr pg xs most = PF at *
  obtain ⟨W0, hW0⟩ : ∃ W0, W0 = w.alloc (.cells #[.int .i64 fr, .int .i64 pg] 23) := ⟨_, rfl⟩
  have hB0 : Below w.heap.size w W0 := by rw [hW0]; exact (Below.refl _ w).alloc (Nat.le_refl _) _
  have b0 : BlkIs W0 w.heap.size 23 #[.int .i64 fr, .int .i64 pg] := by rw [hW0]; exact BlkIs.new w _ _
  have h0 := h.below hB0
  go_enter Tryz.func27, Tryz.ntmps27
  go_wp2
  rw [← hW0]
  clear hW0
  go_loopw [7] (fun i wr => ∃ k : Nat, k ≤ xs.length ∧ i = .int .i64 (k : Int) ∧ Hid (∀ j, (hj : j < xs.length) → j < k → xs[j].ps.length ≤ 6 ∧ xs[j].ks.length ≤ 120) ∧ wr = W0) (fun i _ => xs.length - (intOf i).toNat)
  case atStart => exact ⟨0, by omega, rfl, Lib.hid (fun j _ h => by omega), rfl⟩
  case round =>
    obtain ⟨k, hk, rfl, HA, rfl⟩ := hrel
    by_cases hlt : k < xs.length
    · obtain ⟨g, o, rfl, hg, _⟩ := h0.lies (by omega)
      have hr := h0.elem k hlt
      rw [acsV_elem xs k hlt] at hr
      have d2 : wr.cell? ⟨g, o + k * 5 + 2, none⟩ = some (.slice xs[k].P xs[k].ps.length xs[k].pc) := hr 2 _ rfl
      have d4 : wr.cell? ⟨g, o + k * 5 + 4, none⟩ = some (.slice xs[k].K xs[k].ks.length xs[k].kc) := hr 4 _ rfl
      have hwk : IntKind.i64.wrap ((k : Int) + 1) = (k : Int) + 1 := wrap_i64_fr _ (by omega) (by omega)
      by_cases h6 : xs[k].ps.length ≤ 6
      · have h6' : ¬ (6 : Int) < (xs[k].ps.length : Int) := by omega
        by_cases h80 : xs[k].ks.length ≤ 120
        · have HN : Hid (∀ j, (hj : j < xs.length) → j < k + 1 → xs[j].ps.length ≤ 6 ∧ xs[j].ks.length ≤ 120) := Lib.hid (fun j hj h1 => by
            by_cases e : j = k
            · subst e; exact ⟨h6, h80⟩
            · exact HA.out j hj (by omega))
          have h80' : ¬ (120 : Int) < (xs[k].ks.length : Int) := by omega
          clear hr
          generalize xs[k] = x at *
          go_wp2
          exact ⟨⟨k + 1, by omega, by simp, HN, by first | rfl | trivial⟩, by simp [intOf]; omega⟩
        · have HN : Hid (¬ PF) := Lib.hid (fun hP => h80 ((HF.out.1 hP).1 _ (List.getElem_mem hlt)).2)
          have h80' : (120 : Int) < (xs[k].ks.length : Int) := by omega
          clear hr
          generalize xs[k] = x at *
          go_wp2
          go_ret
          exact SmallR.no rfl hB0 HN.out
      · have HN : Hid (¬ PF) := Lib.hid (fun hP => h6 ((HF.out.1 hP).1 _ (List.getElem_mem hlt)).1)
        have h6' : (6 : Int) < (xs[k].ps.length : Int) := by omega
        clear hr
        generalize xs[k] = x at *
        go_wp2
        go_ret
        exact SmallR.no rfl hB0 HN.out
    · obtain rfl : k = xs.length := by omega
      have HAll : Hid (∀ x ∈ xs, x.ps.length ≤ 6 ∧ x.ks.length ≤ 120) := Lib.hid (fun x hx => by
        obtain ⟨j, hj, rfl⟩ := List.getElem_of_mem hx
        exact HA.out j hj hj)
      have hR := refRight_gives (fr := fr) (pg := pg) wr
      have hP : ∀ b, planOk fr pg = b → Hid (PF ↔ (b = true ∧ fr ≤ 5 ∧ pg ≤ 4 ∧ xs.length ≤ most)) := fun b hb => Lib.hid (HF.out.trans ⟨fun h => ⟨hb ▸ h.2.1, h.2.2⟩, fun h => ⟨HAll.out, hb ▸ h.1, h.2⟩⟩)
      have hE : ∀ {w2 : World}, Below wr.heap.size wr w2 → Below w.heap.size w w2 := fun {w2} hB => hB0.trans (hB.mono hB0.size)
      generalize planOk fr pg = b at *
      have HP := hP b rfl
      clear hP HF HA h h0
      cases b
      · go_wp2_with (first
          | (refine wp_loadW rfl 23 (.tmp 3) rfl w.heap.size rfl rowPlan b0 rfl ?_)
          | (go_at_call 20; refine hR.mono ?_; rintro e w2 ⟨rfl, hB2⟩; have b2 := b0.below hB2 b0.lt; have q0 : w2.cell? ⟨w.heap.size, 0, none⟩ = some (.int .i64 fr) := (by rw [b2.cell]; rfl); have q1 : w2.cell? ⟨w.heap.size, 1, none⟩ = some (.int .i64 pg) := (by rw [b2.cell]; rfl)))
        go_ret
        exact SmallR.no rfl (hE hB2) (fun h => absurd (HP.out.1 h).1 (by decide))
      · by_cases g1 : fr ≤ 5
        · by_cases g2 : pg ≤ 4
          · by_cases g3 : xs.length ≤ most
            · have g3' : (xs.length : Int) ≤ (most : Int) := by omega
              go_wp2_with (first
                | (refine wp_loadW rfl 23 (.tmp 3) rfl w.heap.size rfl rowPlan b0 rfl ?_)
                | (go_at_call 20; refine hR.mono ?_; rintro e w2 ⟨rfl, hB2⟩; have b2 := b0.below hB2 b0.lt; have q0 : w2.cell? ⟨w.heap.size, 0, none⟩ = some (.int .i64 fr) := (by rw [b2.cell]; rfl); have q1 : w2.cell? ⟨w.heap.size, 1, none⟩ = some (.int .i64 pg) := (by rw [b2.cell]; rfl)))
              go_ret
              exact SmallR.yes (by simp [g3]) (hE hB2) (HP.out.2 (by first | exact ⟨rfl, g1, g2, g3⟩ | exact ⟨trivial, g1, g2, g3⟩ | exact ⟨g1, g2, g3⟩))
            · have g3' : ¬ (xs.length : Int) ≤ (most : Int) := by omega
              go_wp2_with (first
                | (refine wp_loadW rfl 23 (.tmp 3) rfl w.heap.size rfl rowPlan b0 rfl ?_)
                | (go_at_call 20; refine hR.mono ?_; rintro e w2 ⟨rfl, hB2⟩; have b2 := b0.below hB2 b0.lt; have q0 : w2.cell? ⟨w.heap.size, 0, none⟩ = some (.int .i64 fr) := (by rw [b2.cell]; rfl); have q1 : w2.cell? ⟨w.heap.size, 1, none⟩ = some (.int .i64 pg) := (by rw [b2.cell]; rfl)))
              go_ret
              exact SmallR.no (by simp [g3]) (hE hB2) (fun h => absurd (HP.out.1 h).2.2.2 g3)
          · go_wp2_with (first
              | (refine wp_loadW rfl 23 (.tmp 3) rfl w.heap.size rfl rowPlan b0 rfl ?_)
              | (go_at_call 20; refine hR.mono ?_; rintro e w2 ⟨rfl, hB2⟩; have b2 := b0.below hB2 b0.lt; have q0 : w2.cell? ⟨w.heap.size, 0, none⟩ = some (.int .i64 fr) := (by rw [b2.cell]; rfl); have q1 : w2.cell? ⟨w.heap.size, 1, none⟩ = some (.int .i64 pg) := (by rw [b2.cell]; rfl)))
            go_ret
            exact SmallR.no rfl (hE hB2) (fun h => absurd (HP.out.1 h).2.2.1 (by omega))
        · go_wp2_with (first
            | (refine wp_loadW rfl 23 (.tmp 3) rfl w.heap.size rfl rowPlan b0 rfl ?_)
            | (go_at_call 20; refine hR.mono ?_; rintro e w2 ⟨rfl, hB2⟩; have b2 := b0.below hB2 b0.lt; have q0 : w2.cell? ⟨w.heap.size, 0, none⟩ = some (.int .i64 fr) := (by rw [b2.cell]; rfl); have q1 : w2.cell? ⟨w.heap.size, 1, none⟩ = some (.int .i64 pg) := (by rw [b2.cell]; rfl)))
          go_ret
          exact SmallR.no rfl (hE hB2) (fun h => absurd (HP.out.1 h).2.1 (by omega))
end Go.Proofs.YtocnabpplbeafaaGreat
/- loupelaw05.FramePlaces: the walk. -/
namespace Go.Proofs.YtocnabpplbeafaaGreat
open Go Go.RowKit Lou

section
variable (fr pg n : Int)
set_option maxRecDepth 100000 in
set_option maxHeartbeats 1000000 in
theorem refSectors_gives (w : World) (h1 : 1 ≤ fr ∧ fr ≤ 2000) (h2 : 1 ≤ pg ∧ pg ≤ 2000) : Calls Tryz.prog 10 #[.agg #[.int .i64 fr, .int .i64 pg]] w fun e w' => e = .returned (.int .i64 (2 + 9 * fr + 8 * pg)) ∧ Below w.heap.size w w' := by
  have e1 : IntKind.i64.wrap (9 * fr) = 9 * fr := wrap_i64_fr _ (by omega) (by omega)
  have e2 : IntKind.i64.wrap (2 + 9 * fr) = 2 + 9 * fr := wrap_i64_fr _ (by omega) (by omega)
  have e3 : IntKind.i64.wrap (8 * pg) = 8 * pg := wrap_i64_fr _ (by omega) (by omega)
  have e4 : IntKind.i64.wrap (2 + 9 * fr + 8 * pg) = 2 + 9 * fr + 8 * pg := wrap_i64_fr _ (by omega) (by omega)
  go_enter Tryz.func10, Tryz.ntmps10
  go_wp2
  go_ret
  exact ⟨rfl, (Below.refl _ _).alloc (Nat.le_refl _) _⟩
end
def planV (fr pg : Int) : Value := .agg #[.int .i64 fr, .int .i64 pg]
end Go.Proofs.YtocnabpplbeafaaGreat
/- Drawn regions walked by hand: operations whose guard is met. -/
namespace Go.Proofs.YtocnabpplbeafaaGreat
open Go Go.RowKit Lou
namespace RegF
section
variable {P : Program} {ops : Array Oper} {Q : Exit → Act → World → Prop} {S : World → Prop}
theorem yldG {o : Oper} {v : Value} {a : Act} (hw : Region.wanted o (yielded ops a.tmps) = true) (h : ∀ w, S w → (execOp a.eval o).run P w = .ok (.value v) w) : YieldsIf P ops S o v a := .inl ⟨hw, h⟩
theorem opVg {i : Nat} {o : Oper} {K : Act → World → Prop} {a : Act} {w w' : World} (v : Value) (ho : ops[i]? = some o) (hw : Region.wanted o (yielded ops a.tmps) = true) (hr : (execOp a.eval o).run P w = .ok (.value v) w') (h : K (a.put o.dst v) w') : wpOp P ops Q i K a w := by
  unfold wpOp
  simp only [ho]
  rw [if_pos hw]
  left
  unfold Oper.wp
  rw [hr]
  exact h
theorem opCg {i : Nat} {o : Oper} {K : Act → World → Prop} {a : Act} {w : World} (f : FuncId) (xs : Array Operand) (ts : Array TypeId) (ho : ops[i]? = some o) (hw : Region.wanted o (yielded ops a.tmps) = true) (hc : o.op = .call { callee := .value (.func f), args := xs, argTypes := ts })
    (hent : ∀ args w, (callFunc f args).run P w = .ok (.enter f args) w) (args : Array Value) (ha : xs.map a.eval = args) (h : Calls P f args w fun e w' => ∃ v, e = .returned v ∧ K (a.put o.dst v) w') : wpOp P ops Q i K a w := by
  unfold wpOp
  simp only [ho]
  rw [if_pos hw]
  left
  have hr : (execOp a.eval o).run P w = .ok (.enter f args) w := by
    have ef : a.eval (.func f) = .func (.func f) #[] #[] := rfl
    simp [execOp, hc, resolve, ha, ef, Deferred.ofValue, invoke, hent args w]
  unfold Oper.wp
  rw [hr, Oper.upon_enter]
  refine h.mono ?_
  rintro e w' ⟨v, rfl, hK⟩
  exact hK
end
end RegF
end Go.Proofs.YtocnabpplbeafaaGreat
/- From a row's own reading of acts (loupelaw06) that came in to their parts. -/
namespace Go.Proofs.YtocnabpplbeafaaGreat
open Go Lou Go.ChangeShapes Go.WideShapes Go.ChangeAt Go.RowKit

theorem flat_getC {α : Type} {C : α → List Value} {sz : Nat} (hC : ∀ x, (C x).length = sz) : ∀ (s : List α) (j : Nat) (v : Value), ((s.map C).flatten)[j]? = some v → ∃ i q, ∃ hi : i < s.length, j = i * sz + q ∧ q < sz ∧ (C s[i])[q]? = some v
  | [], j, v, h => by simp at h
  | x :: s, j, v, h => by
    have e : ((x :: s).map C).flatten = C x ++ (s.map C).flatten := rfl
    rw [e] at h
    by_cases hj : j < (C x).length
    · rw [List.getElem?_append_left hj] at h
      exact ⟨0, j, by simp, by omega, by rw [← hC x]; exact hj, by simpa using h⟩
    · rw [List.getElem?_append_right (by omega)] at h
      obtain ⟨i, q, hi, e1, hq, e2⟩ := flat_getC hC s _ v h
      rw [hC] at e1 hj
      refine ⟨i + 1, q, by simpa using hi, ?_, hq, by simpa using e2⟩
      rw [Nat.succ_mul]
      omega
section
variable {H : Type} {enc : TypeId × Value → H} {W : World} {r : Reach} {b0 b1 : Nat} {held : Bool} {v : Value} {d : DataW H} {p : List MemPlace}
set_option maxRecDepth 100000 in
/-- A row of elements of sz cells each. -/
theorem one_rowC {α : Type} [Inhabited α] (C : α → List Value) {sz : Nat} (hz : 0 < sz) (hC : ∀ x, (C x).length = sz) (h1 : ∀ x, ∀ v ∈ C x, v.oneCell' = true) {T E : TypeId} (hT : Tryz.prog.underlying T = some (.slice E)) (hE : Tryz.prog.cellsOf E = sz)
    (hel : ∀ (n : Nat) (cs : List Value) (x : DataW H × List MemPlace), cs.length = sz → DataW.trod enc Tryz.prog W b1 (fun _ => true) held n E cs = some x → ∃ y : α, cs = C y)
    {n : Nat} {c : Value} {x : DataW H × List MemPlace} (h : DataW.trod enc Tryz.prog W b1 (fun _ => true) held n T [c] = some x) : ∃ A k, ∃ s : List α, c = .slice A s.length k ∧ InG W W.heap.size sz A s.length k ((s.map C).flatten) ∧ (s = [] ∨ ∃ elems sp, x.1 = .slice elems sp ∧ elems.length = s.length) := by
  rcases Go.Deep.open_slice hT h with ⟨hcs, _⟩ | ⟨a, len, cap, m, n', D, Pl, hcs, hb, hl, hm, hmm, hxd, hx⟩
  · simp at hcs
    exact ⟨none, 0, [], hcs, InG.mt _ _ _, .inl rfl⟩
  · simp at hcs
    simp only [if_true] at hmm
    subst hmm
    rw [hE] at hx
    obtain ⟨B, hB⟩ := Go.Deep.choose_lt (α := α) (p := fun i y => ∀ j (hj : j < (C y).length), W.cell? ((a.add (i * sz)).add j) = some (C y)[j]) (fun i hi => by
      obtain ⟨cs', h3, h4⟩ := hx i hi
      obtain ⟨_, hlen, hcell⟩ := World.cells?_some h3
      obtain ⟨y, rfl⟩ := hel _ _ _ hlen h4
      exact ⟨y, fun j hj => (hcell j (by omega)).trans (List.getElem?_eq_getElem hj)⟩)
    refine ⟨some a, m, (List.range len).map B, by simpa using hcs, ?_⟩
    have hln : ((List.range len).map B).length = len := by simp
    refine ⟨?_, .inr ⟨_, _, congrArg Prod.fst hxd, by simp⟩⟩
    refine ⟨by rw [hln]; exact hl, by unfold maxLen at hm; omega, (fun e => by cases e), ?_, ?_, fun h0 => ?_⟩
    · rw [List.length_flatten, List.map_map, hln]
      have : (List.map (List.length ∘ C) ((List.range len).map B)) = List.replicate len sz := by
        rw [List.eq_replicate_iff]
        refine ⟨by simp, fun b hb => ?_⟩
        obtain ⟨y, _, rfl⟩ := List.mem_map.1 hb
        exact hC y
      rw [this, List.sum_replicate_nat]
    · intro v hv
      obtain ⟨l, hl', hv⟩ := List.mem_flatten.1 hv
      obtain ⟨y, _, rfl⟩ := List.mem_map.1 hl'
      exact h1 y v hv
    · rw [hln] at h0
      obtain ⟨b, off, spot⟩ := a
      have hc0 := hB 0 (by omega) 0 (by rw [hC]; exact hz)
      have hspot : spot = none := by simpa [Addr.add] using World.cell?_spot hc0
      subst hspot
      have hbl : b < W.heap.size := by simpa [Addr.add] using cell_block_lt hc0
      refine ⟨b, off, rfl, hbl, fun j v hj => ?_⟩
      obtain ⟨i, q, hi, rfl, hq, e⟩ := flat_getC hC _ j v hj
      have hi' := hi
      rw [hln] at hi'
      have hg : ((List.range len).map B)[i] = B i := by simp
      rw [hg] at e
      obtain ⟨hq2, e⟩ := List.getElem?_eq_some_iff.1 e
      have := hB i (by omega) q hq2
      rw [Addr.add_mid, Addr.add_mid, e] at this
      rw [← Nat.add_assoc]
      exact this
theorem flat_oneC {α : Type} (f : α → Value) : ∀ s : List α, (s.map fun x => [f x]).flatten = s.map f
  | [] => rfl
  | x :: s => by
    have e : ((x :: s).map fun x => [f x]).flatten = f x :: (s.map fun x => [f x]).flatten := rfl
    rw [e, flat_oneC f s]
    rfl
set_option maxRecDepth 100000 in
theorem row_truths {n : Nat} {c : Value} {x : DataW H × List MemPlace} (h : DataW.trod enc Tryz.prog W b1 (fun _ => true) held n 39 [c] = some x) : ∃ A k, ∃ s : List Bool, c = .slice A s.length k ∧ InG W W.heap.size 1 A s.length k (s.map Value.bool) := by
  have hc : Tryz.prog.cellsOf 4 = 1 := by kernel_rfl
  obtain ⟨A, k, s, e, hin, _⟩ := one_rowC (α := Bool) (fun x => [Value.bool x]) (by decide) (fun _ => rfl) (fun x v hv => by simp at hv; subst hv; rfl) Tryz.underlying39 hc (fun n cs x hl ht => by
    obtain ⟨s, g, _⟩ := DataW.trod_bool Tryz.underlying4 ht
    exact ⟨s, g⟩) h
  rw [flat_oneC] at hin
  exact ⟨A, k, s, e, hin⟩
theorem InG.toB {W : World} {B : Nat} {A : Option Addr} {c : Nat} {l : List UInt8} (h : InG W B 1 A l.length c (l.map fun b => Value.int .u8 (b.toNat : Int))) : InB W B A c l :=
  ⟨h.le, h.max, h.nil, fun h0 => by
    obtain ⟨g, o, e, hg, hr⟩ := h.lies h0
    exact ⟨g, o, e, hg, fun j hj => hr j _ (by rw [List.getElem?_map, List.getElem?_eq_getElem hj]; rfl)⟩⟩
set_option maxRecDepth 100000 in
theorem row_ints {n : Nat} {c : Value} {x : DataW H × List MemPlace} (h : DataW.trod enc Tryz.prog W b1 (fun _ => true) held n 37 [c] = some x) : ∃ A k, ∃ s : List Int, c = .slice A s.length k ∧ InG W W.heap.size 1 A s.length k (s.map (Value.int .i64)) := by
  have hc : Tryz.prog.cellsOf 3 = 1 := by kernel_rfl
  obtain ⟨A, k, s, e, hin, _⟩ := one_rowC (α := Int) (fun x => [Value.int .i64 x]) (by decide) (fun _ => rfl) (fun x v hv => by simp at hv; subst hv; rfl) Tryz.underlying37 hc (fun n cs x hl ht => by
    obtain ⟨s, g, _, _⟩ := DataW.trod_int Tryz.underlying3 ht
    exact ⟨s, g⟩) h
  rw [flat_oneC] at hin
  exact ⟨A, k, s, e, hin⟩
set_option maxRecDepth 100000 in
theorem row_bytes6 {n : Nat} {c : Value} {x : DataW H × List MemPlace} (h : DataW.trod enc Tryz.prog W b1 (fun _ => true) held n 38 [c] = some x) : ∃ A k, ∃ s : List UInt8, c = .slice A s.length k ∧ InB W W.heap.size A k s := by
  have hc : Tryz.prog.cellsOf 5 = 1 := by kernel_rfl
  obtain ⟨A, k, s, e, hin, _⟩ := one_rowC (α := UInt8) (fun x => [Value.int .u8 (x.toNat : Int)]) (by decide) (fun _ => rfl) (fun x v hv => by simp at hv; subst hv; rfl) Tryz.underlying38 hc (fun n cs x hl ht => by
    obtain ⟨s, g, _, w⟩ := DataW.trod_int Tryz.underlying5 ht
    have hu := u8_wf w
    refine ⟨UInt8.ofNat s.toNat, ?_⟩
    rw [g]
    congr 2
    simp
    omega) h
  rw [flat_oneC] at hin
  exact ⟨A, k, s, e, hin.toB⟩
instance {W : World} : Inhabited { x : AcV // AcIs W W.heap.size x } := ⟨⟨⟨0, 0, [], none, 0, [], none, 0, [], none, 0⟩, InG.mt _ _ _, InB.mt _ _, InG.mt _ _ _⟩⟩
end
end Go.Proofs.YtocnabpplbeafaaGreat
/- From a row's own reading of acts (loupelaw07) that came in to their parts. -/
namespace Go.Proofs.YtocnabpplbeafaaGreat
open Go Lou Go.ChangeShapes Go.WideShapes Go.ChangeAt Go.RowKit

section
variable {H : Type} {enc : TypeId × Value → H} {W : World} {r : Reach} {b0 b1 : Nat} {held : Bool} {v : Value} {d : DataW H} {p : List MemPlace}
set_option maxRecDepth 100000 in
theorem ac7_of {n : Nat} {cs : List Value} {x : DataW H × List MemPlace} (hl : cs.length = 5) (h : DataW.trod enc Tryz.prog W b1 (fun _ => true) held n 73 cs = some x) : ∃ y : { x : AcV // AcIs W W.heap.size x }, cs = acC y.1 := by
  have h1i : Tryz.prog.cellsOf 3 = 1 := by kernel_rfl
  have h1p : Tryz.prog.cellsOf 37 = 1 := by kernel_rfl
  have h1u : Tryz.prog.cellsOf 38 = 1 := by kernel_rfl
  have h1b : Tryz.prog.cellsOf 39 = 1 := by kernel_rfl
  obtain ⟨xs, m, _, _, _, hlx, hi⟩ := DataW.trod_struct Tryz.underlying73 h
  match cs, hl with
  | [c0, c1, c2, c3, c4], _ =>
    have hx5 : xs.length = 5 := hlx
    have e0 := hi 0 _ rfl
    have e1 := hi 1 _ rfl
    have e2 := hi 2 _ rfl
    have e3 := hi 3 _ rfl
    have e4 := hi 4 _ rfl
    rw [List.getElem?_eq_getElem (by omega)] at e0 e1 e2 e3 e4
    obtain ⟨z0, g0, _, _⟩ := DataW.trod_int Tryz.underlying3 e0
    obtain ⟨z1, g1, _, _⟩ := DataW.trod_int Tryz.underlying3 e1
    replace e2 : DataW.trod enc Tryz.prog W b1 (fun _ => true) held m 37 (([c0, c1, c2, c3, c4].drop 2).take (Tryz.prog.cellsOf 37)) = _ := e2
    rw [h1p] at e2
    obtain ⟨A2, k2, s2, g2, hin2⟩ := row_ints (show DataW.trod enc Tryz.prog W b1 (fun _ => true) held m 37 [c2] = _ from e2)
    replace e3 : DataW.trod enc Tryz.prog W b1 (fun _ => true) held m 38 (([c0, c1, c2, c3, c4].drop 3).take (Tryz.prog.cellsOf 38)) = _ := e3
    rw [h1u] at e3
    obtain ⟨A3, k3, s3, g3, hin3⟩ := row_bytes6 (show DataW.trod enc Tryz.prog W b1 (fun _ => true) held m 38 [c3] = _ from e3)
    replace e4 : DataW.trod enc Tryz.prog W b1 (fun _ => true) held m 39 (([c0, c1, c2, c3, c4].drop 4).take (Tryz.prog.cellsOf 39)) = _ := e4
    rw [h1b] at e4
    obtain ⟨A4, k4, s4, g4, hin4⟩ := row_truths (show DataW.trod enc Tryz.prog W b1 (fun _ => true) held m 39 [c4] = _ from e4)
    replace g0 : ([c0, c1, c2, c3, c4].drop 0).take (Tryz.prog.cellsOf 3) = _ := g0
    replace g1 : ([c0, c1, c2, c3, c4].drop 1).take (Tryz.prog.cellsOf 3) = _ := g1
    rw [h1i] at g0 g1
    simp at g0 g1
    subst g0 g1 g2 g3 g4
    exact ⟨⟨⟨z0, z1, s2, A2, k2, s3, A3, k3, s4, A4, k4⟩, hin2, hin3, hin4⟩, rfl⟩
set_option maxRecDepth 100000 in
theorem open_acts7 (hval : Value.okWide Tryz.prog W r b0 68 v) (h : DataW.Trod enc Tryz.prog W b1 (fun _ => true) held 68 v d p) : ∃ (A : Option Addr) (k : Nat) (xs : List AcV), v = .slice A xs.length k ∧ InG W W.heap.size 5 A xs.length k (acsV xs) ∧ (∀ x ∈ xs, AcIs W W.heap.size x) := by
  obtain ⟨A, n, k, rfl⟩ := okWide_slice Tryz.underlying68 hval
  obtain ⟨fuel, hf⟩ := h
  have hc : Tryz.prog.cellsOf 73 = 5 := by kernel_rfl
  obtain ⟨A', k', s, e, hin, _⟩ := one_rowC (α := { x : AcV // AcIs W W.heap.size x }) (fun x => acC x.1) (by decide) (fun _ => rfl) (fun x => acC_one x.1) Tryz.underlying68 hc (fun n cs x hl ht => ac7_of hl ht) (show DataW.trod enc Tryz.prog W b1 (fun _ => true) held fuel 68 [.slice A n k] = _ from hf)
  refine ⟨A', k', s.map (·.1), by rw [List.length_map]; exact e, ?_, fun x hx => ?_⟩
  · rw [List.length_map]
    unfold acsV
    rw [List.map_map]
    exact hin
  · obtain ⟨y, _, rfl⟩ := List.mem_map.1 hx
    exact y.2
end
end Go.Proofs.YtocnabpplbeafaaGreat
