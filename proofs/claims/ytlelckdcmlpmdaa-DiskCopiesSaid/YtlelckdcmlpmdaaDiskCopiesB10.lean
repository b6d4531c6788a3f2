/- Texts that the proof of DiskCopies leans on, part 10. -/
import Derived.Test.YtlelckdcmlpmdaaDiskCopiesB9
/- loupelaw04.act: a write that is carried out. -/
namespace Go.Proofs.Ytlelckdcmlpmdaa
open Go Go.RowKit Lou

theorem rwE_ok {many : Nat} {k : Nat} {L : Int} {n : Nat} (h : rwE (many : Int) (k : Int) L n = 0) : n = 64 ∧ k < many ∧ ¬ L = 0 := by
  unfold rwE at h
  by_cases h1 : n = 64
  · rw [if_neg (by omega)] at h
    by_cases h2 : (k : Int) < 0 ∨ (many : Int) ≤ (k : Int)
    · rw [if_pos h2] at h; cases h
    · rw [if_neg h2] at h
      by_cases h3 : L = 0
      · rw [if_pos h3] at h; cases h
      · exact ⟨h1, by omega, h3⟩
  · rw [if_pos h1] at h; cases h
theorem relL_lo {stops : Bool} {left : Int} (h : -1000000 ≤ left) : -1000000 ≤ relL stops left := by unfold relL; split <;> omega
theorem relL_hi {stops : Bool} {left : Int} (h : left ≤ 9223372036854775807) : relL stops left ≤ 9223372036854775807 := by unfold relL; split <;> omega
set_option maxRecDepth 100000 in
set_option maxHeartbeats 8000000 in
theorem act_wok0 (w : World) (p many : Nat) (sy ls : List (Nat × List UInt8)) (left : Int) (stops : Bool) (As : Option Addr) (cs : Nat) (Al : Option Addr) (cl : Nat) (at_ n : Int) (b : UInt8) (keep : List Bool) (K : Option Addr) (kc : Nat) (hD : DkIs w p many (gOf sy) ls left stops) (hR : RIs w w.heap.size sy ls As cs Al cl) (hok : StOk many ⟨sy, ls, left, stops⟩) (hn1 : sy.length ≤ 400000) (hn2 : ls.length ≤ 400000) (k : Nat) (hk : at_ = (k : Int)) (hE : rwE (many : Int) (k : Int) (relL stops left) (bytesOf (⟨0, at_, n, b, keep, K, kc⟩ : ActV)).length = 0) :
    Calls Try.prog 83 #[.pointer (some ⟨p, 0, none⟩), VAL (many : Int) As sy.length cs Al ls.length cl (relL stops left), .agg #[.int .i64 0, .int .i64 at_, .int .i64 n, .int .u8 (b.toNat : Int), .slice K keep.length kc]] w (ActOut w p many ⟨sy, ls ++ [(k, bytesOf (⟨0, at_, n, b, keep, K, kc⟩ : ActV))], lft stops left, stops⟩) := by
  subst hk
  obtain ⟨h64, hkm, hL0⟩ := rwE_ok hE
  have hs0 : (stops && left == 0) = false := by rw [relL_stopped]; exact decide_eq_false hL0
  have hL := relL_lft hok.pos hL0
  unfold ActOut VAL
  simp only
  rw [hL]
  obtain ⟨b1, b2, b3, b4, hB1⟩ := acW_is w #[.int .i64 (many : Int), .slice As sy.length cs, .slice Al ls.length cl, .int .i64 (relL stops left)] #[.int .i64 0, .int .i64 (k : Int), .int .i64 n, .int .u8 (b.toNat : Int), .slice K keep.length kc]
  have bl0 := ((BlkIs.new w 141 #[.int .i64 (many : Int), .slice As sy.length cs, .slice Al ls.length cl, .int .i64 (relL stops left)]).alloc (.cells #[.int .i64 0, .int .i64 (k : Int), .int .i64 n, .int .u8 (b.toNat : Int), .slice K keep.length kc] 136)).alloc (.cells #[.int .i64 0, .slice none 0 0, .slice none 0 0, .int .i64 0] 141)
  have bs0 := BlkIs.new (((w.alloc (.cells #[.int .i64 (many : Int), .slice As sy.length cs, .slice Al ls.length cl, .int .i64 (relL stops left)] 141)).alloc (.cells #[.int .i64 0, .int .i64 (k : Int), .int .i64 n, .int .u8 (b.toNat : Int), .slice K keep.length kc] 136)).alloc (.cells #[.int .i64 0, .slice none 0 0, .slice none 0 0, .int .i64 0] 141)) 141 #[.int .i64 0, .slice none 0 0, .slice none 0 0, .int .i64 0]
  simp only [World.size_alloc] at bs0
  obtain ⟨W1, hW1⟩ : ∃ W, W = acW w #[.int .i64 (many : Int), .slice As sy.length cs, .slice Al ls.length cl, .int .i64 (relL stops left)] #[.int .i64 0, .int .i64 (k : Int), .int .i64 n, .int .u8 (b.toNat : Int), .slice K keep.length kc] := ⟨_, rfl⟩
  rw [← hW1] at b1 b2 b3 b4 hB1
  unfold acW zeroR at hW1
  have HW1 := Lib.hid hW1
  have hp := hD.lt
  clear hW1
  have x0 : W1.cell? ⟨w.heap.size + 1, 0, none⟩ = some (.int .i64 0) := by rw [b2.cell]; rfl
  have D1 := hD.grow hB1
  have R1 := hR.grow hB1
  have H64 := Lib.hid h64
  have HEz := Lib.hid hE
  have HS0 := Lib.hid hs0
  clear h64 hE hL hL0 hs0
  go_enter Try.func83, Try.ntmps83
  go_upto_region 2 with (first
    | (refine wp_loadW rfl 141 (.tmp 4) rfl w.heap.size rfl rowRDisk bl0 (by rfl) ?_)
    | (refine wp_storeW rfl 141 (.tmp 9) (.tmp 16) rfl (w.heap.size + 1 + 1 + 1) rfl rfl rowRDisk bs0 (by rfl) (by rfl) (four_oneR rfl rfl rfl rfl) ?_))
  rw [← HW1.out]
  clear HW1 bl0 bs0
  go_wp2
  refine RegF.start (fun W => BlkIs W w.heap.size 141 #[.int .i64 (many : Int), .slice As sy.length cs, .slice Al ls.length cl, .int .i64 (relL stops left)] ∧ BlkIs W (w.heap.size + 1) 136 #[.int .i64 0, .int .i64 (k : Int), .int .i64 n, .int .u8 (b.toNat : Int), .slice K keep.length kc]) 99 (by kernel_rfl) ?_
  have hSd : BlkIs W1.drew w.heap.size 141 #[.int .i64 (many : Int), .slice As sy.length cs, .slice Al ls.length cl, .int .i64 (relL stops left)] ∧ BlkIs W1.drew (w.heap.size + 1) 136 #[.int .i64 0, .int .i64 (k : Int), .int .i64 n, .int .u8 (b.toNat : Int), .slice K keep.length kc] := ⟨b1, b2⟩
  refine RegF.take0 0 (.pointer (some ⟨p, 0, none⟩)) rfl (by kernel_rfl) (by kernel_rfl) (by kernel_rfl) rfl (fun _ _ _ h => h) hSd (RegF.yld rfl (fun W hW => by go_simp)) ?_
  simp only [List.getElem_toArray, List.getElem_cons_zero, Act.put, List.setIfInBounds_toArray, List.set_cons_zero, List.set_cons_succ]
  refine RegF.take0 1 (.pointer (some ⟨w.heap.size + 1, 1, none⟩)) rfl (by kernel_rfl) (by kernel_rfl) (by kernel_rfl) rfl (fun _ _ _ h => h) hSd (RegF.yld rfl (fun W hW => by go_simp)) ?_
  simp only [List.getElem_toArray, List.getElem_cons_succ, List.getElem_cons_zero, Act.put, List.setIfInBounds_toArray, List.set_cons_zero, List.set_cons_succ]
  refine RegF.take0 2 (.int .i64 (k : Int)) rfl (by kernel_rfl) (by kernel_rfl) (by kernel_rfl) rfl (fun _ _ _ h => h) hSd (RegF.yld rfl (fun W hW => by have e : W.cell? ⟨w.heap.size + 1, 1, none⟩ = _ := hW.2.cell 1; go_simp)) ?_
  simp only [List.getElem_toArray, List.getElem_cons_succ, List.getElem_cons_zero, Act.put, List.setIfInBounds_toArray, List.set_cons_zero, List.set_cons_succ]
  refine RegF.take0 3 (.agg #[.int .i64 0, .int .i64 (k : Int), .int .i64 n, .int .u8 (b.toNat : Int), .slice K keep.length kc]) rfl (by kernel_rfl) (by kernel_rfl) (by kernel_rfl) rfl (fun _ _ _ h => h) hSd (RegF.yld rfl (fun W hW => by exact x_loadM rowAct hW.2.range rfl rfl rfl)) ?_
  simp only [List.getElem_toArray, List.getElem_cons_succ, List.getElem_cons_zero, Act.put, List.setIfInBounds_toArray, List.set_cons_zero, List.set_cons_succ]
  refine RegF.one 4 (by kernel_rfl) ?_
  refine RegF.opC 144 #[.tmp 29] #[136] rfl rfl rfl (enters_of Try.func144 (by kernel_rfl) rfl) #[.agg #[.int .i64 0, .int .i64 (k : Int), .int .i64 n, .int .u8 (b.toNat : Int), .slice K keep.length kc]] (by simp only [List.map_toArray, List.map_cons, List.map_nil]; rfl) ((bytes4_gives W1.drew (⟨0, (k : Int), n, b, keep, K, kc⟩ : ActV)).mono ?_)
  rintro e w5 ⟨A5, c5, rfl, in5, hB5⟩
  have hB5 : Below W1.heap.size W1 w5 := (Below.refl _ W1).drew.trans hB5
  have b15 := b1.below hB5 b1.lt
  have b25 := b2.below hB5 b2.lt
  have b35 := b3.below hB5 b3.lt
  have b45 := b4.below hB5 b4.lt
  have D5 := D1.grow hB5
  have R5 := R1.grow hB5
  have hB05 := hB1.trans (hB5.mono hB1.size)
  refine ⟨_, rfl, fun _ => ⟨b15, b25⟩, ?_⟩
  simp only [List.getElem_toArray, List.getElem_cons_succ, List.getElem_cons_zero, Act.put, List.setIfInBounds_toArray, List.set_cons_zero, List.set_cons_succ]
  have HWr : Calls Try.prog 21 #[.pointer (some ⟨p, 0, none⟩), .int .i64 (k : Int), .slice A5 (bytesOf (⟨0, (k : Int), n, b, keep, K, kc⟩ : ActV)).length c5] w5 fun e w' => e = .returned (.int .i64 0) ∧ DkIs w' p many (gOf sy) (ls ++ [(k, (bytesOf (⟨0, (k : Int), n, b, keep, K, kc⟩ : ActV)))]) (lft stops left) stops ∧ w5.grownBy w' (some p) := by
    rw [H64.out]
    exact (write_ok w5 p many (gOf sy) ls left stops D5 HS0.out k hkm A5 c5 (bytesOf (⟨0, (k : Int), n, b, keep, K, kc⟩ : ActV)) H64.out in5 (by omega) hok.lo hok.hi).mono fun e w' h => ⟨h.1, h.2.1, h.2.2.1⟩
  refine RegF.one 5 (by kernel_rfl) ?_
  refine RegF.opC 21 #[.tmp 26, .tmp 28, .tmp 30] #[26, 3, 30] rfl rfl rfl (enters_of Try.func21 (by kernel_rfl) rfl) #[.pointer (some ⟨p, 0, none⟩), .int .i64 (k : Int), .slice A5 (bytesOf (⟨0, (k : Int), n, b, keep, K, kc⟩ : ActV)).length c5] (by simp only [List.map_toArray, List.map_cons, List.map_nil]; rfl) ((HWr).mono ?_)
  rintro e w6 ⟨rfl, D6, hg6⟩
  have b16 := b15.grown hg6 (fun e => by injection e with e; omega)
  have b26 := b25.grown hg6 (fun e => by injection e with e; omega)
  have b36 := b35.grown hg6 (fun e => by injection e with e; omega)
  have b46 := b45.grown hg6 (fun e => by injection e with e; omega)
  have R6 := R5.past D5 hg6
  have GG6 := grownBy_trans (below_grownBy hB05 p) hg6
  refine ⟨_, rfl, fun _ => ⟨b16, b26⟩, ?_⟩
  simp only [List.getElem_toArray, List.getElem_cons_succ, List.getElem_cons_zero, Act.put, List.setIfInBounds_toArray, List.set_cons_zero, List.set_cons_succ]
  refine RegF.one 6 (by kernel_rfl) ?_
  refine RegF.opV (w' := w6) (.int .i64 0) rfl rfl (by go_simp) ⟨fun _ => ⟨b16, b26⟩, ?_⟩
  simp only [List.getElem_toArray, List.getElem_cons_succ, List.getElem_cons_zero, Act.put, List.setIfInBounds_toArray, List.set_cons_zero, List.set_cons_succ]
  refine RegF.done (by kernel_rfl) ?_
  clear hSd b15 b25 b35 b45 D5 R5 hB05 b1 b2 b3 b4 D1 R1 hB1 hB5 hg6 in5 HWr
  go_wp2
  refine RegF.start (fun W => BlkIs W w.heap.size 141 #[.int .i64 (many : Int), .slice As sy.length cs, .slice Al ls.length cl, .int .i64 (relL stops left)] ∧ BlkIs W (w.heap.size + 1) 136 #[.int .i64 0, .int .i64 (k : Int), .int .i64 n, .int .u8 (b.toNat : Int), .slice K keep.length kc]) 99 (by kernel_rfl) ?_
  have hSd : BlkIs w6.drew w.heap.size 141 #[.int .i64 (many : Int), .slice As sy.length cs, .slice Al ls.length cl, .int .i64 (relL stops left)] ∧ BlkIs w6.drew (w.heap.size + 1) 136 #[.int .i64 0, .int .i64 (k : Int), .int .i64 n, .int .u8 (b.toNat : Int), .slice K keep.length kc] := ⟨b16, b26⟩
  refine RegF.take0 0 (.agg #[.int .i64 (many : Int), .slice As sy.length cs, .slice Al ls.length cl, .int .i64 (relL stops left)]) rfl (by kernel_rfl) (by kernel_rfl) (by kernel_rfl) rfl (fun _ _ _ h => h) hSd (RegF.yld rfl (fun W hW => by exact x_loadM rowRDisk hW.1.range rfl rfl rfl)) ?_
  simp only [List.getElem_toArray, List.getElem_cons_zero, Act.put, List.setIfInBounds_toArray, List.set_cons_zero, List.set_cons_succ]
  refine RegF.take0 1 (.pointer (some ⟨w.heap.size + 1, 1, none⟩)) rfl (by kernel_rfl) (by kernel_rfl) (by kernel_rfl) rfl (fun _ _ _ h => h) hSd (RegF.yld rfl (fun W hW => by go_simp)) ?_
  simp only [List.getElem_toArray, List.getElem_cons_succ, List.getElem_cons_zero, Act.put, List.setIfInBounds_toArray, List.set_cons_zero, List.set_cons_succ]
  refine RegF.take0 2 (.int .i64 (k : Int)) rfl (by kernel_rfl) (by kernel_rfl) (by kernel_rfl) rfl (fun _ _ _ h => h) hSd (RegF.yld rfl (fun W hW => by have e : W.cell? ⟨w.heap.size + 1, 1, none⟩ = _ := hW.2.cell 1; go_simp)) ?_
  simp only [List.getElem_toArray, List.getElem_cons_succ, List.getElem_cons_zero, Act.put, List.setIfInBounds_toArray, List.set_cons_zero, List.set_cons_succ]
  refine RegF.take0 3 (.agg #[.int .i64 0, .int .i64 (k : Int), .int .i64 n, .int .u8 (b.toNat : Int), .slice K keep.length kc]) rfl (by kernel_rfl) (by kernel_rfl) (by kernel_rfl) rfl (fun _ _ _ h => h) hSd (RegF.yld rfl (fun W hW => by exact x_loadM rowAct hW.2.range rfl rfl rfl)) ?_
  simp only [List.getElem_toArray, List.getElem_cons_succ, List.getElem_cons_zero, Act.put, List.setIfInBounds_toArray, List.set_cons_zero, List.set_cons_succ]
  refine RegF.one 4 (by kernel_rfl) ?_
  refine RegF.opC 144 #[.tmp 36] #[136] rfl rfl rfl (enters_of Try.func144 (by kernel_rfl) rfl) #[.agg #[.int .i64 0, .int .i64 (k : Int), .int .i64 n, .int .u8 (b.toNat : Int), .slice K keep.length kc]] (by simp only [List.map_toArray, List.map_cons, List.map_nil]; rfl) ((bytes4_gives w6.drew (⟨0, (k : Int), n, b, keep, K, kc⟩ : ActV)).mono ?_)
  rintro e w7 ⟨A7, c7, rfl, in7, hB7⟩
  have hB7 : Below w6.heap.size w6 w7 := (Below.refl _ w6).drew.trans hB7
  have b17 := b16.below hB7 b16.lt
  have b27 := b26.below hB7 b26.lt
  have b37 := b36.below hB7 b36.lt
  have b47 := b46.below hB7 b46.lt
  have D7 := D6.grow hB7
  have R7 := R6.grow hB7
  have GG7 := grownBy_trans GG6 (below_grownBy hB7 p)
  refine ⟨_, rfl, fun _ => ⟨b17, b27⟩, ?_⟩
  simp only [List.getElem_toArray, List.getElem_cons_succ, List.getElem_cons_zero, Act.put, List.setIfInBounds_toArray, List.set_cons_zero, List.set_cons_succ]
  refine RegF.one 5 (by kernel_rfl) ?_
  refine RegF.opV (w' := w7) (.string (str (bytesOf (⟨0, (k : Int), n, b, keep, K, kc⟩ : ActV)))) rfl rfl (by exact x_convB rfl rfl in7) ⟨fun _ => ⟨b17, b27⟩, ?_⟩
  simp only [List.getElem_toArray, List.getElem_cons_succ, List.getElem_cons_zero, Act.put, List.setIfInBounds_toArray, List.set_cons_zero, List.set_cons_succ]
  have HRw := rwrite_ok w7 (many : Int) sy ls As cs Al cl (relL stops left) R7 hn1 hn2 (relL_lo hok.lo) (relL_hi hok.hi) k (bytesOf (⟨0, (k : Int), n, b, keep, K, kc⟩ : ActV)) HEz.out
  unfold VAL at HRw
  refine RegF.one 6 (by kernel_rfl) ?_
  refine RegF.opC 145 #[.tmp 33, .tmp 35, .tmp 38] #[141, 3, 9] rfl rfl rfl (enters_of Try.func145 (by kernel_rfl) rfl) #[.agg #[.int .i64 (many : Int), .slice As sy.length cs, .slice Al ls.length cl, .int .i64 (relL stops left)], .int .i64 (k : Int), .string (str (bytesOf (⟨0, (k : Int), n, b, keep, K, kc⟩ : ActV)))] (by simp only [List.map_toArray, List.map_cons, List.map_nil]; rfl) ((HRw).mono ?_)
  rintro e w8 ⟨A8, c8, rfl, R8, hB8⟩
  have b18 := b17.below hB8 b17.lt
  have b28 := b27.below hB8 b27.lt
  have b38 := b37.below hB8 b37.lt
  have b48 := b47.below hB8 b47.lt
  have D8 := D7.grow hB8
  have GG8 := grownBy_trans GG7 (below_grownBy hB8 p)
  refine ⟨_, rfl, fun _ => ⟨b18, b28⟩, ?_⟩
  simp only [List.getElem_toArray, List.getElem_cons_succ, List.getElem_cons_zero, Act.put, List.setIfInBounds_toArray, List.set_cons_zero, List.set_cons_succ]
  refine RegF.one 7 (by kernel_rfl) ?_
  refine RegF.opV (w' := w8) (.tuple #[.agg #[.int .i64 (many : Int), .slice As sy.length cs, .slice A8 (ls ++ [(k, (bytesOf (⟨0, (k : Int), n, b, keep, K, kc⟩ : ActV)))]).length c8, .int .i64 (rlft (relL stops left))], .int .i64 0]) rfl rfl (by go_simp) ⟨fun _ => ⟨b18, b28⟩, ?_⟩
  simp only [List.getElem_toArray, List.getElem_cons_succ, List.getElem_cons_zero, Act.put, List.setIfInBounds_toArray, List.set_cons_zero, List.set_cons_succ]
  refine RegF.take0 8 (.agg #[.int .i64 (many : Int), .slice As sy.length cs, .slice A8 (ls ++ [(k, (bytesOf (⟨0, (k : Int), n, b, keep, K, kc⟩ : ActV)))]).length c8, .int .i64 (rlft (relL stops left))]) rfl (by kernel_rfl) (by kernel_rfl) (by kernel_rfl) rfl (fun _ _ _ h => h) ⟨b18, b28⟩ (RegF.yld rfl (fun W hW => by go_simp)) ?_
  simp only [List.getElem_toArray, List.getElem_cons_succ, List.getElem_cons_zero, Act.put, List.setIfInBounds_toArray, List.set_cons_zero, List.set_cons_succ]
  refine RegF.take0 9 (.int .i64 0) rfl (by kernel_rfl) (by kernel_rfl) (by kernel_rfl) rfl (fun _ _ _ h => h) ⟨b18, b28⟩ (RegF.yld rfl (fun W hW => by go_simp)) ?_
  simp only [List.getElem_toArray, List.getElem_cons_succ, List.getElem_cons_zero, Act.put, List.setIfInBounds_toArray, List.set_cons_zero, List.set_cons_succ]
  have hSe : BlkIs (w8.setRow (w.heap.size + 1 + 1 + 1) #[.int .i64 (many : Int), .slice As sy.length cs, .slice A8 (ls ++ [(k, (bytesOf (⟨0, (k : Int), n, b, keep, K, kc⟩ : ActV)))]).length c8, .int .i64 (rlft (relL stops left))]) w.heap.size 141 #[.int .i64 (many : Int), .slice As sy.length cs, .slice Al ls.length cl, .int .i64 (relL stops left)] ∧ BlkIs (w8.setRow (w.heap.size + 1 + 1 + 1) #[.int .i64 (many : Int), .slice As sy.length cs, .slice A8 (ls ++ [(k, (bytesOf (⟨0, (k : Int), n, b, keep, K, kc⟩ : ActV)))]).length c8, .int .i64 (rlft (relL stops left))]) (w.heap.size + 1) 136 #[.int .i64 0, .int .i64 (k : Int), .int .i64 n, .int .u8 (b.toNat : Int), .slice K keep.length kc] := ⟨b18.setRow_ne (by omega) _, b28.setRow_ne (by omega) _⟩
  refine RegF.one 10 (by kernel_rfl) ?_
  refine RegF.opS (w' := w8.setRow (w.heap.size + 1 + 1 + 1) #[.int .i64 (many : Int), .slice As sy.length cs, .slice A8 (ls ++ [(k, (bytesOf (⟨0, (k : Int), n, b, keep, K, kc⟩ : ActV)))]).length c8, .int .i64 (rlft (relL stops left))]) rfl rfl (x_storeR (.tmp 9) (.tmp 40) rfl (w.heap.size + 1 + 1 + 1) rfl rfl b48 rfl rfl (four_oneR rfl rfl rfl rfl)) ⟨fun _ => hSe, ?_⟩
  simp only [List.getElem_toArray, List.getElem_cons_succ, List.getElem_cons_zero, Act.put]
  refine RegF.one 11 (by kernel_rfl) ?_
  refine RegF.opV (w' := w8.setRow (w.heap.size + 1 + 1 + 1) #[.int .i64 (many : Int), .slice As sy.length cs, .slice A8 (ls ++ [(k, (bytesOf (⟨0, (k : Int), n, b, keep, K, kc⟩ : ActV)))]).length c8, .int .i64 (rlft (relL stops left))]) (.int .i64 0) rfl rfl (by go_simp) ⟨fun _ => hSe, ?_⟩
  simp only [List.getElem_toArray, List.getElem_cons_succ, List.getElem_cons_zero, Act.put, List.setIfInBounds_toArray, List.set_cons_zero, List.set_cons_succ]
  refine RegF.done (by kernel_rfl) ?_
  have gZ : w8.grownBy (w8.setRow (w.heap.size + 1 + 1 + 1) #[.int .i64 (many : Int), .slice As sy.length cs, .slice A8 (ls ++ [(k, (bytesOf (⟨0, (k : Int), n, b, keep, K, kc⟩ : ActV)))]).length c8, .int .i64 (rlft (relL stops left))]) (some (w.heap.size + 1 + 1 + 1)) := setRow_grownBy _ _ _
  have DD := D8.other b48 (by show 4 ≤ 64; decide) (by omega) gZ
  have RR := R8.grownT b48 (noText4 _ _ _ _ _ _ _ _) gZ
  have B4 := b48.setRow #[.int .i64 (many : Int), .slice As sy.length cs, .slice A8 (ls ++ [(k, (bytesOf (⟨0, (k : Int), n, b, keep, K, kc⟩ : ActV)))]).length c8, .int .i64 (rlft (relL stops left))]
  have B3 := b38.setRow_ne (k := (w.heap.size + 1 + 1 + 1)) (by omega) #[.int .i64 (many : Int), .slice As sy.length cs, .slice A8 (ls ++ [(k, (bytesOf (⟨0, (k : Int), n, b, keep, K, kc⟩ : ActV)))]).length c8, .int .i64 (rlft (relL stops left))]
  have GG : w.grownBy (w8.setRow (w.heap.size + 1 + 1 + 1) #[.int .i64 (many : Int), .slice As sy.length cs, .slice A8 (ls ++ [(k, (bytesOf (⟨0, (k : Int), n, b, keep, K, kc⟩ : ActV)))]).length c8, .int .i64 (rlft (relL stops left))]) (some p) := grownBy_past GG8 gZ (by omega)
  clear hSe hSd b18 b28 b38 b48 b17 b27 b37 b47 b16 b26 b36 b46 D6 D7 D8 R6 R7 R8 GG6 GG7 GG8 gZ in7 hB7 hB8 HRw
  generalize w8.setRow (w.heap.size + 1 + 1 + 1) #[.int .i64 (many : Int), .slice As sy.length cs, .slice A8 (ls ++ [(k, (bytesOf (⟨0, (k : Int), n, b, keep, K, kc⟩ : ActV)))]).length c8, .int .i64 (rlft (relL stops left))] = wz at *
  go_wp2
  refine RegF.start (fun W => BlkIs W (w.heap.size + 1 + 1 + 1) 141 #[.int .i64 (many : Int), .slice As sy.length cs, .slice A8 (ls ++ [(k, (bytesOf (⟨0, (k : Int), n, b, keep, K, kc⟩ : ActV)))]).length c8, .int .i64 (rlft (relL stops left))]) 99 (by kernel_rfl) ?_
  have hSd : BlkIs wz.drew (w.heap.size + 1 + 1 + 1) 141 #[.int .i64 (many : Int), .slice As sy.length cs, .slice A8 (ls ++ [(k, (bytesOf (⟨0, (k : Int), n, b, keep, K, kc⟩ : ActV)))]).length c8, .int .i64 (rlft (relL stops left))] := B4
  refine RegF.take0 0 (.pointer (some ⟨p, 0, none⟩)) rfl (by kernel_rfl) (by kernel_rfl) (by kernel_rfl) rfl (fun _ _ _ h => h) hSd (RegF.yld rfl (fun W hW => by go_simp)) ?_
  simp only [List.getElem_toArray, List.getElem_cons_zero, Act.put, List.setIfInBounds_toArray, List.set_cons_zero, List.set_cons_succ]
  refine RegF.take0 1 (.agg #[.int .i64 (many : Int), .slice As sy.length cs, .slice A8 (ls ++ [(k, (bytesOf (⟨0, (k : Int), n, b, keep, K, kc⟩ : ActV)))]).length c8, .int .i64 (rlft (relL stops left))]) rfl (by kernel_rfl) (by kernel_rfl) (by kernel_rfl) rfl (fun _ _ _ h => h) hSd (RegF.yld rfl (fun W hW => by exact x_loadM rowRDisk hW.range rfl rfl rfl)) ?_
  simp only [List.getElem_toArray, List.getElem_cons_succ, List.getElem_cons_zero, Act.put, List.setIfInBounds_toArray, List.set_cons_zero, List.set_cons_succ]
  refine RegF.take0 2 (.int .i64 0) rfl (by kernel_rfl) (by kernel_rfl) (by kernel_rfl) rfl (fun _ _ _ h => h) hSd (RegF.yld rfl (fun W hW => by go_simp)) ?_
  simp only [List.getElem_toArray, List.getElem_cons_succ, List.getElem_cons_zero, Act.put, List.setIfInBounds_toArray, List.set_cons_zero, List.set_cons_succ]
  refine RegF.take0 4 (.int .i64 0) rfl (by kernel_rfl) (by kernel_rfl) (by kernel_rfl) rfl (fun _ _ _ h => h) hSd (RegF.yld rfl (fun W hW => by go_simp)) ?_
  simp only [List.getElem_toArray, List.getElem_cons_succ, List.getElem_cons_zero, Act.put, List.setIfInBounds_toArray, List.set_cons_zero, List.set_cons_succ]
  refine RegF.one 3 (by kernel_rfl) ?_
  refine RegF.opC 20 #[.tmp 111] #[27] rfl rfl rfl (enters_of Try.func20 (by kernel_rfl) rfl) #[.int .i64 0] (by simp only [List.map_toArray, List.map_cons, List.map_nil]; rfl) ((num4_gives wz.drew 0).mono ?_)
  rintro e W9 ⟨rfl, rfl⟩
  refine ⟨_, rfl, fun _ => hSd, ?_⟩
  simp only [List.getElem_toArray, List.getElem_cons_succ, List.getElem_cons_zero, Act.put, List.setIfInBounds_toArray, List.set_cons_zero, List.set_cons_succ]
  refine RegF.take0 5 (.bool true) rfl (by kernel_rfl) (by kernel_rfl) (by kernel_rfl) rfl (fun _ _ _ h => h) hSd (RegF.yld rfl (fun W hW => by go_simp)) ?_
  simp only [List.getElem_toArray, List.getElem_cons_succ, List.getElem_cons_zero, Act.put, List.setIfInBounds_toArray, List.set_cons_zero, List.set_cons_succ]
  refine RegF.one 6 (by kernel_rfl) ?_
  refine RegF.opV (w' := wz.drew) (.pointer (some ⟨p, 0, none⟩)) rfl rfl (by go_simp) ⟨fun _ => hSd, ?_⟩
  simp only [List.getElem_toArray, List.getElem_cons_succ, List.getElem_cons_zero, Act.put, List.setIfInBounds_toArray, List.set_cons_zero, List.set_cons_succ]
  have hb3d : BlkIs wz.drew (w.heap.size + 1 + 1) 141 #[.int .i64 0, .slice none 0 0, .slice none 0 0, .int .i64 0] := B3
  have hSe : BlkIs (wz.drew.setRow (w.heap.size + 1 + 1) #[.int .i64 (many : Int), .slice As sy.length cs, .slice A8 (ls ++ [(k, (bytesOf (⟨0, (k : Int), n, b, keep, K, kc⟩ : ActV)))]).length c8, .int .i64 (rlft (relL stops left))]) (w.heap.size + 1 + 1 + 1) 141 #[.int .i64 (many : Int), .slice As sy.length cs, .slice A8 (ls ++ [(k, (bytesOf (⟨0, (k : Int), n, b, keep, K, kc⟩ : ActV)))]).length c8, .int .i64 (rlft (relL stops left))] := hSd.setRow_ne (by omega) _
  refine RegF.one 7 (by kernel_rfl) ?_
  refine RegF.opS (w' := wz.drew.setRow (w.heap.size + 1 + 1) #[.int .i64 (many : Int), .slice As sy.length cs, .slice A8 (ls ++ [(k, (bytesOf (⟨0, (k : Int), n, b, keep, K, kc⟩ : ActV)))]).length c8, .int .i64 (rlft (relL stops left))]) rfl rfl (x_storeR (.tmp 7) (.tmp 110) rfl (w.heap.size + 1 + 1) rfl rfl hb3d rfl rfl (four_oneR rfl rfl rfl rfl)) ⟨fun _ => hSe, ?_⟩
  simp only [List.getElem_toArray, List.getElem_cons_succ, List.getElem_cons_zero, Act.put]
  refine RegF.one 8 (by kernel_rfl) ?_
  refine RegF.opV (w' := wz.drew.setRow (w.heap.size + 1 + 1) #[.int .i64 (many : Int), .slice As sy.length cs, .slice A8 (ls ++ [(k, (bytesOf (⟨0, (k : Int), n, b, keep, K, kc⟩ : ActV)))]).length c8, .int .i64 (rlft (relL stops left))]) (.bool true) rfl rfl (by go_simp) ⟨fun _ => hSe, ?_⟩
  simp only [List.getElem_toArray, List.getElem_cons_succ, List.getElem_cons_zero, Act.put, List.setIfInBounds_toArray, List.set_cons_zero, List.set_cons_succ]
  refine RegF.done (by kernel_rfl) ?_
  go_wp2
  have gE : wz.drew.grownBy (wz.drew.setRow (w.heap.size + 1 + 1) #[.int .i64 (many : Int), .slice As sy.length cs, .slice A8 (ls ++ [(k, (bytesOf (⟨0, (k : Int), n, b, keep, K, kc⟩ : ActV)))]).length c8, .int .i64 (rlft (relL stops left))]) (some (w.heap.size + 1 + 1)) := setRow_grownBy _ _ _
  have DE := (DD.grow ((Below.refl _ wz).drew)).other hb3d (by show 4 ≤ 64; decide) (by omega) gE
  have RE := (RR.grow ((Below.refl _ wz).drew)).grownT hb3d (noText4 _ _ _ _ _ _ _ _) gE
  have GE := grownBy_past (grownBy_trans GG (grownBy_drew wz (some p))) gE (by omega)
  exact bodyPost_ret (results3 6 7 8 rfl rfl rfl rfl rowRDisk (hb3d.setRow _) (by rfl)) rfl ⟨p, As, cs, A8, c8, rfl, DE, RE, .inl rfl, GE⟩
set_option maxRecDepth 100000 in
set_option maxHeartbeats 8000000 in
theorem act_wok1 (w : World) (p many : Nat) (sy ls : List (Nat × List UInt8)) (left : Int) (stops : Bool) (As : Option Addr) (cs : Nat) (Al : Option Addr) (cl : Nat) (at_ n : Int) (b : UInt8) (keep : List Bool) (K : Option Addr) (kc : Nat) (hD : DkIs w p many (gOf sy) ls left stops) (hR : RIs w w.heap.size sy ls As cs Al cl) (hok : StOk many ⟨sy, ls, left, stops⟩) (hn1 : sy.length ≤ 400000) (hn2 : ls.length ≤ 400000) (k : Nat) (hk : at_ = (k : Int)) (hE : rwE (many : Int) (k : Int) (relL stops left) (bytesOf (⟨1, at_, n, b, keep, K, kc⟩ : ActV)).length = 0) :
    Calls Try.prog 83 #[.pointer (some ⟨p, 0, none⟩), VAL (many : Int) As sy.length cs Al ls.length cl (relL stops left), .agg #[.int .i64 1, .int .i64 at_, .int .i64 n, .int .u8 (b.toNat : Int), .slice K keep.length kc]] w (ActOut w p many ⟨sy, ls ++ [(k, bytesOf (⟨1, at_, n, b, keep, K, kc⟩ : ActV))], lft stops left, stops⟩) := by
  subst hk
  obtain ⟨h64, hkm, hL0⟩ := rwE_ok hE
  have hs0 : (stops && left == 0) = false := by rw [relL_stopped]; exact decide_eq_false hL0
  have hL := relL_lft hok.pos hL0
  unfold ActOut VAL
  simp only
  rw [hL]
  obtain ⟨b1, b2, b3, b4, hB1⟩ := acW_is w #[.int .i64 (many : Int), .slice As sy.length cs, .slice Al ls.length cl, .int .i64 (relL stops left)] #[.int .i64 1, .int .i64 (k : Int), .int .i64 n, .int .u8 (b.toNat : Int), .slice K keep.length kc]
  have bl0 := ((BlkIs.new w 141 #[.int .i64 (many : Int), .slice As sy.length cs, .slice Al ls.length cl, .int .i64 (relL stops left)]).alloc (.cells #[.int .i64 1, .int .i64 (k : Int), .int .i64 n, .int .u8 (b.toNat : Int), .slice K keep.length kc] 136)).alloc (.cells #[.int .i64 0, .slice none 0 0, .slice none 0 0, .int .i64 0] 141)
  have bs0 := BlkIs.new (((w.alloc (.cells #[.int .i64 (many : Int), .slice As sy.length cs, .slice Al ls.length cl, .int .i64 (relL stops left)] 141)).alloc (.cells #[.int .i64 1, .int .i64 (k : Int), .int .i64 n, .int .u8 (b.toNat : Int), .slice K keep.length kc] 136)).alloc (.cells #[.int .i64 0, .slice none 0 0, .slice none 0 0, .int .i64 0] 141)) 141 #[.int .i64 0, .slice none 0 0, .slice none 0 0, .int .i64 0]
  simp only [World.size_alloc] at bs0
  obtain ⟨W1, hW1⟩ : ∃ W, W = acW w #[.int .i64 (many : Int), .slice As sy.length cs, .slice Al ls.length cl, .int .i64 (relL stops left)] #[.int .i64 1, .int .i64 (k : Int), .int .i64 n, .int .u8 (b.toNat : Int), .slice K keep.length kc] := ⟨_, rfl⟩
  rw [← hW1] at b1 b2 b3 b4 hB1
  unfold acW zeroR at hW1
  have HW1 := Lib.hid hW1
  have hp := hD.lt
  clear hW1
  have x0 : W1.cell? ⟨w.heap.size + 1, 0, none⟩ = some (.int .i64 1) := by rw [b2.cell]; rfl
  have D1 := hD.grow hB1
  have R1 := hR.grow hB1
  have H64 := Lib.hid h64
  have HEz := Lib.hid hE
  have HS0 := Lib.hid hs0
  clear h64 hE hL hL0 hs0
  go_enter Try.func83, Try.ntmps83
  go_upto_region 2 with (first
    | (refine wp_loadW rfl 141 (.tmp 4) rfl w.heap.size rfl rowRDisk bl0 (by rfl) ?_)
    | (refine wp_storeW rfl 141 (.tmp 9) (.tmp 16) rfl (w.heap.size + 1 + 1 + 1) rfl rfl rowRDisk bs0 (by rfl) (by rfl) (four_oneR rfl rfl rfl rfl) ?_))
  rw [← HW1.out]
  clear HW1 bl0 bs0
  go_wp2
  refine RegF.start (fun W => BlkIs W w.heap.size 141 #[.int .i64 (many : Int), .slice As sy.length cs, .slice Al ls.length cl, .int .i64 (relL stops left)] ∧ BlkIs W (w.heap.size + 1) 136 #[.int .i64 1, .int .i64 (k : Int), .int .i64 n, .int .u8 (b.toNat : Int), .slice K keep.length kc]) 99 (by kernel_rfl) ?_
  have hSd : BlkIs W1.drew w.heap.size 141 #[.int .i64 (many : Int), .slice As sy.length cs, .slice Al ls.length cl, .int .i64 (relL stops left)] ∧ BlkIs W1.drew (w.heap.size + 1) 136 #[.int .i64 1, .int .i64 (k : Int), .int .i64 n, .int .u8 (b.toNat : Int), .slice K keep.length kc] := ⟨b1, b2⟩
  refine RegF.take0 0 (.pointer (some ⟨p, 0, none⟩)) rfl (by kernel_rfl) (by kernel_rfl) (by kernel_rfl) rfl (fun _ _ _ h => h) hSd (RegF.yld rfl (fun W hW => by go_simp)) ?_
  simp only [List.getElem_toArray, List.getElem_cons_zero, Act.put, List.setIfInBounds_toArray, List.set_cons_zero, List.set_cons_succ]
  refine RegF.take0 1 (.pointer (some ⟨w.heap.size + 1, 1, none⟩)) rfl (by kernel_rfl) (by kernel_rfl) (by kernel_rfl) rfl (fun _ _ _ h => h) hSd (RegF.yld rfl (fun W hW => by go_simp)) ?_
  simp only [List.getElem_toArray, List.getElem_cons_succ, List.getElem_cons_zero, Act.put, List.setIfInBounds_toArray, List.set_cons_zero, List.set_cons_succ]
  refine RegF.take0 2 (.int .i64 (k : Int)) rfl (by kernel_rfl) (by kernel_rfl) (by kernel_rfl) rfl (fun _ _ _ h => h) hSd (RegF.yld rfl (fun W hW => by have e : W.cell? ⟨w.heap.size + 1, 1, none⟩ = _ := hW.2.cell 1; go_simp)) ?_
  simp only [List.getElem_toArray, List.getElem_cons_succ, List.getElem_cons_zero, Act.put, List.setIfInBounds_toArray, List.set_cons_zero, List.set_cons_succ]
  refine RegF.take0 3 (.agg #[.int .i64 1, .int .i64 (k : Int), .int .i64 n, .int .u8 (b.toNat : Int), .slice K keep.length kc]) rfl (by kernel_rfl) (by kernel_rfl) (by kernel_rfl) rfl (fun _ _ _ h => h) hSd (RegF.yld rfl (fun W hW => by exact x_loadM rowAct hW.2.range rfl rfl rfl)) ?_
  simp only [List.getElem_toArray, List.getElem_cons_succ, List.getElem_cons_zero, Act.put, List.setIfInBounds_toArray, List.set_cons_zero, List.set_cons_succ]
  refine RegF.one 4 (by kernel_rfl) ?_
  refine RegF.opC 144 #[.tmp 29] #[136] rfl rfl rfl (enters_of Try.func144 (by kernel_rfl) rfl) #[.agg #[.int .i64 1, .int .i64 (k : Int), .int .i64 n, .int .u8 (b.toNat : Int), .slice K keep.length kc]] (by simp only [List.map_toArray, List.map_cons, List.map_nil]; rfl) ((bytes4_gives W1.drew (⟨1, (k : Int), n, b, keep, K, kc⟩ : ActV)).mono ?_)
  rintro e w5 ⟨A5, c5, rfl, in5, hB5⟩
  have hB5 : Below W1.heap.size W1 w5 := (Below.refl _ W1).drew.trans hB5
  have b15 := b1.below hB5 b1.lt
  have b25 := b2.below hB5 b2.lt
  have b35 := b3.below hB5 b3.lt
  have b45 := b4.below hB5 b4.lt
  have D5 := D1.grow hB5
  have R5 := R1.grow hB5
  have hB05 := hB1.trans (hB5.mono hB1.size)
  refine ⟨_, rfl, fun _ => ⟨b15, b25⟩, ?_⟩
  simp only [List.getElem_toArray, List.getElem_cons_succ, List.getElem_cons_zero, Act.put, List.setIfInBounds_toArray, List.set_cons_zero, List.set_cons_succ]
  have HWr : Calls Try.prog 21 #[.pointer (some ⟨p, 0, none⟩), .int .i64 (k : Int), .slice A5 (bytesOf (⟨1, (k : Int), n, b, keep, K, kc⟩ : ActV)).length c5] w5 fun e w' => e = .returned (.int .i64 0) ∧ DkIs w' p many (gOf sy) (ls ++ [(k, (bytesOf (⟨1, (k : Int), n, b, keep, K, kc⟩ : ActV)))]) (lft stops left) stops ∧ w5.grownBy w' (some p) := by
    rw [H64.out]
    exact (write_ok w5 p many (gOf sy) ls left stops D5 HS0.out k hkm A5 c5 (bytesOf (⟨1, (k : Int), n, b, keep, K, kc⟩ : ActV)) H64.out in5 (by omega) hok.lo hok.hi).mono fun e w' h => ⟨h.1, h.2.1, h.2.2.1⟩
  refine RegF.one 5 (by kernel_rfl) ?_
  refine RegF.opC 21 #[.tmp 26, .tmp 28, .tmp 30] #[26, 3, 30] rfl rfl rfl (enters_of Try.func21 (by kernel_rfl) rfl) #[.pointer (some ⟨p, 0, none⟩), .int .i64 (k : Int), .slice A5 (bytesOf (⟨1, (k : Int), n, b, keep, K, kc⟩ : ActV)).length c5] (by simp only [List.map_toArray, List.map_cons, List.map_nil]; rfl) ((HWr).mono ?_)
  rintro e w6 ⟨rfl, D6, hg6⟩
  have b16 := b15.grown hg6 (fun e => by injection e with e; omega)
  have b26 := b25.grown hg6 (fun e => by injection e with e; omega)
  have b36 := b35.grown hg6 (fun e => by injection e with e; omega)
  have b46 := b45.grown hg6 (fun e => by injection e with e; omega)
  have R6 := R5.past D5 hg6
  have GG6 := grownBy_trans (below_grownBy hB05 p) hg6
  refine ⟨_, rfl, fun _ => ⟨b16, b26⟩, ?_⟩
  simp only [List.getElem_toArray, List.getElem_cons_succ, List.getElem_cons_zero, Act.put, List.setIfInBounds_toArray, List.set_cons_zero, List.set_cons_succ]
  refine RegF.one 6 (by kernel_rfl) ?_
  refine RegF.opV (w' := w6) (.int .i64 0) rfl rfl (by go_simp) ⟨fun _ => ⟨b16, b26⟩, ?_⟩
  simp only [List.getElem_toArray, List.getElem_cons_succ, List.getElem_cons_zero, Act.put, List.setIfInBounds_toArray, List.set_cons_zero, List.set_cons_succ]
  refine RegF.done (by kernel_rfl) ?_
  clear hSd b15 b25 b35 b45 D5 R5 hB05 b1 b2 b3 b4 D1 R1 hB1 hB5 hg6 in5 HWr
  go_wp2
  refine RegF.start (fun W => BlkIs W w.heap.size 141 #[.int .i64 (many : Int), .slice As sy.length cs, .slice Al ls.length cl, .int .i64 (relL stops left)] ∧ BlkIs W (w.heap.size + 1) 136 #[.int .i64 1, .int .i64 (k : Int), .int .i64 n, .int .u8 (b.toNat : Int), .slice K keep.length kc]) 99 (by kernel_rfl) ?_
  have hSd : BlkIs w6.drew w.heap.size 141 #[.int .i64 (many : Int), .slice As sy.length cs, .slice Al ls.length cl, .int .i64 (relL stops left)] ∧ BlkIs w6.drew (w.heap.size + 1) 136 #[.int .i64 1, .int .i64 (k : Int), .int .i64 n, .int .u8 (b.toNat : Int), .slice K keep.length kc] := ⟨b16, b26⟩
  refine RegF.take0 0 (.agg #[.int .i64 (many : Int), .slice As sy.length cs, .slice Al ls.length cl, .int .i64 (relL stops left)]) rfl (by kernel_rfl) (by kernel_rfl) (by kernel_rfl) rfl (fun _ _ _ h => h) hSd (RegF.yld rfl (fun W hW => by exact x_loadM rowRDisk hW.1.range rfl rfl rfl)) ?_
  simp only [List.getElem_toArray, List.getElem_cons_zero, Act.put, List.setIfInBounds_toArray, List.set_cons_zero, List.set_cons_succ]
  refine RegF.take0 1 (.pointer (some ⟨w.heap.size + 1, 1, none⟩)) rfl (by kernel_rfl) (by kernel_rfl) (by kernel_rfl) rfl (fun _ _ _ h => h) hSd (RegF.yld rfl (fun W hW => by go_simp)) ?_
  simp only [List.getElem_toArray, List.getElem_cons_succ, List.getElem_cons_zero, Act.put, List.setIfInBounds_toArray, List.set_cons_zero, List.set_cons_succ]
  refine RegF.take0 2 (.int .i64 (k : Int)) rfl (by kernel_rfl) (by kernel_rfl) (by kernel_rfl) rfl (fun _ _ _ h => h) hSd (RegF.yld rfl (fun W hW => by have e : W.cell? ⟨w.heap.size + 1, 1, none⟩ = _ := hW.2.cell 1; go_simp)) ?_
  simp only [List.getElem_toArray, List.getElem_cons_succ, List.getElem_cons_zero, Act.put, List.setIfInBounds_toArray, List.set_cons_zero, List.set_cons_succ]
  refine RegF.take0 3 (.agg #[.int .i64 1, .int .i64 (k : Int), .int .i64 n, .int .u8 (b.toNat : Int), .slice K keep.length kc]) rfl (by kernel_rfl) (by kernel_rfl) (by kernel_rfl) rfl (fun _ _ _ h => h) hSd (RegF.yld rfl (fun W hW => by exact x_loadM rowAct hW.2.range rfl rfl rfl)) ?_
  simp only [List.getElem_toArray, List.getElem_cons_succ, List.getElem_cons_zero, Act.put, List.setIfInBounds_toArray, List.set_cons_zero, List.set_cons_succ]
  refine RegF.one 4 (by kernel_rfl) ?_
  refine RegF.opC 144 #[.tmp 36] #[136] rfl rfl rfl (enters_of Try.func144 (by kernel_rfl) rfl) #[.agg #[.int .i64 1, .int .i64 (k : Int), .int .i64 n, .int .u8 (b.toNat : Int), .slice K keep.length kc]] (by simp only [List.map_toArray, List.map_cons, List.map_nil]; rfl) ((bytes4_gives w6.drew (⟨1, (k : Int), n, b, keep, K, kc⟩ : ActV)).mono ?_)
  rintro e w7 ⟨A7, c7, rfl, in7, hB7⟩
  have hB7 : Below w6.heap.size w6 w7 := (Below.refl _ w6).drew.trans hB7
  have b17 := b16.below hB7 b16.lt
  have b27 := b26.below hB7 b26.lt
  have b37 := b36.below hB7 b36.lt
  have b47 := b46.below hB7 b46.lt
  have D7 := D6.grow hB7
  have R7 := R6.grow hB7
  have GG7 := grownBy_trans GG6 (below_grownBy hB7 p)
  refine ⟨_, rfl, fun _ => ⟨b17, b27⟩, ?_⟩
  simp only [List.getElem_toArray, List.getElem_cons_succ, List.getElem_cons_zero, Act.put, List.setIfInBounds_toArray, List.set_cons_zero, List.set_cons_succ]
  refine RegF.one 5 (by kernel_rfl) ?_
  refine RegF.opV (w' := w7) (.string (str (bytesOf (⟨1, (k : Int), n, b, keep, K, kc⟩ : ActV)))) rfl rfl (by exact x_convB rfl rfl in7) ⟨fun _ => ⟨b17, b27⟩, ?_⟩
  simp only [List.getElem_toArray, List.getElem_cons_succ, List.getElem_cons_zero, Act.put, List.setIfInBounds_toArray, List.set_cons_zero, List.set_cons_succ]
  have HRw := rwrite_ok w7 (many : Int) sy ls As cs Al cl (relL stops left) R7 hn1 hn2 (relL_lo hok.lo) (relL_hi hok.hi) k (bytesOf (⟨1, (k : Int), n, b, keep, K, kc⟩ : ActV)) HEz.out
  unfold VAL at HRw
  refine RegF.one 6 (by kernel_rfl) ?_
  refine RegF.opC 145 #[.tmp 33, .tmp 35, .tmp 38] #[141, 3, 9] rfl rfl rfl (enters_of Try.func145 (by kernel_rfl) rfl) #[.agg #[.int .i64 (many : Int), .slice As sy.length cs, .slice Al ls.length cl, .int .i64 (relL stops left)], .int .i64 (k : Int), .string (str (bytesOf (⟨1, (k : Int), n, b, keep, K, kc⟩ : ActV)))] (by simp only [List.map_toArray, List.map_cons, List.map_nil]; rfl) ((HRw).mono ?_)
  rintro e w8 ⟨A8, c8, rfl, R8, hB8⟩
  have b18 := b17.below hB8 b17.lt
  have b28 := b27.below hB8 b27.lt
  have b38 := b37.below hB8 b37.lt
  have b48 := b47.below hB8 b47.lt
  have D8 := D7.grow hB8
  have GG8 := grownBy_trans GG7 (below_grownBy hB8 p)
  refine ⟨_, rfl, fun _ => ⟨b18, b28⟩, ?_⟩
  simp only [List.getElem_toArray, List.getElem_cons_succ, List.getElem_cons_zero, Act.put, List.setIfInBounds_toArray, List.set_cons_zero, List.set_cons_succ]
  refine RegF.one 7 (by kernel_rfl) ?_
  refine RegF.opV (w' := w8) (.tuple #[.agg #[.int .i64 (many : Int), .slice As sy.length cs, .slice A8 (ls ++ [(k, (bytesOf (⟨1, (k : Int), n, b, keep, K, kc⟩ : ActV)))]).length c8, .int .i64 (rlft (relL stops left))], .int .i64 0]) rfl rfl (by go_simp) ⟨fun _ => ⟨b18, b28⟩, ?_⟩
  simp only [List.getElem_toArray, List.getElem_cons_succ, List.getElem_cons_zero, Act.put, List.setIfInBounds_toArray, List.set_cons_zero, List.set_cons_succ]
  refine RegF.take0 8 (.agg #[.int .i64 (many : Int), .slice As sy.length cs, .slice A8 (ls ++ [(k, (bytesOf (⟨1, (k : Int), n, b, keep, K, kc⟩ : ActV)))]).length c8, .int .i64 (rlft (relL stops left))]) rfl (by kernel_rfl) (by kernel_rfl) (by kernel_rfl) rfl (fun _ _ _ h => h) ⟨b18, b28⟩ (RegF.yld rfl (fun W hW => by go_simp)) ?_
  simp only [List.getElem_toArray, List.getElem_cons_succ, List.getElem_cons_zero, Act.put, List.setIfInBounds_toArray, List.set_cons_zero, List.set_cons_succ]
  refine RegF.take0 9 (.int .i64 0) rfl (by kernel_rfl) (by kernel_rfl) (by kernel_rfl) rfl (fun _ _ _ h => h) ⟨b18, b28⟩ (RegF.yld rfl (fun W hW => by go_simp)) ?_
  simp only [List.getElem_toArray, List.getElem_cons_succ, List.getElem_cons_zero, Act.put, List.setIfInBounds_toArray, List.set_cons_zero, List.set_cons_succ]
  have hSe : BlkIs (w8.setRow (w.heap.size + 1 + 1 + 1) #[.int .i64 (many : Int), .slice As sy.length cs, .slice A8 (ls ++ [(k, (bytesOf (⟨1, (k : Int), n, b, keep, K, kc⟩ : ActV)))]).length c8, .int .i64 (rlft (relL stops left))]) w.heap.size 141 #[.int .i64 (many : Int), .slice As sy.length cs, .slice Al ls.length cl, .int .i64 (relL stops left)] ∧ BlkIs (w8.setRow (w.heap.size + 1 + 1 + 1) #[.int .i64 (many : Int), .slice As sy.length cs, .slice A8 (ls ++ [(k, (bytesOf (⟨1, (k : Int), n, b, keep, K, kc⟩ : ActV)))]).length c8, .int .i64 (rlft (relL stops left))]) (w.heap.size + 1) 136 #[.int .i64 1, .int .i64 (k : Int), .int .i64 n, .int .u8 (b.toNat : Int), .slice K keep.length kc] := ⟨b18.setRow_ne (by omega) _, b28.setRow_ne (by omega) _⟩
  refine RegF.one 10 (by kernel_rfl) ?_
  refine RegF.opS (w' := w8.setRow (w.heap.size + 1 + 1 + 1) #[.int .i64 (many : Int), .slice As sy.length cs, .slice A8 (ls ++ [(k, (bytesOf (⟨1, (k : Int), n, b, keep, K, kc⟩ : ActV)))]).length c8, .int .i64 (rlft (relL stops left))]) rfl rfl (x_storeR (.tmp 9) (.tmp 40) rfl (w.heap.size + 1 + 1 + 1) rfl rfl b48 rfl rfl (four_oneR rfl rfl rfl rfl)) ⟨fun _ => hSe, ?_⟩
  simp only [List.getElem_toArray, List.getElem_cons_succ, List.getElem_cons_zero, Act.put]
  refine RegF.one 11 (by kernel_rfl) ?_
  refine RegF.opV (w' := w8.setRow (w.heap.size + 1 + 1 + 1) #[.int .i64 (many : Int), .slice As sy.length cs, .slice A8 (ls ++ [(k, (bytesOf (⟨1, (k : Int), n, b, keep, K, kc⟩ : ActV)))]).length c8, .int .i64 (rlft (relL stops left))]) (.int .i64 0) rfl rfl (by go_simp) ⟨fun _ => hSe, ?_⟩
  simp only [List.getElem_toArray, List.getElem_cons_succ, List.getElem_cons_zero, Act.put, List.setIfInBounds_toArray, List.set_cons_zero, List.set_cons_succ]
  refine RegF.done (by kernel_rfl) ?_
  have gZ : w8.grownBy (w8.setRow (w.heap.size + 1 + 1 + 1) #[.int .i64 (many : Int), .slice As sy.length cs, .slice A8 (ls ++ [(k, (bytesOf (⟨1, (k : Int), n, b, keep, K, kc⟩ : ActV)))]).length c8, .int .i64 (rlft (relL stops left))]) (some (w.heap.size + 1 + 1 + 1)) := setRow_grownBy _ _ _
  have DD := D8.other b48 (by show 4 ≤ 64; decide) (by omega) gZ
  have RR := R8.grownT b48 (noText4 _ _ _ _ _ _ _ _) gZ
  have B4 := b48.setRow #[.int .i64 (many : Int), .slice As sy.length cs, .slice A8 (ls ++ [(k, (bytesOf (⟨1, (k : Int), n, b, keep, K, kc⟩ : ActV)))]).length c8, .int .i64 (rlft (relL stops left))]
  have B3 := b38.setRow_ne (k := (w.heap.size + 1 + 1 + 1)) (by omega) #[.int .i64 (many : Int), .slice As sy.length cs, .slice A8 (ls ++ [(k, (bytesOf (⟨1, (k : Int), n, b, keep, K, kc⟩ : ActV)))]).length c8, .int .i64 (rlft (relL stops left))]
  have GG : w.grownBy (w8.setRow (w.heap.size + 1 + 1 + 1) #[.int .i64 (many : Int), .slice As sy.length cs, .slice A8 (ls ++ [(k, (bytesOf (⟨1, (k : Int), n, b, keep, K, kc⟩ : ActV)))]).length c8, .int .i64 (rlft (relL stops left))]) (some p) := grownBy_past GG8 gZ (by omega)
  clear hSe hSd b18 b28 b38 b48 b17 b27 b37 b47 b16 b26 b36 b46 D6 D7 D8 R6 R7 R8 GG6 GG7 GG8 gZ in7 hB7 hB8 HRw
  generalize w8.setRow (w.heap.size + 1 + 1 + 1) #[.int .i64 (many : Int), .slice As sy.length cs, .slice A8 (ls ++ [(k, (bytesOf (⟨1, (k : Int), n, b, keep, K, kc⟩ : ActV)))]).length c8, .int .i64 (rlft (relL stops left))] = wz at *
  go_wp2
  refine RegF.start (fun W => BlkIs W (w.heap.size + 1 + 1 + 1) 141 #[.int .i64 (many : Int), .slice As sy.length cs, .slice A8 (ls ++ [(k, (bytesOf (⟨1, (k : Int), n, b, keep, K, kc⟩ : ActV)))]).length c8, .int .i64 (rlft (relL stops left))]) 99 (by kernel_rfl) ?_
  have hSd : BlkIs wz.drew (w.heap.size + 1 + 1 + 1) 141 #[.int .i64 (many : Int), .slice As sy.length cs, .slice A8 (ls ++ [(k, (bytesOf (⟨1, (k : Int), n, b, keep, K, kc⟩ : ActV)))]).length c8, .int .i64 (rlft (relL stops left))] := B4
  refine RegF.take0 0 (.pointer (some ⟨p, 0, none⟩)) rfl (by kernel_rfl) (by kernel_rfl) (by kernel_rfl) rfl (fun _ _ _ h => h) hSd (RegF.yld rfl (fun W hW => by go_simp)) ?_
  simp only [List.getElem_toArray, List.getElem_cons_zero, Act.put, List.setIfInBounds_toArray, List.set_cons_zero, List.set_cons_succ]
  refine RegF.take0 1 (.agg #[.int .i64 (many : Int), .slice As sy.length cs, .slice A8 (ls ++ [(k, (bytesOf (⟨1, (k : Int), n, b, keep, K, kc⟩ : ActV)))]).length c8, .int .i64 (rlft (relL stops left))]) rfl (by kernel_rfl) (by kernel_rfl) (by kernel_rfl) rfl (fun _ _ _ h => h) hSd (RegF.yld rfl (fun W hW => by exact x_loadM rowRDisk hW.range rfl rfl rfl)) ?_
  simp only [List.getElem_toArray, List.getElem_cons_succ, List.getElem_cons_zero, Act.put, List.setIfInBounds_toArray, List.set_cons_zero, List.set_cons_succ]
  refine RegF.take0 2 (.int .i64 0) rfl (by kernel_rfl) (by kernel_rfl) (by kernel_rfl) rfl (fun _ _ _ h => h) hSd (RegF.yld rfl (fun W hW => by go_simp)) ?_
  simp only [List.getElem_toArray, List.getElem_cons_succ, List.getElem_cons_zero, Act.put, List.setIfInBounds_toArray, List.set_cons_zero, List.set_cons_succ]
  refine RegF.take0 4 (.int .i64 0) rfl (by kernel_rfl) (by kernel_rfl) (by kernel_rfl) rfl (fun _ _ _ h => h) hSd (RegF.yld rfl (fun W hW => by go_simp)) ?_
  simp only [List.getElem_toArray, List.getElem_cons_succ, List.getElem_cons_zero, Act.put, List.setIfInBounds_toArray, List.set_cons_zero, List.set_cons_succ]
  refine RegF.one 3 (by kernel_rfl) ?_
  refine RegF.opC 20 #[.tmp 111] #[27] rfl rfl rfl (enters_of Try.func20 (by kernel_rfl) rfl) #[.int .i64 0] (by simp only [List.map_toArray, List.map_cons, List.map_nil]; rfl) ((num4_gives wz.drew 0).mono ?_)
  rintro e W9 ⟨rfl, rfl⟩
  refine ⟨_, rfl, fun _ => hSd, ?_⟩
  simp only [List.getElem_toArray, List.getElem_cons_succ, List.getElem_cons_zero, Act.put, List.setIfInBounds_toArray, List.set_cons_zero, List.set_cons_succ]
  refine RegF.take0 5 (.bool true) rfl (by kernel_rfl) (by kernel_rfl) (by kernel_rfl) rfl (fun _ _ _ h => h) hSd (RegF.yld rfl (fun W hW => by go_simp)) ?_
  simp only [List.getElem_toArray, List.getElem_cons_succ, List.getElem_cons_zero, Act.put, List.setIfInBounds_toArray, List.set_cons_zero, List.set_cons_succ]
  refine RegF.one 6 (by kernel_rfl) ?_
  refine RegF.opV (w' := wz.drew) (.pointer (some ⟨p, 0, none⟩)) rfl rfl (by go_simp) ⟨fun _ => hSd, ?_⟩
  simp only [List.getElem_toArray, List.getElem_cons_succ, List.getElem_cons_zero, Act.put, List.setIfInBounds_toArray, List.set_cons_zero, List.set_cons_succ]
  have hb3d : BlkIs wz.drew (w.heap.size + 1 + 1) 141 #[.int .i64 0, .slice none 0 0, .slice none 0 0, .int .i64 0] := B3
  have hSe : BlkIs (wz.drew.setRow (w.heap.size + 1 + 1) #[.int .i64 (many : Int), .slice As sy.length cs, .slice A8 (ls ++ [(k, (bytesOf (⟨1, (k : Int), n, b, keep, K, kc⟩ : ActV)))]).length c8, .int .i64 (rlft (relL stops left))]) (w.heap.size + 1 + 1 + 1) 141 #[.int .i64 (many : Int), .slice As sy.length cs, .slice A8 (ls ++ [(k, (bytesOf (⟨1, (k : Int), n, b, keep, K, kc⟩ : ActV)))]).length c8, .int .i64 (rlft (relL stops left))] := hSd.setRow_ne (by omega) _
  refine RegF.one 7 (by kernel_rfl) ?_
  refine RegF.opS (w' := wz.drew.setRow (w.heap.size + 1 + 1) #[.int .i64 (many : Int), .slice As sy.length cs, .slice A8 (ls ++ [(k, (bytesOf (⟨1, (k : Int), n, b, keep, K, kc⟩ : ActV)))]).length c8, .int .i64 (rlft (relL stops left))]) rfl rfl (x_storeR (.tmp 7) (.tmp 110) rfl (w.heap.size + 1 + 1) rfl rfl hb3d rfl rfl (four_oneR rfl rfl rfl rfl)) ⟨fun _ => hSe, ?_⟩
  simp only [List.getElem_toArray, List.getElem_cons_succ, List.getElem_cons_zero, Act.put]
  refine RegF.one 8 (by kernel_rfl) ?_
  refine RegF.opV (w' := wz.drew.setRow (w.heap.size + 1 + 1) #[.int .i64 (many : Int), .slice As sy.length cs, .slice A8 (ls ++ [(k, (bytesOf (⟨1, (k : Int), n, b, keep, K, kc⟩ : ActV)))]).length c8, .int .i64 (rlft (relL stops left))]) (.bool true) rfl rfl (by go_simp) ⟨fun _ => hSe, ?_⟩
  simp only [List.getElem_toArray, List.getElem_cons_succ, List.getElem_cons_zero, Act.put, List.setIfInBounds_toArray, List.set_cons_zero, List.set_cons_succ]
  refine RegF.done (by kernel_rfl) ?_
  go_wp2
  have gE : wz.drew.grownBy (wz.drew.setRow (w.heap.size + 1 + 1) #[.int .i64 (many : Int), .slice As sy.length cs, .slice A8 (ls ++ [(k, (bytesOf (⟨1, (k : Int), n, b, keep, K, kc⟩ : ActV)))]).length c8, .int .i64 (rlft (relL stops left))]) (some (w.heap.size + 1 + 1)) := setRow_grownBy _ _ _
  have DE := (DD.grow ((Below.refl _ wz).drew)).other hb3d (by show 4 ≤ 64; decide) (by omega) gE
  have RE := (RR.grow ((Below.refl _ wz).drew)).grownT hb3d (noText4 _ _ _ _ _ _ _ _) gE
  have GE := grownBy_past (grownBy_trans GG (grownBy_drew wz (some p))) gE (by omega)
  exact bodyPost_ret (results3 6 7 8 rfl rfl rfl rfl rowRDisk (hb3d.setRow _) (by rfl)) rfl ⟨p, As, cs, A8, c8, rfl, DE, RE, .inl rfl, GE⟩
set_option maxRecDepth 100000 in
set_option maxHeartbeats 8000000 in
theorem act_wok2 (w : World) (p many : Nat) (sy ls : List (Nat × List UInt8)) (left : Int) (stops : Bool) (As : Option Addr) (cs : Nat) (Al : Option Addr) (cl : Nat) (at_ n : Int) (b : UInt8) (keep : List Bool) (K : Option Addr) (kc : Nat) (hD : DkIs w p many (gOf sy) ls left stops) (hR : RIs w w.heap.size sy ls As cs Al cl) (hok : StOk many ⟨sy, ls, left, stops⟩) (hn1 : sy.length ≤ 400000) (hn2 : ls.length ≤ 400000) (k : Nat) (hk : at_ = (k : Int)) (hE : rwE (many : Int) (k : Int) (relL stops left) (bytesOf (⟨2, at_, n, b, keep, K, kc⟩ : ActV)).length = 0) :
    Calls Try.prog 83 #[.pointer (some ⟨p, 0, none⟩), VAL (many : Int) As sy.length cs Al ls.length cl (relL stops left), .agg #[.int .i64 2, .int .i64 at_, .int .i64 n, .int .u8 (b.toNat : Int), .slice K keep.length kc]] w (ActOut w p many ⟨sy, ls ++ [(k, bytesOf (⟨2, at_, n, b, keep, K, kc⟩ : ActV))], lft stops left, stops⟩) := by
  subst hk
  obtain ⟨h64, hkm, hL0⟩ := rwE_ok hE
  have hs0 : (stops && left == 0) = false := by rw [relL_stopped]; exact decide_eq_false hL0
  have hL := relL_lft hok.pos hL0
  unfold ActOut VAL
  simp only
  rw [hL]
  obtain ⟨b1, b2, b3, b4, hB1⟩ := acW_is w #[.int .i64 (many : Int), .slice As sy.length cs, .slice Al ls.length cl, .int .i64 (relL stops left)] #[.int .i64 2, .int .i64 (k : Int), .int .i64 n, .int .u8 (b.toNat : Int), .slice K keep.length kc]
  have bl0 := ((BlkIs.new w 141 #[.int .i64 (many : Int), .slice As sy.length cs, .slice Al ls.length cl, .int .i64 (relL stops left)]).alloc (.cells #[.int .i64 2, .int .i64 (k : Int), .int .i64 n, .int .u8 (b.toNat : Int), .slice K keep.length kc] 136)).alloc (.cells #[.int .i64 0, .slice none 0 0, .slice none 0 0, .int .i64 0] 141)
  have bs0 := BlkIs.new (((w.alloc (.cells #[.int .i64 (many : Int), .slice As sy.length cs, .slice Al ls.length cl, .int .i64 (relL stops left)] 141)).alloc (.cells #[.int .i64 2, .int .i64 (k : Int), .int .i64 n, .int .u8 (b.toNat : Int), .slice K keep.length kc] 136)).alloc (.cells #[.int .i64 0, .slice none 0 0, .slice none 0 0, .int .i64 0] 141)) 141 #[.int .i64 0, .slice none 0 0, .slice none 0 0, .int .i64 0]
  simp only [World.size_alloc] at bs0
  obtain ⟨W1, hW1⟩ : ∃ W, W = acW w #[.int .i64 (many : Int), .slice As sy.length cs, .slice Al ls.length cl, .int .i64 (relL stops left)] #[.int .i64 2, .int .i64 (k : Int), .int .i64 n, .int .u8 (b.toNat : Int), .slice K keep.length kc] := ⟨_, rfl⟩
  rw [← hW1] at b1 b2 b3 b4 hB1
  unfold acW zeroR at hW1
  have HW1 := Lib.hid hW1
  have hp := hD.lt
  clear hW1
  have x0 : W1.cell? ⟨w.heap.size + 1, 0, none⟩ = some (.int .i64 2) := by rw [b2.cell]; rfl
  have D1 := hD.grow hB1
  have R1 := hR.grow hB1
  have H64 := Lib.hid h64
  have HEz := Lib.hid hE
  have HS0 := Lib.hid hs0
  clear h64 hE hL hL0 hs0
  go_enter Try.func83, Try.ntmps83
  go_upto_region 2 with (first
    | (refine wp_loadW rfl 141 (.tmp 4) rfl w.heap.size rfl rowRDisk bl0 (by rfl) ?_)
    | (refine wp_storeW rfl 141 (.tmp 9) (.tmp 16) rfl (w.heap.size + 1 + 1 + 1) rfl rfl rowRDisk bs0 (by rfl) (by rfl) (four_oneR rfl rfl rfl rfl) ?_))
  rw [← HW1.out]
  clear HW1 bl0 bs0
  go_wp2
  refine RegF.start (fun W => BlkIs W w.heap.size 141 #[.int .i64 (many : Int), .slice As sy.length cs, .slice Al ls.length cl, .int .i64 (relL stops left)] ∧ BlkIs W (w.heap.size + 1) 136 #[.int .i64 2, .int .i64 (k : Int), .int .i64 n, .int .u8 (b.toNat : Int), .slice K keep.length kc]) 99 (by kernel_rfl) ?_
  have hSd : BlkIs W1.drew w.heap.size 141 #[.int .i64 (many : Int), .slice As sy.length cs, .slice Al ls.length cl, .int .i64 (relL stops left)] ∧ BlkIs W1.drew (w.heap.size + 1) 136 #[.int .i64 2, .int .i64 (k : Int), .int .i64 n, .int .u8 (b.toNat : Int), .slice K keep.length kc] := ⟨b1, b2⟩
  refine RegF.take0 0 (.pointer (some ⟨p, 0, none⟩)) rfl (by kernel_rfl) (by kernel_rfl) (by kernel_rfl) rfl (fun _ _ _ h => h) hSd (RegF.yld rfl (fun W hW => by go_simp)) ?_
  simp only [List.getElem_toArray, List.getElem_cons_zero, Act.put, List.setIfInBounds_toArray, List.set_cons_zero, List.set_cons_succ]
  refine RegF.take0 1 (.pointer (some ⟨w.heap.size + 1, 1, none⟩)) rfl (by kernel_rfl) (by kernel_rfl) (by kernel_rfl) rfl (fun _ _ _ h => h) hSd (RegF.yld rfl (fun W hW => by go_simp)) ?_
  simp only [List.getElem_toArray, List.getElem_cons_succ, List.getElem_cons_zero, Act.put, List.setIfInBounds_toArray, List.set_cons_zero, List.set_cons_succ]
  refine RegF.take0 2 (.int .i64 (k : Int)) rfl (by kernel_rfl) (by kernel_rfl) (by kernel_rfl) rfl (fun _ _ _ h => h) hSd (RegF.yld rfl (fun W hW => by have e : W.cell? ⟨w.heap.size + 1, 1, none⟩ = _ := hW.2.cell 1; go_simp)) ?_
  simp only [List.getElem_toArray, List.getElem_cons_succ, List.getElem_cons_zero, Act.put, List.setIfInBounds_toArray, List.set_cons_zero, List.set_cons_succ]
  refine RegF.take0 3 (.agg #[.int .i64 2, .int .i64 (k : Int), .int .i64 n, .int .u8 (b.toNat : Int), .slice K keep.length kc]) rfl (by kernel_rfl) (by kernel_rfl) (by kernel_rfl) rfl (fun _ _ _ h => h) hSd (RegF.yld rfl (fun W hW => by exact x_loadM rowAct hW.2.range rfl rfl rfl)) ?_
  simp only [List.getElem_toArray, List.getElem_cons_succ, List.getElem_cons_zero, Act.put, List.setIfInBounds_toArray, List.set_cons_zero, List.set_cons_succ]
  refine RegF.one 4 (by kernel_rfl) ?_
  refine RegF.opC 144 #[.tmp 29] #[136] rfl rfl rfl (enters_of Try.func144 (by kernel_rfl) rfl) #[.agg #[.int .i64 2, .int .i64 (k : Int), .int .i64 n, .int .u8 (b.toNat : Int), .slice K keep.length kc]] (by simp only [List.map_toArray, List.map_cons, List.map_nil]; rfl) ((bytes4_gives W1.drew (⟨2, (k : Int), n, b, keep, K, kc⟩ : ActV)).mono ?_)
  rintro e w5 ⟨A5, c5, rfl, in5, hB5⟩
  have hB5 : Below W1.heap.size W1 w5 := (Below.refl _ W1).drew.trans hB5
  have b15 := b1.below hB5 b1.lt
  have b25 := b2.below hB5 b2.lt
  have b35 := b3.below hB5 b3.lt
  have b45 := b4.below hB5 b4.lt
  have D5 := D1.grow hB5
  have R5 := R1.grow hB5
  have hB05 := hB1.trans (hB5.mono hB1.size)
  refine ⟨_, rfl, fun _ => ⟨b15, b25⟩, ?_⟩
  simp only [List.getElem_toArray, List.getElem_cons_succ, List.getElem_cons_zero, Act.put, List.setIfInBounds_toArray, List.set_cons_zero, List.set_cons_succ]
  have HWr : Calls Try.prog 21 #[.pointer (some ⟨p, 0, none⟩), .int .i64 (k : Int), .slice A5 (bytesOf (⟨2, (k : Int), n, b, keep, K, kc⟩ : ActV)).length c5] w5 fun e w' => e = .returned (.int .i64 0) ∧ DkIs w' p many (gOf sy) (ls ++ [(k, (bytesOf (⟨2, (k : Int), n, b, keep, K, kc⟩ : ActV)))]) (lft stops left) stops ∧ w5.grownBy w' (some p) := by
    rw [H64.out]
    exact (write_ok w5 p many (gOf sy) ls left stops D5 HS0.out k hkm A5 c5 (bytesOf (⟨2, (k : Int), n, b, keep, K, kc⟩ : ActV)) H64.out in5 (by omega) hok.lo hok.hi).mono fun e w' h => ⟨h.1, h.2.1, h.2.2.1⟩
  refine RegF.one 5 (by kernel_rfl) ?_
  refine RegF.opC 21 #[.tmp 26, .tmp 28, .tmp 30] #[26, 3, 30] rfl rfl rfl (enters_of Try.func21 (by kernel_rfl) rfl) #[.pointer (some ⟨p, 0, none⟩), .int .i64 (k : Int), .slice A5 (bytesOf (⟨2, (k : Int), n, b, keep, K, kc⟩ : ActV)).length c5] (by simp only [List.map_toArray, List.map_cons, List.map_nil]; rfl) ((HWr).mono ?_)
  rintro e w6 ⟨rfl, D6, hg6⟩
  have b16 := b15.grown hg6 (fun e => by injection e with e; omega)
  have b26 := b25.grown hg6 (fun e => by injection e with e; omega)
  have b36 := b35.grown hg6 (fun e => by injection e with e; omega)
  have b46 := b45.grown hg6 (fun e => by injection e with e; omega)
  have R6 := R5.past D5 hg6
  have GG6 := grownBy_trans (below_grownBy hB05 p) hg6
  refine ⟨_, rfl, fun _ => ⟨b16, b26⟩, ?_⟩
  simp only [List.getElem_toArray, List.getElem_cons_succ, List.getElem_cons_zero, Act.put, List.setIfInBounds_toArray, List.set_cons_zero, List.set_cons_succ]
  refine RegF.one 6 (by kernel_rfl) ?_
  refine RegF.opV (w' := w6) (.int .i64 0) rfl rfl (by go_simp) ⟨fun _ => ⟨b16, b26⟩, ?_⟩
  simp only [List.getElem_toArray, List.getElem_cons_succ, List.getElem_cons_zero, Act.put, List.setIfInBounds_toArray, List.set_cons_zero, List.set_cons_succ]
  refine RegF.done (by kernel_rfl) ?_
  clear hSd b15 b25 b35 b45 D5 R5 hB05 b1 b2 b3 b4 D1 R1 hB1 hB5 hg6 in5 HWr
  go_wp2
  refine RegF.start (fun W => BlkIs W w.heap.size 141 #[.int .i64 (many : Int), .slice As sy.length cs, .slice Al ls.length cl, .int .i64 (relL stops left)] ∧ BlkIs W (w.heap.size + 1) 136 #[.int .i64 2, .int .i64 (k : Int), .int .i64 n, .int .u8 (b.toNat : Int), .slice K keep.length kc]) 99 (by kernel_rfl) ?_
  have hSd : BlkIs w6.drew w.heap.size 141 #[.int .i64 (many : Int), .slice As sy.length cs, .slice Al ls.length cl, .int .i64 (relL stops left)] ∧ BlkIs w6.drew (w.heap.size + 1) 136 #[.int .i64 2, .int .i64 (k : Int), .int .i64 n, .int .u8 (b.toNat : Int), .slice K keep.length kc] := ⟨b16, b26⟩
  refine RegF.take0 0 (.agg #[.int .i64 (many : Int), .slice As sy.length cs, .slice Al ls.length cl, .int .i64 (relL stops left)]) rfl (by kernel_rfl) (by kernel_rfl) (by kernel_rfl) rfl (fun _ _ _ h => h) hSd (RegF.yld rfl (fun W hW => by exact x_loadM rowRDisk hW.1.range rfl rfl rfl)) ?_
  simp only [List.getElem_toArray, List.getElem_cons_zero, Act.put, List.setIfInBounds_toArray, List.set_cons_zero, List.set_cons_succ]
  refine RegF.take0 1 (.pointer (some ⟨w.heap.size + 1, 1, none⟩)) rfl (by kernel_rfl) (by kernel_rfl) (by kernel_rfl) rfl (fun _ _ _ h => h) hSd (RegF.yld rfl (fun W hW => by go_simp)) ?_
  simp only [List.getElem_toArray, List.getElem_cons_succ, List.getElem_cons_zero, Act.put, List.setIfInBounds_toArray, List.set_cons_zero, List.set_cons_succ]
  refine RegF.take0 2 (.int .i64 (k : Int)) rfl (by kernel_rfl) (by kernel_rfl) (by kernel_rfl) rfl (fun _ _ _ h => h) hSd (RegF.yld rfl (fun W hW => by have e : W.cell? ⟨w.heap.size + 1, 1, none⟩ = _ := hW.2.cell 1; go_simp)) ?_
  simp only [List.getElem_toArray, List.getElem_cons_succ, List.getElem_cons_zero, Act.put, List.setIfInBounds_toArray, List.set_cons_zero, List.set_cons_succ]
  refine RegF.take0 3 (.agg #[.int .i64 2, .int .i64 (k : Int), .int .i64 n, .int .u8 (b.toNat : Int), .slice K keep.length kc]) rfl (by kernel_rfl) (by kernel_rfl) (by kernel_rfl) rfl (fun _ _ _ h => h) hSd (RegF.yld rfl (fun W hW => by exact x_loadM rowAct hW.2.range rfl rfl rfl)) ?_
  simp only [List.getElem_toArray, List.getElem_cons_succ, List.getElem_cons_zero, Act.put, List.setIfInBounds_toArray, List.set_cons_zero, List.set_cons_succ]
  refine RegF.one 4 (by kernel_rfl) ?_
  refine RegF.opC 144 #[.tmp 36] #[136] rfl rfl rfl (enters_of Try.func144 (by kernel_rfl) rfl) #[.agg #[.int .i64 2, .int .i64 (k : Int), .int .i64 n, .int .u8 (b.toNat : Int), .slice K keep.length kc]] (by simp only [List.map_toArray, List.map_cons, List.map_nil]; rfl) ((bytes4_gives w6.drew (⟨2, (k : Int), n, b, keep, K, kc⟩ : ActV)).mono ?_)
  rintro e w7 ⟨A7, c7, rfl, in7, hB7⟩
  have hB7 : Below w6.heap.size w6 w7 := (Below.refl _ w6).drew.trans hB7
  have b17 := b16.below hB7 b16.lt
  have b27 := b26.below hB7 b26.lt
  have b37 := b36.below hB7 b36.lt
  have b47 := b46.below hB7 b46.lt
  have D7 := D6.grow hB7
  have R7 := R6.grow hB7
  have GG7 := grownBy_trans GG6 (below_grownBy hB7 p)
  refine ⟨_, rfl, fun _ => ⟨b17, b27⟩, ?_⟩
  simp only [List.getElem_toArray, List.getElem_cons_succ, List.getElem_cons_zero, Act.put, List.setIfInBounds_toArray, List.set_cons_zero, List.set_cons_succ]
  refine RegF.one 5 (by kernel_rfl) ?_
  refine RegF.opV (w' := w7) (.string (str (bytesOf (⟨2, (k : Int), n, b, keep, K, kc⟩ : ActV)))) rfl rfl (by exact x_convB rfl rfl in7) ⟨fun _ => ⟨b17, b27⟩, ?_⟩
  simp only [List.getElem_toArray, List.getElem_cons_succ, List.getElem_cons_zero, Act.put, List.setIfInBounds_toArray, List.set_cons_zero, List.set_cons_succ]
  have HRw := rwrite_ok w7 (many : Int) sy ls As cs Al cl (relL stops left) R7 hn1 hn2 (relL_lo hok.lo) (relL_hi hok.hi) k (bytesOf (⟨2, (k : Int), n, b, keep, K, kc⟩ : ActV)) HEz.out
  unfold VAL at HRw
  refine RegF.one 6 (by kernel_rfl) ?_
  refine RegF.opC 145 #[.tmp 33, .tmp 35, .tmp 38] #[141, 3, 9] rfl rfl rfl (enters_of Try.func145 (by kernel_rfl) rfl) #[.agg #[.int .i64 (many : Int), .slice As sy.length cs, .slice Al ls.length cl, .int .i64 (relL stops left)], .int .i64 (k : Int), .string (str (bytesOf (⟨2, (k : Int), n, b, keep, K, kc⟩ : ActV)))] (by simp only [List.map_toArray, List.map_cons, List.map_nil]; rfl) ((HRw).mono ?_)
  rintro e w8 ⟨A8, c8, rfl, R8, hB8⟩
  have b18 := b17.below hB8 b17.lt
  have b28 := b27.below hB8 b27.lt
  have b38 := b37.below hB8 b37.lt
  have b48 := b47.below hB8 b47.lt
  have D8 := D7.grow hB8
  have GG8 := grownBy_trans GG7 (below_grownBy hB8 p)
  refine ⟨_, rfl, fun _ => ⟨b18, b28⟩, ?_⟩
  simp only [List.getElem_toArray, List.getElem_cons_succ, List.getElem_cons_zero, Act.put, List.setIfInBounds_toArray, List.set_cons_zero, List.set_cons_succ]
  refine RegF.one 7 (by kernel_rfl) ?_
  refine RegF.opV (w' := w8) (.tuple #[.agg #[.int .i64 (many : Int), .slice As sy.length cs, .slice A8 (ls ++ [(k, (bytesOf (⟨2, (k : Int), n, b, keep, K, kc⟩ : ActV)))]).length c8, .int .i64 (rlft (relL stops left))], .int .i64 0]) rfl rfl (by go_simp) ⟨fun _ => ⟨b18, b28⟩, ?_⟩
  simp only [List.getElem_toArray, List.getElem_cons_succ, List.getElem_cons_zero, Act.put, List.setIfInBounds_toArray, List.set_cons_zero, List.set_cons_succ]
  refine RegF.take0 8 (.agg #[.int .i64 (many : Int), .slice As sy.length cs, .slice A8 (ls ++ [(k, (bytesOf (⟨2, (k : Int), n, b, keep, K, kc⟩ : ActV)))]).length c8, .int .i64 (rlft (relL stops left))]) rfl (by kernel_rfl) (by kernel_rfl) (by kernel_rfl) rfl (fun _ _ _ h => h) ⟨b18, b28⟩ (RegF.yld rfl (fun W hW => by go_simp)) ?_
  simp only [List.getElem_toArray, List.getElem_cons_succ, List.getElem_cons_zero, Act.put, List.setIfInBounds_toArray, List.set_cons_zero, List.set_cons_succ]
  refine RegF.take0 9 (.int .i64 0) rfl (by kernel_rfl) (by kernel_rfl) (by kernel_rfl) rfl (fun _ _ _ h => h) ⟨b18, b28⟩ (RegF.yld rfl (fun W hW => by go_simp)) ?_
  simp only [List.getElem_toArray, List.getElem_cons_succ, List.getElem_cons_zero, Act.put, List.setIfInBounds_toArray, List.set_cons_zero, List.set_cons_succ]
  have hSe : BlkIs (w8.setRow (w.heap.size + 1 + 1 + 1) #[.int .i64 (many : Int), .slice As sy.length cs, .slice A8 (ls ++ [(k, (bytesOf (⟨2, (k : Int), n, b, keep, K, kc⟩ : ActV)))]).length c8, .int .i64 (rlft (relL stops left))]) w.heap.size 141 #[.int .i64 (many : Int), .slice As sy.length cs, .slice Al ls.length cl, .int .i64 (relL stops left)] ∧ BlkIs (w8.setRow (w.heap.size + 1 + 1 + 1) #[.int .i64 (many : Int), .slice As sy.length cs, .slice A8 (ls ++ [(k, (bytesOf (⟨2, (k : Int), n, b, keep, K, kc⟩ : ActV)))]).length c8, .int .i64 (rlft (relL stops left))]) (w.heap.size + 1) 136 #[.int .i64 2, .int .i64 (k : Int), .int .i64 n, .int .u8 (b.toNat : Int), .slice K keep.length kc] := ⟨b18.setRow_ne (by omega) _, b28.setRow_ne (by omega) _⟩
  refine RegF.one 10 (by kernel_rfl) ?_
  refine RegF.opS (w' := w8.setRow (w.heap.size + 1 + 1 + 1) #[.int .i64 (many : Int), .slice As sy.length cs, .slice A8 (ls ++ [(k, (bytesOf (⟨2, (k : Int), n, b, keep, K, kc⟩ : ActV)))]).length c8, .int .i64 (rlft (relL stops left))]) rfl rfl (x_storeR (.tmp 9) (.tmp 40) rfl (w.heap.size + 1 + 1 + 1) rfl rfl b48 rfl rfl (four_oneR rfl rfl rfl rfl)) ⟨fun _ => hSe, ?_⟩
  simp only [List.getElem_toArray, List.getElem_cons_succ, List.getElem_cons_zero, Act.put]
  refine RegF.one 11 (by kernel_rfl) ?_
  refine RegF.opV (w' := w8.setRow (w.heap.size + 1 + 1 + 1) #[.int .i64 (many : Int), .slice As sy.length cs, .slice A8 (ls ++ [(k, (bytesOf (⟨2, (k : Int), n, b, keep, K, kc⟩ : ActV)))]).length c8, .int .i64 (rlft (relL stops left))]) (.int .i64 0) rfl rfl (by go_simp) ⟨fun _ => hSe, ?_⟩
  simp only [List.getElem_toArray, List.getElem_cons_succ, List.getElem_cons_zero, Act.put, List.setIfInBounds_toArray, List.set_cons_zero, List.set_cons_succ]
  refine RegF.done (by kernel_rfl) ?_
  have gZ : w8.grownBy (w8.setRow (w.heap.size + 1 + 1 + 1) #[.int .i64 (many : Int), .slice As sy.length cs, .slice A8 (ls ++ [(k, (bytesOf (⟨2, (k : Int), n, b, keep, K, kc⟩ : ActV)))]).length c8, .int .i64 (rlft (relL stops left))]) (some (w.heap.size + 1 + 1 + 1)) := setRow_grownBy _ _ _
  have DD := D8.other b48 (by show 4 ≤ 64; decide) (by omega) gZ
  have RR := R8.grownT b48 (noText4 _ _ _ _ _ _ _ _) gZ
  have B4 := b48.setRow #[.int .i64 (many : Int), .slice As sy.length cs, .slice A8 (ls ++ [(k, (bytesOf (⟨2, (k : Int), n, b, keep, K, kc⟩ : ActV)))]).length c8, .int .i64 (rlft (relL stops left))]
  have B3 := b38.setRow_ne (k := (w.heap.size + 1 + 1 + 1)) (by omega) #[.int .i64 (many : Int), .slice As sy.length cs, .slice A8 (ls ++ [(k, (bytesOf (⟨2, (k : Int), n, b, keep, K, kc⟩ : ActV)))]).length c8, .int .i64 (rlft (relL stops left))]
  have GG : w.grownBy (w8.setRow (w.heap.size + 1 + 1 + 1) #[.int .i64 (many : Int), .slice As sy.length cs, .slice A8 (ls ++ [(k, (bytesOf (⟨2, (k : Int), n, b, keep, K, kc⟩ : ActV)))]).length c8, .int .i64 (rlft (relL stops left))]) (some p) := grownBy_past GG8 gZ (by omega)
  clear hSe hSd b18 b28 b38 b48 b17 b27 b37 b47 b16 b26 b36 b46 D6 D7 D8 R6 R7 R8 GG6 GG7 GG8 gZ in7 hB7 hB8 HRw
  generalize w8.setRow (w.heap.size + 1 + 1 + 1) #[.int .i64 (many : Int), .slice As sy.length cs, .slice A8 (ls ++ [(k, (bytesOf (⟨2, (k : Int), n, b, keep, K, kc⟩ : ActV)))]).length c8, .int .i64 (rlft (relL stops left))] = wz at *
  go_wp2
  refine RegF.start (fun W => BlkIs W (w.heap.size + 1 + 1 + 1) 141 #[.int .i64 (many : Int), .slice As sy.length cs, .slice A8 (ls ++ [(k, (bytesOf (⟨2, (k : Int), n, b, keep, K, kc⟩ : ActV)))]).length c8, .int .i64 (rlft (relL stops left))]) 99 (by kernel_rfl) ?_
  have hSd : BlkIs wz.drew (w.heap.size + 1 + 1 + 1) 141 #[.int .i64 (many : Int), .slice As sy.length cs, .slice A8 (ls ++ [(k, (bytesOf (⟨2, (k : Int), n, b, keep, K, kc⟩ : ActV)))]).length c8, .int .i64 (rlft (relL stops left))] := B4
  refine RegF.take0 0 (.pointer (some ⟨p, 0, none⟩)) rfl (by kernel_rfl) (by kernel_rfl) (by kernel_rfl) rfl (fun _ _ _ h => h) hSd (RegF.yld rfl (fun W hW => by go_simp)) ?_
  simp only [List.getElem_toArray, List.getElem_cons_zero, Act.put, List.setIfInBounds_toArray, List.set_cons_zero, List.set_cons_succ]
  refine RegF.take0 1 (.agg #[.int .i64 (many : Int), .slice As sy.length cs, .slice A8 (ls ++ [(k, (bytesOf (⟨2, (k : Int), n, b, keep, K, kc⟩ : ActV)))]).length c8, .int .i64 (rlft (relL stops left))]) rfl (by kernel_rfl) (by kernel_rfl) (by kernel_rfl) rfl (fun _ _ _ h => h) hSd (RegF.yld rfl (fun W hW => by exact x_loadM rowRDisk hW.range rfl rfl rfl)) ?_
  simp only [List.getElem_toArray, List.getElem_cons_succ, List.getElem_cons_zero, Act.put, List.setIfInBounds_toArray, List.set_cons_zero, List.set_cons_succ]
  refine RegF.take0 2 (.int .i64 0) rfl (by kernel_rfl) (by kernel_rfl) (by kernel_rfl) rfl (fun _ _ _ h => h) hSd (RegF.yld rfl (fun W hW => by go_simp)) ?_
  simp only [List.getElem_toArray, List.getElem_cons_succ, List.getElem_cons_zero, Act.put, List.setIfInBounds_toArray, List.set_cons_zero, List.set_cons_succ]
  refine RegF.take0 4 (.int .i64 0) rfl (by kernel_rfl) (by kernel_rfl) (by kernel_rfl) rfl (fun _ _ _ h => h) hSd (RegF.yld rfl (fun W hW => by go_simp)) ?_
  simp only [List.getElem_toArray, List.getElem_cons_succ, List.getElem_cons_zero, Act.put, List.setIfInBounds_toArray, List.set_cons_zero, List.set_cons_succ]
  refine RegF.one 3 (by kernel_rfl) ?_
  refine RegF.opC 20 #[.tmp 111] #[27] rfl rfl rfl (enters_of Try.func20 (by kernel_rfl) rfl) #[.int .i64 0] (by simp only [List.map_toArray, List.map_cons, List.map_nil]; rfl) ((num4_gives wz.drew 0).mono ?_)
  rintro e W9 ⟨rfl, rfl⟩
  refine ⟨_, rfl, fun _ => hSd, ?_⟩
  simp only [List.getElem_toArray, List.getElem_cons_succ, List.getElem_cons_zero, Act.put, List.setIfInBounds_toArray, List.set_cons_zero, List.set_cons_succ]
  refine RegF.take0 5 (.bool true) rfl (by kernel_rfl) (by kernel_rfl) (by kernel_rfl) rfl (fun _ _ _ h => h) hSd (RegF.yld rfl (fun W hW => by go_simp)) ?_
  simp only [List.getElem_toArray, List.getElem_cons_succ, List.getElem_cons_zero, Act.put, List.setIfInBounds_toArray, List.set_cons_zero, List.set_cons_succ]
  refine RegF.one 6 (by kernel_rfl) ?_
  refine RegF.opV (w' := wz.drew) (.pointer (some ⟨p, 0, none⟩)) rfl rfl (by go_simp) ⟨fun _ => hSd, ?_⟩
  simp only [List.getElem_toArray, List.getElem_cons_succ, List.getElem_cons_zero, Act.put, List.setIfInBounds_toArray, List.set_cons_zero, List.set_cons_succ]
  have hb3d : BlkIs wz.drew (w.heap.size + 1 + 1) 141 #[.int .i64 0, .slice none 0 0, .slice none 0 0, .int .i64 0] := B3
  have hSe : BlkIs (wz.drew.setRow (w.heap.size + 1 + 1) #[.int .i64 (many : Int), .slice As sy.length cs, .slice A8 (ls ++ [(k, (bytesOf (⟨2, (k : Int), n, b, keep, K, kc⟩ : ActV)))]).length c8, .int .i64 (rlft (relL stops left))]) (w.heap.size + 1 + 1 + 1) 141 #[.int .i64 (many : Int), .slice As sy.length cs, .slice A8 (ls ++ [(k, (bytesOf (⟨2, (k : Int), n, b, keep, K, kc⟩ : ActV)))]).length c8, .int .i64 (rlft (relL stops left))] := hSd.setRow_ne (by omega) _
  refine RegF.one 7 (by kernel_rfl) ?_
  refine RegF.opS (w' := wz.drew.setRow (w.heap.size + 1 + 1) #[.int .i64 (many : Int), .slice As sy.length cs, .slice A8 (ls ++ [(k, (bytesOf (⟨2, (k : Int), n, b, keep, K, kc⟩ : ActV)))]).length c8, .int .i64 (rlft (relL stops left))]) rfl rfl (x_storeR (.tmp 7) (.tmp 110) rfl (w.heap.size + 1 + 1) rfl rfl hb3d rfl rfl (four_oneR rfl rfl rfl rfl)) ⟨fun _ => hSe, ?_⟩
  simp only [List.getElem_toArray, List.getElem_cons_succ, List.getElem_cons_zero, Act.put]
  refine RegF.one 8 (by kernel_rfl) ?_
  refine RegF.opV (w' := wz.drew.setRow (w.heap.size + 1 + 1) #[.int .i64 (many : Int), .slice As sy.length cs, .slice A8 (ls ++ [(k, (bytesOf (⟨2, (k : Int), n, b, keep, K, kc⟩ : ActV)))]).length c8, .int .i64 (rlft (relL stops left))]) (.bool true) rfl rfl (by go_simp) ⟨fun _ => hSe, ?_⟩
  simp only [List.getElem_toArray, List.getElem_cons_succ, List.getElem_cons_zero, Act.put, List.setIfInBounds_toArray, List.set_cons_zero, List.set_cons_succ]
  refine RegF.done (by kernel_rfl) ?_
  go_wp2
  have gE : wz.drew.grownBy (wz.drew.setRow (w.heap.size + 1 + 1) #[.int .i64 (many : Int), .slice As sy.length cs, .slice A8 (ls ++ [(k, (bytesOf (⟨2, (k : Int), n, b, keep, K, kc⟩ : ActV)))]).length c8, .int .i64 (rlft (relL stops left))]) (some (w.heap.size + 1 + 1)) := setRow_grownBy _ _ _
  have DE := (DD.grow ((Below.refl _ wz).drew)).other hb3d (by show 4 ≤ 64; decide) (by omega) gE
  have RE := (RR.grow ((Below.refl _ wz).drew)).grownT hb3d (noText4 _ _ _ _ _ _ _ _) gE
  have GE := grownBy_past (grownBy_trans GG (grownBy_drew wz (some p))) gE (by omega)
  exact bodyPost_ret (results3 6 7 8 rfl rfl rfl rfl rowRDisk (hb3d.setRow _) (by rfl)) rfl ⟨p, As, cs, A8, c8, rfl, DE, RE, .inl rfl, GE⟩
end Go.Proofs.Ytlelckdcmlpmdaa
