/- Texts that the proof of DiskCopies leans on, part 11. -/
import Derived.Test.YtlelckdcmlpmdaaDiskCopiesB10
/- loupelaw04.act: Sync, Stop. -/
namespace Go.Proofs.Ytlelckdcmlpmdaa
open Go Go.RowKit Lou

set_option maxRecDepth 100000 in
set_option maxHeartbeats 8000000 in
theorem act_sbad (w : World) (p many : Nat) (sy ls : List (Nat × List UInt8)) (left : Int) (stops : Bool) (As : Option Addr) (cs : Nat) (Al : Option Addr) (cl : Nat) (at_ n : Int) (b : UInt8) (keep : List Bool) (K : Option Addr) (kc : Nat) (hD : DkIs w p many (gOf sy) ls left stops) (hR : RIs w w.heap.size sy ls As cs Al cl) (hok : StOk many ⟨sy, ls, left, stops⟩) (hn1 : sy.length ≤ 400000) (hn2 : ls.length ≤ 400000) (h0 : relL stops left = 0) :
    Calls Try.prog 83 #[.pointer (some ⟨p, 0, none⟩), VAL (many : Int) As sy.length cs Al ls.length cl (relL stops left), .agg #[.int .i64 3, .int .i64 at_, .int .i64 n, .int .u8 (b.toNat : Int), .slice K keep.length kc]] w (ActOut w p many ⟨sy, ls, left, stops⟩) := by
  unfold ActOut VAL
  have H0 := Lib.hid h0
  clear h0
  obtain ⟨b1, b2, b3, b4, hB1⟩ := acW_is w #[.int .i64 (many : Int), .slice As sy.length cs, .slice Al ls.length cl, .int .i64 (relL stops left)] #[.int .i64 3, .int .i64 at_, .int .i64 n, .int .u8 (b.toNat : Int), .slice K keep.length kc]
  have bl0 := ((BlkIs.new w 141 #[.int .i64 (many : Int), .slice As sy.length cs, .slice Al ls.length cl, .int .i64 (relL stops left)]).alloc (.cells #[.int .i64 3, .int .i64 at_, .int .i64 n, .int .u8 (b.toNat : Int), .slice K keep.length kc] 136)).alloc (.cells #[.int .i64 0, .slice none 0 0, .slice none 0 0, .int .i64 0] 141)
  have bs0 := BlkIs.new (((w.alloc (.cells #[.int .i64 (many : Int), .slice As sy.length cs, .slice Al ls.length cl, .int .i64 (relL stops left)] 141)).alloc (.cells #[.int .i64 3, .int .i64 at_, .int .i64 n, .int .u8 (b.toNat : Int), .slice K keep.length kc] 136)).alloc (.cells #[.int .i64 0, .slice none 0 0, .slice none 0 0, .int .i64 0] 141)) 141 #[.int .i64 0, .slice none 0 0, .slice none 0 0, .int .i64 0]
  simp only [World.size_alloc] at bs0
  obtain ⟨W1, hW1⟩ : ∃ W, W = acW w #[.int .i64 (many : Int), .slice As sy.length cs, .slice Al ls.length cl, .int .i64 (relL stops left)] #[.int .i64 3, .int .i64 at_, .int .i64 n, .int .u8 (b.toNat : Int), .slice K keep.length kc] := ⟨_, rfl⟩
  rw [← hW1] at b1 b2 b3 b4 hB1
  unfold acW zeroR at hW1
  have HW1 := Lib.hid hW1
  have hp := hD.lt
  clear hW1
  have x0 : W1.cell? ⟨w.heap.size + 1, 0, none⟩ = some (.int .i64 3) := by rw [b2.cell]; rfl
  have D1 := hD.grow hB1
  have R1 := hR.grow hB1
  go_enter Try.func83, Try.ntmps83
  go_upto_region 2 with (first
    | (refine wp_loadW rfl 141 (.tmp 4) rfl w.heap.size rfl rowRDisk bl0 (by rfl) ?_)
    | (refine wp_storeW rfl 141 (.tmp 9) (.tmp 16) rfl (w.heap.size + 1 + 1 + 1) rfl rfl rowRDisk bs0 (by rfl) (by rfl) (four_oneR rfl rfl rfl rfl) ?_))
  rw [← HW1.out]
  clear HW1 bl0 bs0
  have x2 : W1.cell? ⟨w.heap.size + 1, 2, none⟩ = some (.int .i64 n) := by rw [b2.cell]; rfl
  have x4 : W1.cell? ⟨w.heap.size + 1, 4, none⟩ = some (.slice K keep.length kc) := by rw [b2.cell]; rfl
  go_wp2_with (first
    | (go_at_call 23; refine (sync_bad W1 p many (gOf sy) ls left stops D1 H0.out).mono ?_; rintro e w6 ⟨rfl, hB6⟩; have b16 := b1.below hB6 b1.lt; have b26 := b2.below hB6 b2.lt; have b36 := b3.below hB6 b3.lt; have b46 := b4.below hB6 b4.lt; have D6 := D1.grow hB6; have R6 := R1.grow hB6; have GG6 := below_grownBy (hB1.trans (hB6.mono hB1.size)) p; have x26 : w6.cell? ⟨w.heap.size + 1, 2, none⟩ = some (.int .i64 n) := (by rw [b26.cell]; rfl); have x46 : w6.cell? ⟨w.heap.size + 1, 4, none⟩ = some (.slice K keep.length kc) := (by rw [b26.cell]; rfl))
    | (refine wp_loadW rfl 141 (.tmp 4) rfl w.heap.size rfl rowRDisk b16 (by rfl) ?_)
    | (go_at_call 146; have HRx := rsync_bad w6 (many : Int) As sy.length cs Al ls.length cl (relL stops left) H0.out; unfold VAL at HRx; refine HRx.mono ?_; rintro e w8 ⟨rfl, hB8⟩; have b38 := b36.below hB8 b36.lt; have b48 := b46.below hB8 b46.lt; have D8 := D6.grow hB8; have GG8 := grownBy_trans GG6 (below_grownBy hB8 p); have R8 := R6.grow hB8)
    | (refine wp_storeW rfl 141 (.tmp 9) (.tmp 49) rfl (w.heap.size + 1 + 1 + 1) rfl rfl rowRDisk b48 (by rfl) (by rfl) (four_oneR rfl rfl rfl rfl) ?_))
  have gZ : w8.grownBy (w8.setRow (w.heap.size + 1 + 1 + 1) #[.int .i64 (many : Int), .slice As sy.length cs, .slice Al ls.length cl, .int .i64 (relL stops left)]) (some (w.heap.size + 1 + 1 + 1)) := setRow_grownBy _ _ _
  have DD := D8.other b48 (by show 4 ≤ 64; decide) (by omega) gZ
  have RR := R8.grownT b48 (noText4 _ _ _ _ _ _ _ _) gZ
  have B4 := b48.setRow #[.int .i64 (many : Int), .slice As sy.length cs, .slice Al ls.length cl, .int .i64 (relL stops left)]
  have B3 := b38.setRow_ne (k := (w.heap.size + 1 + 1 + 1)) (by omega) #[.int .i64 (many : Int), .slice As sy.length cs, .slice Al ls.length cl, .int .i64 (relL stops left)]
  have GG : w.grownBy (w8.setRow (w.heap.size + 1 + 1 + 1) #[.int .i64 (many : Int), .slice As sy.length cs, .slice Al ls.length cl, .int .i64 (relL stops left)]) (some p) := grownBy_past GG8 gZ (by omega)
  clear b38 b48 b16 b26 b36 b46 D6 D8 R6 R8 GG6 GG8 gZ hB8 x26
  generalize w8.setRow (w.heap.size + 1 + 1 + 1) #[.int .i64 (many : Int), .slice As sy.length cs, .slice Al ls.length cl, .int .i64 (relL stops left)] = wz at *
  go_wp2
  refine RegF.start (fun W => BlkIs W (w.heap.size + 1 + 1 + 1) 141 #[.int .i64 (many : Int), .slice As sy.length cs, .slice Al ls.length cl, .int .i64 (relL stops left)]) 99 (by kernel_rfl) ?_
  have hSd : BlkIs wz.drew (w.heap.size + 1 + 1 + 1) 141 #[.int .i64 (many : Int), .slice As sy.length cs, .slice Al ls.length cl, .int .i64 (relL stops left)] := B4
  refine RegF.take0 0 (.pointer (some ⟨p, 0, none⟩)) rfl (by kernel_rfl) (by kernel_rfl) (by kernel_rfl) rfl (fun _ _ _ h => h) hSd (RegF.yld rfl (fun W hW => by go_simp)) ?_
  simp only [List.getElem_toArray, List.getElem_cons_zero, Act.put, List.setIfInBounds_toArray, List.set_cons_zero, List.set_cons_succ]
  refine RegF.take0 1 (.agg #[.int .i64 (many : Int), .slice As sy.length cs, .slice Al ls.length cl, .int .i64 (relL stops left)]) rfl (by kernel_rfl) (by kernel_rfl) (by kernel_rfl) rfl (fun _ _ _ h => h) hSd (RegF.yld rfl (fun W hW => by exact x_loadM rowRDisk hW.range rfl rfl rfl)) ?_
  simp only [List.getElem_toArray, List.getElem_cons_succ, List.getElem_cons_zero, Act.put, List.setIfInBounds_toArray, List.set_cons_zero, List.set_cons_succ]
  refine RegF.take0 2 (.int .i64 140) rfl (by kernel_rfl) (by kernel_rfl) (by kernel_rfl) rfl (fun _ _ _ h => h) hSd (RegF.yld rfl (fun W hW => by go_simp)) ?_
  simp only [List.getElem_toArray, List.getElem_cons_succ, List.getElem_cons_zero, Act.put, List.setIfInBounds_toArray, List.set_cons_zero, List.set_cons_succ]
  refine RegF.take0 4 (.int .i64 140) rfl (by kernel_rfl) (by kernel_rfl) (by kernel_rfl) rfl (fun _ _ _ h => h) hSd (RegF.yld rfl (fun W hW => by go_simp)) ?_
  simp only [List.getElem_toArray, List.getElem_cons_succ, List.getElem_cons_zero, Act.put, List.setIfInBounds_toArray, List.set_cons_zero, List.set_cons_succ]
  refine RegF.one 3 (by kernel_rfl) ?_
  refine RegF.opC 20 #[.tmp 111] #[27] rfl rfl rfl (enters_of Try.func20 (by kernel_rfl) rfl) #[.int .i64 140] (by simp only [List.map_toArray, List.map_cons, List.map_nil]; rfl) ((num4_gives wz.drew 140).mono ?_)
  rintro e W9 ⟨rfl, rfl⟩
  refine ⟨_, rfl, fun _ => hSd, ?_⟩
  simp only [List.getElem_toArray, List.getElem_cons_succ, List.getElem_cons_zero, Act.put, List.setIfInBounds_toArray, List.set_cons_zero, List.set_cons_succ]
  refine RegF.take0 5 (.bool true) rfl (by kernel_rfl) (by kernel_rfl) (by kernel_rfl) rfl (fun _ _ _ h => h) hSd (RegF.yld rfl (fun W hW => by go_simp)) ?_
  simp only [List.getElem_toArray, List.getElem_cons_succ, List.getElem_cons_zero, Act.put, List.setIfInBounds_toArray, List.set_cons_zero, List.set_cons_succ]
  refine RegF.one 6 (by kernel_rfl) ?_
  refine RegF.opV (w' := wz.drew) (.pointer (some ⟨p, 0, none⟩)) rfl rfl (by go_simp) ⟨fun _ => hSd, ?_⟩
  simp only [List.getElem_toArray, List.getElem_cons_succ, List.getElem_cons_zero, Act.put, List.setIfInBounds_toArray, List.set_cons_zero, List.set_cons_succ]
  have hb3d : BlkIs wz.drew (w.heap.size + 1 + 1) 141 #[.int .i64 0, .slice none 0 0, .slice none 0 0, .int .i64 0] := B3
  have hSe : BlkIs (wz.drew.setRow (w.heap.size + 1 + 1) #[.int .i64 (many : Int), .slice As sy.length cs, .slice Al ls.length cl, .int .i64 (relL stops left)]) (w.heap.size + 1 + 1 + 1) 141 #[.int .i64 (many : Int), .slice As sy.length cs, .slice Al ls.length cl, .int .i64 (relL stops left)] := hSd.setRow_ne (by omega) _
  refine RegF.one 7 (by kernel_rfl) ?_
  refine RegF.opS (w' := wz.drew.setRow (w.heap.size + 1 + 1) #[.int .i64 (many : Int), .slice As sy.length cs, .slice Al ls.length cl, .int .i64 (relL stops left)]) rfl rfl (x_storeR (.tmp 7) (.tmp 110) rfl (w.heap.size + 1 + 1) rfl rfl hb3d rfl rfl (four_oneR rfl rfl rfl rfl)) ⟨fun _ => hSe, ?_⟩
  simp only [List.getElem_toArray, List.getElem_cons_succ, List.getElem_cons_zero, Act.put]
  refine RegF.one 8 (by kernel_rfl) ?_
  refine RegF.opV (w' := wz.drew.setRow (w.heap.size + 1 + 1) #[.int .i64 (many : Int), .slice As sy.length cs, .slice Al ls.length cl, .int .i64 (relL stops left)]) (.bool true) rfl rfl (by go_simp) ⟨fun _ => hSe, ?_⟩
  simp only [List.getElem_toArray, List.getElem_cons_succ, List.getElem_cons_zero, Act.put, List.setIfInBounds_toArray, List.set_cons_zero, List.set_cons_succ]
  refine RegF.done (by kernel_rfl) ?_
  go_wp2
  have gE : wz.drew.grownBy (wz.drew.setRow (w.heap.size + 1 + 1) #[.int .i64 (many : Int), .slice As sy.length cs, .slice Al ls.length cl, .int .i64 (relL stops left)]) (some (w.heap.size + 1 + 1)) := setRow_grownBy _ _ _
  have DE := (DD.grow ((Below.refl _ wz).drew)).other hb3d (by show 4 ≤ 64; decide) (by omega) gE
  have RE := (RR.grow ((Below.refl _ wz).drew)).grownT hb3d (noText4 _ _ _ _ _ _ _ _) gE
  have GE := grownBy_past (grownBy_trans GG (grownBy_drew wz (some p))) gE (by omega)
  exact bodyPost_ret (results3 6 7 8 rfl rfl rfl rfl rowRDisk (hb3d.setRow _) (by rfl)) rfl ⟨p, As, cs, Al, cl, rfl, DE, RE, .inl rfl, GE⟩
set_option maxRecDepth 100000 in
set_option maxHeartbeats 8000000 in
theorem act_sok (w : World) (p many : Nat) (sy ls : List (Nat × List UInt8)) (left : Int) (stops : Bool) (As : Option Addr) (cs : Nat) (Al : Option Addr) (cl : Nat) (at_ n : Int) (b : UInt8) (keep : List Bool) (K : Option Addr) (kc : Nat) (hD : DkIs w p many (gOf sy) ls left stops) (hR : RIs w w.heap.size sy ls As cs Al cl) (hok : StOk many ⟨sy, ls, left, stops⟩) (hn1 : sy.length ≤ 400000) (hn2 : ls.length ≤ 400000) (hL0 : ¬ relL stops left = 0) :
    Calls Try.prog 83 #[.pointer (some ⟨p, 0, none⟩), VAL (many : Int) As sy.length cs Al ls.length cl (relL stops left), .agg #[.int .i64 3, .int .i64 at_, .int .i64 n, .int .u8 (b.toNat : Int), .slice K keep.length kc]] w (ActOut w p many ⟨sy ++ ls, [], lft stops left, stops⟩) := by
  have hs0 : (stops && left == 0) = false := by rw [relL_stopped]; exact decide_eq_false hL0
  have hL := relL_lft hok.pos hL0
  unfold ActOut VAL
  simp only
  rw [hL, gOf_app]
  generalize hal : sy ++ ls = al
  have HAL := Lib.hid hal
  clear hal
  have HL0 := Lib.hid hL0
  have HS0 := Lib.hid hs0
  clear hL0 hs0 hL
  obtain ⟨b1, b2, b3, b4, hB1⟩ := acW_is w #[.int .i64 (many : Int), .slice As sy.length cs, .slice Al ls.length cl, .int .i64 (relL stops left)] #[.int .i64 3, .int .i64 at_, .int .i64 n, .int .u8 (b.toNat : Int), .slice K keep.length kc]
  have bl0 := ((BlkIs.new w 141 #[.int .i64 (many : Int), .slice As sy.length cs, .slice Al ls.length cl, .int .i64 (relL stops left)]).alloc (.cells #[.int .i64 3, .int .i64 at_, .int .i64 n, .int .u8 (b.toNat : Int), .slice K keep.length kc] 136)).alloc (.cells #[.int .i64 0, .slice none 0 0, .slice none 0 0, .int .i64 0] 141)
  have bs0 := BlkIs.new (((w.alloc (.cells #[.int .i64 (many : Int), .slice As sy.length cs, .slice Al ls.length cl, .int .i64 (relL stops left)] 141)).alloc (.cells #[.int .i64 3, .int .i64 at_, .int .i64 n, .int .u8 (b.toNat : Int), .slice K keep.length kc] 136)).alloc (.cells #[.int .i64 0, .slice none 0 0, .slice none 0 0, .int .i64 0] 141)) 141 #[.int .i64 0, .slice none 0 0, .slice none 0 0, .int .i64 0]
  simp only [World.size_alloc] at bs0
  obtain ⟨W1, hW1⟩ : ∃ W, W = acW w #[.int .i64 (many : Int), .slice As sy.length cs, .slice Al ls.length cl, .int .i64 (relL stops left)] #[.int .i64 3, .int .i64 at_, .int .i64 n, .int .u8 (b.toNat : Int), .slice K keep.length kc] := ⟨_, rfl⟩
  rw [← hW1] at b1 b2 b3 b4 hB1
  unfold acW zeroR at hW1
  have HW1 := Lib.hid hW1
  have hp := hD.lt
  clear hW1
  have x0 : W1.cell? ⟨w.heap.size + 1, 0, none⟩ = some (.int .i64 3) := by rw [b2.cell]; rfl
  have D1 := hD.grow hB1
  have R1 := hR.grow hB1
  go_enter Try.func83, Try.ntmps83
  go_upto_region 2 with (first
    | (refine wp_loadW rfl 141 (.tmp 4) rfl w.heap.size rfl rowRDisk bl0 (by rfl) ?_)
    | (refine wp_storeW rfl 141 (.tmp 9) (.tmp 16) rfl (w.heap.size + 1 + 1 + 1) rfl rfl rowRDisk bs0 (by rfl) (by rfl) (four_oneR rfl rfl rfl rfl) ?_))
  rw [← HW1.out]
  clear HW1 bl0 bs0
  have x2 : W1.cell? ⟨w.heap.size + 1, 2, none⟩ = some (.int .i64 n) := by rw [b2.cell]; rfl
  have x4 : W1.cell? ⟨w.heap.size + 1, 4, none⟩ = some (.slice K keep.length kc) := by rw [b2.cell]; rfl
  go_wp2_with (first
    | (go_at_call 23; refine (sync_gives W1 p many (gOf sy) ls left stops D1 HS0.out (by omega) hok.lo hok.hi).mono ?_; rintro e w6 ⟨rfl, D6, hg6⟩; have b16 := b1.grown hg6 (fun e => by injection e with e; omega); have b26 := b2.grown hg6 (fun e => by injection e with e; omega); have b36 := b3.grown hg6 (fun e => by injection e with e; omega); have b46 := b4.grown hg6 (fun e => by injection e with e; omega); have R6 := R1.past D1 hg6; have GG6 := grownBy_trans (below_grownBy hB1 p) hg6; have x26 : w6.cell? ⟨w.heap.size + 1, 2, none⟩ = some (.int .i64 n) := (by rw [b26.cell]; rfl); have x46 : w6.cell? ⟨w.heap.size + 1, 4, none⟩ = some (.slice K keep.length kc) := (by rw [b26.cell]; rfl))
    | (refine wp_loadW rfl 141 (.tmp 4) rfl w.heap.size rfl rowRDisk b16 (by rfl) ?_)
    | (go_at_call 146; have HRx := rsync_ok w6 (many : Int) sy ls As cs Al cl (relL stops left) R6 hn1 hn2 (relL_lo hok.lo) (relL_hi hok.hi) HL0.out; rw [HAL.out] at HRx; unfold VAL at HRx; refine HRx.mono ?_; rintro e w8 ⟨A8, c8, rfl, R8, hB8⟩; have b38 := b36.below hB8 b36.lt; have b48 := b46.below hB8 b46.lt; have D8 := D6.grow hB8; have GG8 := grownBy_trans GG6 (below_grownBy hB8 p))
    | (refine wp_storeW rfl 141 (.tmp 9) (.tmp 49) rfl (w.heap.size + 1 + 1 + 1) rfl rfl rowRDisk b48 (by rfl) (by rfl) (four_oneR rfl rfl rfl rfl) ?_))
  have gZ : w8.grownBy (w8.setRow (w.heap.size + 1 + 1 + 1) #[.int .i64 (many : Int), .slice A8 al.length c8, .slice none 0 0, .int .i64 (rlft (relL stops left))]) (some (w.heap.size + 1 + 1 + 1)) := setRow_grownBy _ _ _
  have DD := D8.other b48 (by show 4 ≤ 64; decide) (by omega) gZ
  have RR := R8.grownT b48 (noText4 _ _ _ _ _ _ _ _) gZ
  have B4 := b48.setRow #[.int .i64 (many : Int), .slice A8 al.length c8, .slice none 0 0, .int .i64 (rlft (relL stops left))]
  have B3 := b38.setRow_ne (k := (w.heap.size + 1 + 1 + 1)) (by omega) #[.int .i64 (many : Int), .slice A8 al.length c8, .slice none 0 0, .int .i64 (rlft (relL stops left))]
  have GG : w.grownBy (w8.setRow (w.heap.size + 1 + 1 + 1) #[.int .i64 (many : Int), .slice A8 al.length c8, .slice none 0 0, .int .i64 (rlft (relL stops left))]) (some p) := grownBy_past GG8 gZ (by omega)
  clear b38 b48 b16 b26 b36 b46 D6 D8 R6 R8 GG6 GG8 gZ hB8 x26
  generalize w8.setRow (w.heap.size + 1 + 1 + 1) #[.int .i64 (many : Int), .slice A8 al.length c8, .slice none 0 0, .int .i64 (rlft (relL stops left))] = wz at *
  go_wp2
  refine RegF.start (fun W => BlkIs W (w.heap.size + 1 + 1 + 1) 141 #[.int .i64 (many : Int), .slice A8 al.length c8, .slice none 0 0, .int .i64 (rlft (relL stops left))]) 99 (by kernel_rfl) ?_
  have hSd : BlkIs wz.drew (w.heap.size + 1 + 1 + 1) 141 #[.int .i64 (many : Int), .slice A8 al.length c8, .slice none 0 0, .int .i64 (rlft (relL stops left))] := B4
  refine RegF.take0 0 (.pointer (some ⟨p, 0, none⟩)) rfl (by kernel_rfl) (by kernel_rfl) (by kernel_rfl) rfl (fun _ _ _ h => h) hSd (RegF.yld rfl (fun W hW => by go_simp)) ?_
  simp only [List.getElem_toArray, List.getElem_cons_zero, Act.put, List.setIfInBounds_toArray, List.set_cons_zero, List.set_cons_succ]
  refine RegF.take0 1 (.agg #[.int .i64 (many : Int), .slice A8 al.length c8, .slice none 0 0, .int .i64 (rlft (relL stops left))]) rfl (by kernel_rfl) (by kernel_rfl) (by kernel_rfl) rfl (fun _ _ _ h => h) hSd (RegF.yld rfl (fun W hW => by exact x_loadM rowRDisk hW.range rfl rfl rfl)) ?_
  simp only [List.getElem_toArray, List.getElem_cons_succ, List.getElem_cons_zero, Act.put, List.setIfInBounds_toArray, List.set_cons_zero, List.set_cons_succ]
  refine RegF.take0 2 (.int .i64 0) rfl (by kernel_rfl) (by kernel_rfl) (by kernel_rfl) rfl (fun _ _ _ h => h) hSd (RegF.yld rfl (fun W hW => by go_simp)) ?_
  simp only [List.getElem_toArray, List.getElem_cons_succ, List.getElem_cons_zero, Act.put, List.setIfInBounds_toArray, List.set_cons_zero, List.set_cons_succ]
  refine RegF.take0 4 (.int .i64 0) rfl (by kernel_rfl) (by kernel_rfl) (by kernel_rfl) rfl (fun _ _ _ h => h) hSd (RegF.yld rfl (fun W hW => by go_simp)) ?_
  simp only [List.getElem_toArray, List.getElem_cons_succ, List.getElem_cons_zero, Act.put, List.setIfInBounds_toArray, List.set_cons_zero, List.set_cons_succ]
  refine RegF.one 3 (by kernel_rfl) ?_
  refine RegF.opC 20 #[.tmp 111] #[27] rfl rfl rfl (enters_of Try.func20 (by kernel_rfl) rfl) #[.int .i64 0] (by simp only [List.map_toArray, List.map_cons, List.map_nil]; rfl) ((num4_gives wz.drew 0).mono ?_)
  rintro e W9 ⟨rfl, rfl⟩
  refine ⟨_, rfl, fun _ => hSd, ?_⟩
  simp only [List.getElem_toArray, List.getElem_cons_succ, List.getElem_cons_zero, Act.put, List.setIfInBounds_toArray, List.set_cons_zero, List.set_cons_succ]
  refine RegF.take0 5 (.bool true) rfl (by kernel_rfl) (by kernel_rfl) (by kernel_rfl) rfl (fun _ _ _ h => h) hSd (RegF.yld rfl (fun W hW => by go_simp)) ?_
  simp only [List.getElem_toArray, List.getElem_cons_succ, List.getElem_cons_zero, Act.put, List.setIfInBounds_toArray, List.set_cons_zero, List.set_cons_succ]
  refine RegF.one 6 (by kernel_rfl) ?_
  refine RegF.opV (w' := wz.drew) (.pointer (some ⟨p, 0, none⟩)) rfl rfl (by go_simp) ⟨fun _ => hSd, ?_⟩
  simp only [List.getElem_toArray, List.getElem_cons_succ, List.getElem_cons_zero, Act.put, List.setIfInBounds_toArray, List.set_cons_zero, List.set_cons_succ]
  have hb3d : BlkIs wz.drew (w.heap.size + 1 + 1) 141 #[.int .i64 0, .slice none 0 0, .slice none 0 0, .int .i64 0] := B3
  have hSe : BlkIs (wz.drew.setRow (w.heap.size + 1 + 1) #[.int .i64 (many : Int), .slice A8 al.length c8, .slice none 0 0, .int .i64 (rlft (relL stops left))]) (w.heap.size + 1 + 1 + 1) 141 #[.int .i64 (many : Int), .slice A8 al.length c8, .slice none 0 0, .int .i64 (rlft (relL stops left))] := hSd.setRow_ne (by omega) _
  refine RegF.one 7 (by kernel_rfl) ?_
  refine RegF.opS (w' := wz.drew.setRow (w.heap.size + 1 + 1) #[.int .i64 (many : Int), .slice A8 al.length c8, .slice none 0 0, .int .i64 (rlft (relL stops left))]) rfl rfl (x_storeR (.tmp 7) (.tmp 110) rfl (w.heap.size + 1 + 1) rfl rfl hb3d rfl rfl (four_oneR rfl rfl rfl rfl)) ⟨fun _ => hSe, ?_⟩
  simp only [List.getElem_toArray, List.getElem_cons_succ, List.getElem_cons_zero, Act.put]
  refine RegF.one 8 (by kernel_rfl) ?_
  refine RegF.opV (w' := wz.drew.setRow (w.heap.size + 1 + 1) #[.int .i64 (many : Int), .slice A8 al.length c8, .slice none 0 0, .int .i64 (rlft (relL stops left))]) (.bool true) rfl rfl (by go_simp) ⟨fun _ => hSe, ?_⟩
  simp only [List.getElem_toArray, List.getElem_cons_succ, List.getElem_cons_zero, Act.put, List.setIfInBounds_toArray, List.set_cons_zero, List.set_cons_succ]
  refine RegF.done (by kernel_rfl) ?_
  go_wp2
  have gE : wz.drew.grownBy (wz.drew.setRow (w.heap.size + 1 + 1) #[.int .i64 (many : Int), .slice A8 al.length c8, .slice none 0 0, .int .i64 (rlft (relL stops left))]) (some (w.heap.size + 1 + 1)) := setRow_grownBy _ _ _
  have DE := (DD.grow ((Below.refl _ wz).drew)).other hb3d (by show 4 ≤ 64; decide) (by omega) gE
  have RE := (RR.grow ((Below.refl _ wz).drew)).grownT hb3d (noText4 _ _ _ _ _ _ _ _) gE
  have GE := grownBy_past (grownBy_trans GG (grownBy_drew wz (some p))) gE (by omega)
  exact bodyPost_ret (results3 6 7 8 rfl rfl rfl rfl rowRDisk (hb3d.setRow _) (by rfl)) rfl ⟨p, A8, c8, none, 0, rfl, DE, RE, .inl rfl, GE⟩
set_option maxRecDepth 100000 in
set_option maxHeartbeats 8000000 in
theorem act_tbad (w : World) (p many : Nat) (sy ls : List (Nat × List UInt8)) (left : Int) (stops : Bool) (As : Option Addr) (cs : Nat) (Al : Option Addr) (cl : Nat) (at_ n : Int) (b : UInt8) (keep : List Bool) (K : Option Addr) (kc : Nat) (hD : DkIs w p many (gOf sy) ls left stops) (hR : RIs w w.heap.size sy ls As cs Al cl) (hok : StOk many ⟨sy, ls, left, stops⟩) (hn1 : sy.length ≤ 400000) (hn2 : ls.length ≤ 400000) (ht : n < 0) :
    Calls Try.prog 83 #[.pointer (some ⟨p, 0, none⟩), VAL (many : Int) As sy.length cs Al ls.length cl (relL stops left), .agg #[.int .i64 4, .int .i64 at_, .int .i64 n, .int .u8 (b.toNat : Int), .slice K keep.length kc]] w (ActOut w p many ⟨sy, ls, left, stops⟩) := by
  unfold ActOut VAL
  have H0 := Lib.hid ht
  clear ht
  obtain ⟨b1, b2, b3, b4, hB1⟩ := acW_is w #[.int .i64 (many : Int), .slice As sy.length cs, .slice Al ls.length cl, .int .i64 (relL stops left)] #[.int .i64 4, .int .i64 at_, .int .i64 n, .int .u8 (b.toNat : Int), .slice K keep.length kc]
  have bl0 := ((BlkIs.new w 141 #[.int .i64 (many : Int), .slice As sy.length cs, .slice Al ls.length cl, .int .i64 (relL stops left)]).alloc (.cells #[.int .i64 4, .int .i64 at_, .int .i64 n, .int .u8 (b.toNat : Int), .slice K keep.length kc] 136)).alloc (.cells #[.int .i64 0, .slice none 0 0, .slice none 0 0, .int .i64 0] 141)
  have bs0 := BlkIs.new (((w.alloc (.cells #[.int .i64 (many : Int), .slice As sy.length cs, .slice Al ls.length cl, .int .i64 (relL stops left)] 141)).alloc (.cells #[.int .i64 4, .int .i64 at_, .int .i64 n, .int .u8 (b.toNat : Int), .slice K keep.length kc] 136)).alloc (.cells #[.int .i64 0, .slice none 0 0, .slice none 0 0, .int .i64 0] 141)) 141 #[.int .i64 0, .slice none 0 0, .slice none 0 0, .int .i64 0]
  simp only [World.size_alloc] at bs0
  obtain ⟨W1, hW1⟩ : ∃ W, W = acW w #[.int .i64 (many : Int), .slice As sy.length cs, .slice Al ls.length cl, .int .i64 (relL stops left)] #[.int .i64 4, .int .i64 at_, .int .i64 n, .int .u8 (b.toNat : Int), .slice K keep.length kc] := ⟨_, rfl⟩
  rw [← hW1] at b1 b2 b3 b4 hB1
  unfold acW zeroR at hW1
  have HW1 := Lib.hid hW1
  have hp := hD.lt
  clear hW1
  have x0 : W1.cell? ⟨w.heap.size + 1, 0, none⟩ = some (.int .i64 4) := by rw [b2.cell]; rfl
  have D1 := hD.grow hB1
  have R1 := hR.grow hB1
  go_enter Try.func83, Try.ntmps83
  go_upto_region 2 with (first
    | (refine wp_loadW rfl 141 (.tmp 4) rfl w.heap.size rfl rowRDisk bl0 (by rfl) ?_)
    | (refine wp_storeW rfl 141 (.tmp 9) (.tmp 16) rfl (w.heap.size + 1 + 1 + 1) rfl rfl rowRDisk bs0 (by rfl) (by rfl) (four_oneR rfl rfl rfl rfl) ?_))
  rw [← HW1.out]
  clear HW1 bl0 bs0
  have x2 : W1.cell? ⟨w.heap.size + 1, 2, none⟩ = some (.int .i64 n) := by rw [b2.cell]; rfl
  have x4 : W1.cell? ⟨w.heap.size + 1, 4, none⟩ = some (.slice K keep.length kc) := by rw [b2.cell]; rfl
  go_wp2_with (first
    | (go_at_call 87; refine (stop_bad W1 p many (gOf sy) ls left stops D1 n H0.out).mono ?_; rintro e w6 ⟨rfl, hB6⟩; have b16 := b1.below hB6 b1.lt; have b26 := b2.below hB6 b2.lt; have b36 := b3.below hB6 b3.lt; have b46 := b4.below hB6 b4.lt; have D6 := D1.grow hB6; have R6 := R1.grow hB6; have GG6 := below_grownBy (hB1.trans (hB6.mono hB1.size)) p; have x26 : w6.cell? ⟨w.heap.size + 1, 2, none⟩ = some (.int .i64 n) := (by rw [b26.cell]; rfl); have x46 : w6.cell? ⟨w.heap.size + 1, 4, none⟩ = some (.slice K keep.length kc) := (by rw [b26.cell]; rfl))
    | (refine wp_loadW rfl 141 (.tmp 4) rfl w.heap.size rfl rowRDisk b16 (by rfl) ?_)
    | (go_at_call 147; have HRx := rstop_gives w6 (many : Int) As sy.length cs Al ls.length cl (relL stops left) n; rw [if_pos H0.out, if_pos H0.out] at HRx; unfold VAL at HRx; refine HRx.mono ?_; rintro e w8 ⟨rfl, hB8⟩; have b38 := b36.below hB8 b36.lt; have b48 := b46.below hB8 b46.lt; have D8 := D6.grow hB8; have GG8 := grownBy_trans GG6 (below_grownBy hB8 p); have R8 := R6.grow hB8)
    | (refine wp_storeW rfl 141 (.tmp 9) (.tmp 62) rfl (w.heap.size + 1 + 1 + 1) rfl rfl rowRDisk b48 (by rfl) (by rfl) (four_oneR rfl rfl rfl rfl) ?_))
  have gZ : w8.grownBy (w8.setRow (w.heap.size + 1 + 1 + 1) #[.int .i64 (many : Int), .slice As sy.length cs, .slice Al ls.length cl, .int .i64 (relL stops left)]) (some (w.heap.size + 1 + 1 + 1)) := setRow_grownBy _ _ _
  have DD := D8.other b48 (by show 4 ≤ 64; decide) (by omega) gZ
  have RR := R8.grownT b48 (noText4 _ _ _ _ _ _ _ _) gZ
  have B4 := b48.setRow #[.int .i64 (many : Int), .slice As sy.length cs, .slice Al ls.length cl, .int .i64 (relL stops left)]
  have B3 := b38.setRow_ne (k := (w.heap.size + 1 + 1 + 1)) (by omega) #[.int .i64 (many : Int), .slice As sy.length cs, .slice Al ls.length cl, .int .i64 (relL stops left)]
  have GG : w.grownBy (w8.setRow (w.heap.size + 1 + 1 + 1) #[.int .i64 (many : Int), .slice As sy.length cs, .slice Al ls.length cl, .int .i64 (relL stops left)]) (some p) := grownBy_past GG8 gZ (by omega)
  clear b38 b48 b16 b26 b36 b46 D6 D8 R6 R8 GG6 GG8 gZ hB8 x26
  generalize w8.setRow (w.heap.size + 1 + 1 + 1) #[.int .i64 (many : Int), .slice As sy.length cs, .slice Al ls.length cl, .int .i64 (relL stops left)] = wz at *
  go_wp2
  refine RegF.start (fun W => BlkIs W (w.heap.size + 1 + 1 + 1) 141 #[.int .i64 (many : Int), .slice As sy.length cs, .slice Al ls.length cl, .int .i64 (relL stops left)]) 99 (by kernel_rfl) ?_
  have hSd : BlkIs wz.drew (w.heap.size + 1 + 1 + 1) 141 #[.int .i64 (many : Int), .slice As sy.length cs, .slice Al ls.length cl, .int .i64 (relL stops left)] := B4
  refine RegF.take0 0 (.pointer (some ⟨p, 0, none⟩)) rfl (by kernel_rfl) (by kernel_rfl) (by kernel_rfl) rfl (fun _ _ _ h => h) hSd (RegF.yld rfl (fun W hW => by go_simp)) ?_
  simp only [List.getElem_toArray, List.getElem_cons_zero, Act.put, List.setIfInBounds_toArray, List.set_cons_zero, List.set_cons_succ]
  refine RegF.take0 1 (.agg #[.int .i64 (many : Int), .slice As sy.length cs, .slice Al ls.length cl, .int .i64 (relL stops left)]) rfl (by kernel_rfl) (by kernel_rfl) (by kernel_rfl) rfl (fun _ _ _ h => h) hSd (RegF.yld rfl (fun W hW => by exact x_loadM rowRDisk hW.range rfl rfl rfl)) ?_
  simp only [List.getElem_toArray, List.getElem_cons_succ, List.getElem_cons_zero, Act.put, List.setIfInBounds_toArray, List.set_cons_zero, List.set_cons_succ]
  refine RegF.take0 2 (.int .i64 2) rfl (by kernel_rfl) (by kernel_rfl) (by kernel_rfl) rfl (fun _ _ _ h => h) hSd (RegF.yld rfl (fun W hW => by go_simp)) ?_
  simp only [List.getElem_toArray, List.getElem_cons_succ, List.getElem_cons_zero, Act.put, List.setIfInBounds_toArray, List.set_cons_zero, List.set_cons_succ]
  refine RegF.take0 4 (.int .i64 2) rfl (by kernel_rfl) (by kernel_rfl) (by kernel_rfl) rfl (fun _ _ _ h => h) hSd (RegF.yld rfl (fun W hW => by go_simp)) ?_
  simp only [List.getElem_toArray, List.getElem_cons_succ, List.getElem_cons_zero, Act.put, List.setIfInBounds_toArray, List.set_cons_zero, List.set_cons_succ]
  refine RegF.one 3 (by kernel_rfl) ?_
  refine RegF.opC 20 #[.tmp 111] #[27] rfl rfl rfl (enters_of Try.func20 (by kernel_rfl) rfl) #[.int .i64 2] (by simp only [List.map_toArray, List.map_cons, List.map_nil]; rfl) ((num4_gives wz.drew 2).mono ?_)
  rintro e W9 ⟨rfl, rfl⟩
  refine ⟨_, rfl, fun _ => hSd, ?_⟩
  simp only [List.getElem_toArray, List.getElem_cons_succ, List.getElem_cons_zero, Act.put, List.setIfInBounds_toArray, List.set_cons_zero, List.set_cons_succ]
  refine RegF.take0 5 (.bool true) rfl (by kernel_rfl) (by kernel_rfl) (by kernel_rfl) rfl (fun _ _ _ h => h) hSd (RegF.yld rfl (fun W hW => by go_simp)) ?_
  simp only [List.getElem_toArray, List.getElem_cons_succ, List.getElem_cons_zero, Act.put, List.setIfInBounds_toArray, List.set_cons_zero, List.set_cons_succ]
  refine RegF.one 6 (by kernel_rfl) ?_
  refine RegF.opV (w' := wz.drew) (.pointer (some ⟨p, 0, none⟩)) rfl rfl (by go_simp) ⟨fun _ => hSd, ?_⟩
  simp only [List.getElem_toArray, List.getElem_cons_succ, List.getElem_cons_zero, Act.put, List.setIfInBounds_toArray, List.set_cons_zero, List.set_cons_succ]
  have hb3d : BlkIs wz.drew (w.heap.size + 1 + 1) 141 #[.int .i64 0, .slice none 0 0, .slice none 0 0, .int .i64 0] := B3
  have hSe : BlkIs (wz.drew.setRow (w.heap.size + 1 + 1) #[.int .i64 (many : Int), .slice As sy.length cs, .slice Al ls.length cl, .int .i64 (relL stops left)]) (w.heap.size + 1 + 1 + 1) 141 #[.int .i64 (many : Int), .slice As sy.length cs, .slice Al ls.length cl, .int .i64 (relL stops left)] := hSd.setRow_ne (by omega) _
  refine RegF.one 7 (by kernel_rfl) ?_
  refine RegF.opS (w' := wz.drew.setRow (w.heap.size + 1 + 1) #[.int .i64 (many : Int), .slice As sy.length cs, .slice Al ls.length cl, .int .i64 (relL stops left)]) rfl rfl (x_storeR (.tmp 7) (.tmp 110) rfl (w.heap.size + 1 + 1) rfl rfl hb3d rfl rfl (four_oneR rfl rfl rfl rfl)) ⟨fun _ => hSe, ?_⟩
  simp only [List.getElem_toArray, List.getElem_cons_succ, List.getElem_cons_zero, Act.put]
  refine RegF.one 8 (by kernel_rfl) ?_
  refine RegF.opV (w' := wz.drew.setRow (w.heap.size + 1 + 1) #[.int .i64 (many : Int), .slice As sy.length cs, .slice Al ls.length cl, .int .i64 (relL stops left)]) (.bool true) rfl rfl (by go_simp) ⟨fun _ => hSe, ?_⟩
  simp only [List.getElem_toArray, List.getElem_cons_succ, List.getElem_cons_zero, Act.put, List.setIfInBounds_toArray, List.set_cons_zero, List.set_cons_succ]
  refine RegF.done (by kernel_rfl) ?_
  go_wp2
  have gE : wz.drew.grownBy (wz.drew.setRow (w.heap.size + 1 + 1) #[.int .i64 (many : Int), .slice As sy.length cs, .slice Al ls.length cl, .int .i64 (relL stops left)]) (some (w.heap.size + 1 + 1)) := setRow_grownBy _ _ _
  have DE := (DD.grow ((Below.refl _ wz).drew)).other hb3d (by show 4 ≤ 64; decide) (by omega) gE
  have RE := (RR.grow ((Below.refl _ wz).drew)).grownT hb3d (noText4 _ _ _ _ _ _ _ _) gE
  have GE := grownBy_past (grownBy_trans GG (grownBy_drew wz (some p))) gE (by omega)
  exact bodyPost_ret (results3 6 7 8 rfl rfl rfl rfl rowRDisk (hb3d.setRow _) (by rfl)) rfl ⟨p, As, cs, Al, cl, rfl, DE, RE, .inl rfl, GE⟩
set_option maxRecDepth 100000 in
set_option maxHeartbeats 8000000 in
theorem act_tok (w : World) (p many : Nat) (sy ls : List (Nat × List UInt8)) (left : Int) (stops : Bool) (As : Option Addr) (cs : Nat) (Al : Option Addr) (cl : Nat) (at_ n : Int) (b : UInt8) (keep : List Bool) (K : Option Addr) (kc : Nat) (hD : DkIs w p many (gOf sy) ls left stops) (hR : RIs w w.heap.size sy ls As cs Al cl) (hok : StOk many ⟨sy, ls, left, stops⟩) (hn1 : sy.length ≤ 400000) (hn2 : ls.length ≤ 400000) (m : Nat) (hm : n = (m : Int)) :
    Calls Try.prog 83 #[.pointer (some ⟨p, 0, none⟩), VAL (many : Int) As sy.length cs Al ls.length cl (relL stops left), .agg #[.int .i64 4, .int .i64 at_, .int .i64 n, .int .u8 (b.toNat : Int), .slice K keep.length kc]] w (ActOut w p many ⟨sy, ls, (m : Int), true⟩) := by
  subst hm
  unfold ActOut VAL
  simp only
  rw [show relL true (m : Int) = (m : Int) from rfl]
  obtain ⟨b1, b2, b3, b4, hB1⟩ := acW_is w #[.int .i64 (many : Int), .slice As sy.length cs, .slice Al ls.length cl, .int .i64 (relL stops left)] #[.int .i64 4, .int .i64 at_, .int .i64 (m : Int), .int .u8 (b.toNat : Int), .slice K keep.length kc]
  have bl0 := ((BlkIs.new w 141 #[.int .i64 (many : Int), .slice As sy.length cs, .slice Al ls.length cl, .int .i64 (relL stops left)]).alloc (.cells #[.int .i64 4, .int .i64 at_, .int .i64 (m : Int), .int .u8 (b.toNat : Int), .slice K keep.length kc] 136)).alloc (.cells #[.int .i64 0, .slice none 0 0, .slice none 0 0, .int .i64 0] 141)
  have bs0 := BlkIs.new (((w.alloc (.cells #[.int .i64 (many : Int), .slice As sy.length cs, .slice Al ls.length cl, .int .i64 (relL stops left)] 141)).alloc (.cells #[.int .i64 4, .int .i64 at_, .int .i64 (m : Int), .int .u8 (b.toNat : Int), .slice K keep.length kc] 136)).alloc (.cells #[.int .i64 0, .slice none 0 0, .slice none 0 0, .int .i64 0] 141)) 141 #[.int .i64 0, .slice none 0 0, .slice none 0 0, .int .i64 0]
  simp only [World.size_alloc] at bs0
  obtain ⟨W1, hW1⟩ : ∃ W, W = acW w #[.int .i64 (many : Int), .slice As sy.length cs, .slice Al ls.length cl, .int .i64 (relL stops left)] #[.int .i64 4, .int .i64 at_, .int .i64 (m : Int), .int .u8 (b.toNat : Int), .slice K keep.length kc] := ⟨_, rfl⟩
  rw [← hW1] at b1 b2 b3 b4 hB1
  unfold acW zeroR at hW1
  have HW1 := Lib.hid hW1
  have hp := hD.lt
  clear hW1
  have x0 : W1.cell? ⟨w.heap.size + 1, 0, none⟩ = some (.int .i64 4) := by rw [b2.cell]; rfl
  have D1 := hD.grow hB1
  have R1 := hR.grow hB1
  go_enter Try.func83, Try.ntmps83
  go_upto_region 2 with (first
    | (refine wp_loadW rfl 141 (.tmp 4) rfl w.heap.size rfl rowRDisk bl0 (by rfl) ?_)
    | (refine wp_storeW rfl 141 (.tmp 9) (.tmp 16) rfl (w.heap.size + 1 + 1 + 1) rfl rfl rowRDisk bs0 (by rfl) (by rfl) (four_oneR rfl rfl rfl rfl) ?_))
  rw [← HW1.out]
  clear HW1 bl0 bs0
  have x2 : W1.cell? ⟨w.heap.size + 1, 2, none⟩ = some (.int .i64 (m : Int)) := by rw [b2.cell]; rfl
  have x4 : W1.cell? ⟨w.heap.size + 1, 4, none⟩ = some (.slice K keep.length kc) := by rw [b2.cell]; rfl
  go_wp2_with (first
    | (go_at_call 87; refine (stop_gives W1 p many (gOf sy) ls left stops D1 m).mono ?_; rintro e w6 ⟨rfl, D6, hg6⟩; have b16 := b1.grown hg6 (fun e => by injection e with e; omega); have b26 := b2.grown hg6 (fun e => by injection e with e; omega); have b36 := b3.grown hg6 (fun e => by injection e with e; omega); have b46 := b4.grown hg6 (fun e => by injection e with e; omega); have R6 := R1.past D1 hg6; have GG6 := grownBy_trans (below_grownBy hB1 p) hg6; have x26 : w6.cell? ⟨w.heap.size + 1, 2, none⟩ = some (.int .i64 (m : Int)) := (by rw [b26.cell]; rfl); have x46 : w6.cell? ⟨w.heap.size + 1, 4, none⟩ = some (.slice K keep.length kc) := (by rw [b26.cell]; rfl))
    | (refine wp_loadW rfl 141 (.tmp 4) rfl w.heap.size rfl rowRDisk b16 (by rfl) ?_)
    | (go_at_call 147; have HRx := rstop_gives w6 (many : Int) As sy.length cs Al ls.length cl (relL stops left) (m : Int); rw [if_neg (by omega), if_neg (by omega)] at HRx; unfold VAL at HRx; refine HRx.mono ?_; rintro e w8 ⟨rfl, hB8⟩; have b38 := b36.below hB8 b36.lt; have b48 := b46.below hB8 b46.lt; have D8 := D6.grow hB8; have GG8 := grownBy_trans GG6 (below_grownBy hB8 p); have R8 := R6.grow hB8)
    | (refine wp_storeW rfl 141 (.tmp 9) (.tmp 62) rfl (w.heap.size + 1 + 1 + 1) rfl rfl rowRDisk b48 (by rfl) (by rfl) (four_oneR rfl rfl rfl rfl) ?_))
  have gZ : w8.grownBy (w8.setRow (w.heap.size + 1 + 1 + 1) #[.int .i64 (many : Int), .slice As sy.length cs, .slice Al ls.length cl, .int .i64 (m : Int)]) (some (w.heap.size + 1 + 1 + 1)) := setRow_grownBy _ _ _
  have DD := D8.other b48 (by show 4 ≤ 64; decide) (by omega) gZ
  have RR := R8.grownT b48 (noText4 _ _ _ _ _ _ _ _) gZ
  have B4 := b48.setRow #[.int .i64 (many : Int), .slice As sy.length cs, .slice Al ls.length cl, .int .i64 (m : Int)]
  have B3 := b38.setRow_ne (k := (w.heap.size + 1 + 1 + 1)) (by omega) #[.int .i64 (many : Int), .slice As sy.length cs, .slice Al ls.length cl, .int .i64 (m : Int)]
  have GG : w.grownBy (w8.setRow (w.heap.size + 1 + 1 + 1) #[.int .i64 (many : Int), .slice As sy.length cs, .slice Al ls.length cl, .int .i64 (m : Int)]) (some p) := grownBy_past GG8 gZ (by omega)
  clear b38 b48 b16 b26 b36 b46 D6 D8 R6 R8 GG6 GG8 gZ hB8 x26
  generalize w8.setRow (w.heap.size + 1 + 1 + 1) #[.int .i64 (many : Int), .slice As sy.length cs, .slice Al ls.length cl, .int .i64 (m : Int)] = wz at *
  go_wp2
  refine RegF.start (fun W => BlkIs W (w.heap.size + 1 + 1 + 1) 141 #[.int .i64 (many : Int), .slice As sy.length cs, .slice Al ls.length cl, .int .i64 (m : Int)]) 99 (by kernel_rfl) ?_
  have hSd : BlkIs wz.drew (w.heap.size + 1 + 1 + 1) 141 #[.int .i64 (many : Int), .slice As sy.length cs, .slice Al ls.length cl, .int .i64 (m : Int)] := B4
  refine RegF.take0 0 (.pointer (some ⟨p, 0, none⟩)) rfl (by kernel_rfl) (by kernel_rfl) (by kernel_rfl) rfl (fun _ _ _ h => h) hSd (RegF.yld rfl (fun W hW => by go_simp)) ?_
  simp only [List.getElem_toArray, List.getElem_cons_zero, Act.put, List.setIfInBounds_toArray, List.set_cons_zero, List.set_cons_succ]
  refine RegF.take0 1 (.agg #[.int .i64 (many : Int), .slice As sy.length cs, .slice Al ls.length cl, .int .i64 (m : Int)]) rfl (by kernel_rfl) (by kernel_rfl) (by kernel_rfl) rfl (fun _ _ _ h => h) hSd (RegF.yld rfl (fun W hW => by exact x_loadM rowRDisk hW.range rfl rfl rfl)) ?_
  simp only [List.getElem_toArray, List.getElem_cons_succ, List.getElem_cons_zero, Act.put, List.setIfInBounds_toArray, List.set_cons_zero, List.set_cons_succ]
  refine RegF.take0 2 (.int .i64 0) rfl (by kernel_rfl) (by kernel_rfl) (by kernel_rfl) rfl (fun _ _ _ h => h) hSd (RegF.yld rfl (fun W hW => by go_simp)) ?_
  simp only [List.getElem_toArray, List.getElem_cons_succ, List.getElem_cons_zero, Act.put, List.setIfInBounds_toArray, List.set_cons_zero, List.set_cons_succ]
  refine RegF.take0 4 (.int .i64 0) rfl (by kernel_rfl) (by kernel_rfl) (by kernel_rfl) rfl (fun _ _ _ h => h) hSd (RegF.yld rfl (fun W hW => by go_simp)) ?_
  simp only [List.getElem_toArray, List.getElem_cons_succ, List.getElem_cons_zero, Act.put, List.setIfInBounds_toArray, List.set_cons_zero, List.set_cons_succ]
  refine RegF.one 3 (by kernel_rfl) ?_
  refine RegF.opC 20 #[.tmp 111] #[27] rfl rfl rfl (enters_of Try.func20 (by kernel_rfl) rfl) #[.int .i64 0] (by simp only [List.map_toArray, List.map_cons, List.map_nil]; rfl) ((num4_gives wz.drew 0).mono ?_)
  rintro e W9 ⟨rfl, rfl⟩
  refine ⟨_, rfl, fun _ => hSd, ?_⟩
  simp only [List.getElem_toArray, List.getElem_cons_succ, List.getElem_cons_zero, Act.put, List.setIfInBounds_toArray, List.set_cons_zero, List.set_cons_succ]
  refine RegF.take0 5 (.bool true) rfl (by kernel_rfl) (by kernel_rfl) (by kernel_rfl) rfl (fun _ _ _ h => h) hSd (RegF.yld rfl (fun W hW => by go_simp)) ?_
  simp only [List.getElem_toArray, List.getElem_cons_succ, List.getElem_cons_zero, Act.put, List.setIfInBounds_toArray, List.set_cons_zero, List.set_cons_succ]
  refine RegF.one 6 (by kernel_rfl) ?_
  refine RegF.opV (w' := wz.drew) (.pointer (some ⟨p, 0, none⟩)) rfl rfl (by go_simp) ⟨fun _ => hSd, ?_⟩
  simp only [List.getElem_toArray, List.getElem_cons_succ, List.getElem_cons_zero, Act.put, List.setIfInBounds_toArray, List.set_cons_zero, List.set_cons_succ]
  have hb3d : BlkIs wz.drew (w.heap.size + 1 + 1) 141 #[.int .i64 0, .slice none 0 0, .slice none 0 0, .int .i64 0] := B3
  have hSe : BlkIs (wz.drew.setRow (w.heap.size + 1 + 1) #[.int .i64 (many : Int), .slice As sy.length cs, .slice Al ls.length cl, .int .i64 (m : Int)]) (w.heap.size + 1 + 1 + 1) 141 #[.int .i64 (many : Int), .slice As sy.length cs, .slice Al ls.length cl, .int .i64 (m : Int)] := hSd.setRow_ne (by omega) _
  refine RegF.one 7 (by kernel_rfl) ?_
  refine RegF.opS (w' := wz.drew.setRow (w.heap.size + 1 + 1) #[.int .i64 (many : Int), .slice As sy.length cs, .slice Al ls.length cl, .int .i64 (m : Int)]) rfl rfl (x_storeR (.tmp 7) (.tmp 110) rfl (w.heap.size + 1 + 1) rfl rfl hb3d rfl rfl (four_oneR rfl rfl rfl rfl)) ⟨fun _ => hSe, ?_⟩
  simp only [List.getElem_toArray, List.getElem_cons_succ, List.getElem_cons_zero, Act.put]
  refine RegF.one 8 (by kernel_rfl) ?_
  refine RegF.opV (w' := wz.drew.setRow (w.heap.size + 1 + 1) #[.int .i64 (many : Int), .slice As sy.length cs, .slice Al ls.length cl, .int .i64 (m : Int)]) (.bool true) rfl rfl (by go_simp) ⟨fun _ => hSe, ?_⟩
  simp only [List.getElem_toArray, List.getElem_cons_succ, List.getElem_cons_zero, Act.put, List.setIfInBounds_toArray, List.set_cons_zero, List.set_cons_succ]
  refine RegF.done (by kernel_rfl) ?_
  go_wp2
  have gE : wz.drew.grownBy (wz.drew.setRow (w.heap.size + 1 + 1) #[.int .i64 (many : Int), .slice As sy.length cs, .slice Al ls.length cl, .int .i64 (m : Int)]) (some (w.heap.size + 1 + 1)) := setRow_grownBy _ _ _
  have DE := (DD.grow ((Below.refl _ wz).drew)).other hb3d (by show 4 ≤ 64; decide) (by omega) gE
  have RE := (RR.grow ((Below.refl _ wz).drew)).grownT hb3d (noText4 _ _ _ _ _ _ _ _) gE
  have GE := grownBy_past (grownBy_trans GG (grownBy_drew wz (some p))) gE (by omega)
  exact bodyPost_ret (results3 6 7 8 rfl rfl rfl rfl rowRDisk (hb3d.setRow _) (by rfl)) rfl ⟨p, As, cs, Al, cl, rfl, DE, RE, .inl rfl, GE⟩
end Go.Proofs.Ytlelckdcmlpmdaa
/- loupelaw04.act: Crash. -/
namespace Go.Proofs.Ytlelckdcmlpmdaa
open Go Go.RowKit Lou

theorem InG.keepP {w w' : World} {B p sz n c : Nat} {A : Option Addr} {cs : List Value} (h : InG w B sz A n c cs) (hg : w.grownBy w' (some p)) (hp : B ≤ p) (hB : B ≤ w.heap.size) : InG w' B sz A n c cs :=
  h.keep fun q hq => World.cell?_of_block (hg.block q.block (by omega) (fun e => by injection e with e; omega))
set_option maxRecDepth 100000 in
set_option maxHeartbeats 8000000 in
theorem act_cbad (w : World) (p many : Nat) (sy ls : List (Nat × List UInt8)) (left : Int) (stops : Bool) (As : Option Addr) (cs : Nat) (Al : Option Addr) (cl : Nat) (at_ n : Int) (b : UInt8) (keep : List Bool) (K : Option Addr) (kc : Nat) (hD : DkIs w p many (gOf sy) ls left stops) (hR : RIs w w.heap.size sy ls As cs Al cl) (hok : StOk many ⟨sy, ls, left, stops⟩) (hn1 : sy.length ≤ 400000) (hn2 : ls.length ≤ 400000) (ht : n < 0 ∨ 63 < n) :
    Calls Try.prog 83 #[.pointer (some ⟨p, 0, none⟩), VAL (many : Int) As sy.length cs Al ls.length cl (relL stops left), .agg #[.int .i64 5, .int .i64 at_, .int .i64 n, .int .u8 (b.toNat : Int), .slice K keep.length kc]] w (ActOut w p many ⟨sy, ls, left, stops⟩) := by
  unfold ActOut VAL
  have H0 := Lib.hid ht
  clear ht
  obtain ⟨b1, b2, b3, b4, hB1⟩ := acW_is w #[.int .i64 (many : Int), .slice As sy.length cs, .slice Al ls.length cl, .int .i64 (relL stops left)] #[.int .i64 5, .int .i64 at_, .int .i64 n, .int .u8 (b.toNat : Int), .slice K keep.length kc]
  have bl0 := ((BlkIs.new w 141 #[.int .i64 (many : Int), .slice As sy.length cs, .slice Al ls.length cl, .int .i64 (relL stops left)]).alloc (.cells #[.int .i64 5, .int .i64 at_, .int .i64 n, .int .u8 (b.toNat : Int), .slice K keep.length kc] 136)).alloc (.cells #[.int .i64 0, .slice none 0 0, .slice none 0 0, .int .i64 0] 141)
  have bs0 := BlkIs.new (((w.alloc (.cells #[.int .i64 (many : Int), .slice As sy.length cs, .slice Al ls.length cl, .int .i64 (relL stops left)] 141)).alloc (.cells #[.int .i64 5, .int .i64 at_, .int .i64 n, .int .u8 (b.toNat : Int), .slice K keep.length kc] 136)).alloc (.cells #[.int .i64 0, .slice none 0 0, .slice none 0 0, .int .i64 0] 141)) 141 #[.int .i64 0, .slice none 0 0, .slice none 0 0, .int .i64 0]
  simp only [World.size_alloc] at bs0
  obtain ⟨W1, hW1⟩ : ∃ W, W = acW w #[.int .i64 (many : Int), .slice As sy.length cs, .slice Al ls.length cl, .int .i64 (relL stops left)] #[.int .i64 5, .int .i64 at_, .int .i64 n, .int .u8 (b.toNat : Int), .slice K keep.length kc] := ⟨_, rfl⟩
  rw [← hW1] at b1 b2 b3 b4 hB1
  unfold acW zeroR at hW1
  have HW1 := Lib.hid hW1
  have hp := hD.lt
  clear hW1
  have x0 : W1.cell? ⟨w.heap.size + 1, 0, none⟩ = some (.int .i64 5) := by rw [b2.cell]; rfl
  have D1 := hD.grow hB1
  have R1 := hR.grow hB1
  go_enter Try.func83, Try.ntmps83
  go_upto_region 2 with (first
    | (refine wp_loadW rfl 141 (.tmp 4) rfl w.heap.size rfl rowRDisk bl0 (by rfl) ?_)
    | (refine wp_storeW rfl 141 (.tmp 9) (.tmp 16) rfl (w.heap.size + 1 + 1 + 1) rfl rfl rowRDisk bs0 (by rfl) (by rfl) (four_oneR rfl rfl rfl rfl) ?_))
  rw [← HW1.out]
  clear HW1 bl0 bs0
  have x2 : W1.cell? ⟨w.heap.size + 1, 2, none⟩ = some (.int .i64 n) := by rw [b2.cell]; rfl
  have x4 : W1.cell? ⟨w.heap.size + 1, 4, none⟩ = some (.slice K keep.length kc) := by rw [b2.cell]; rfl
  go_wp2_with (first
    | (go_at_call 25; refine (crash_bad W1 p many (gOf sy) ls left stops D1 n (.slice K keep.length kc) H0.out).mono ?_; rintro e w6 ⟨rfl, hB6⟩; have b16 := b1.below hB6 b1.lt; have b26 := b2.below hB6 b2.lt; have b36 := b3.below hB6 b3.lt; have b46 := b4.below hB6 b4.lt; have D6 := D1.grow hB6; have R6 := R1.grow hB6; have GG6 := below_grownBy (hB1.trans (hB6.mono hB1.size)) p; have x26 : w6.cell? ⟨w.heap.size + 1, 2, none⟩ = some (.int .i64 n) := (by rw [b26.cell]; rfl); have x46 : w6.cell? ⟨w.heap.size + 1, 4, none⟩ = some (.slice K keep.length kc) := (by rw [b26.cell]; rfl))
    | (refine wp_loadW rfl 141 (.tmp 4) rfl w.heap.size rfl rowRDisk b16 (by rfl) ?_)
    | (go_at_call 148; have HRx := rcrash_bad w6 (many : Int) As sy.length cs Al ls.length cl (relL stops left) n (.slice K keep.length kc) H0.out; unfold VAL at HRx; refine HRx.mono ?_; rintro e w8 ⟨rfl, hB8⟩; have b38 := b36.below hB8 b36.lt; have b48 := b46.below hB8 b46.lt; have D8 := D6.grow hB8; have GG8 := grownBy_trans GG6 (below_grownBy hB8 p); have R8 := R6.grow hB8)
    | (refine wp_storeW rfl 141 (.tmp 9) (.tmp 79) rfl (w.heap.size + 1 + 1 + 1) rfl rfl rowRDisk b48 (by rfl) (by rfl) (four_oneR rfl rfl rfl rfl) ?_))
  have gZ : w8.grownBy (w8.setRow (w.heap.size + 1 + 1 + 1) #[.int .i64 (many : Int), .slice As sy.length cs, .slice Al ls.length cl, .int .i64 (relL stops left)]) (some (w.heap.size + 1 + 1 + 1)) := setRow_grownBy _ _ _
  have DD := D8.other b48 (by show 4 ≤ 64; decide) (by omega) gZ
  have RR := R8.grownT b48 (noText4 _ _ _ _ _ _ _ _) gZ
  have B4 := b48.setRow #[.int .i64 (many : Int), .slice As sy.length cs, .slice Al ls.length cl, .int .i64 (relL stops left)]
  have B3 := b38.setRow_ne (k := (w.heap.size + 1 + 1 + 1)) (by omega) #[.int .i64 (many : Int), .slice As sy.length cs, .slice Al ls.length cl, .int .i64 (relL stops left)]
  have GG : w.grownBy (w8.setRow (w.heap.size + 1 + 1 + 1) #[.int .i64 (many : Int), .slice As sy.length cs, .slice Al ls.length cl, .int .i64 (relL stops left)]) (some p) := grownBy_past GG8 gZ (by omega)
  clear b38 b48 b16 b26 b36 b46 D6 D8 R6 R8 GG6 GG8 gZ hB8 x26
  generalize w8.setRow (w.heap.size + 1 + 1 + 1) #[.int .i64 (many : Int), .slice As sy.length cs, .slice Al ls.length cl, .int .i64 (relL stops left)] = wz at *
  go_wp2
  refine RegF.start (fun W => BlkIs W (w.heap.size + 1 + 1 + 1) 141 #[.int .i64 (many : Int), .slice As sy.length cs, .slice Al ls.length cl, .int .i64 (relL stops left)]) 99 (by kernel_rfl) ?_
  have hSd : BlkIs wz.drew (w.heap.size + 1 + 1 + 1) 141 #[.int .i64 (many : Int), .slice As sy.length cs, .slice Al ls.length cl, .int .i64 (relL stops left)] := B4
  refine RegF.take0 0 (.pointer (some ⟨p, 0, none⟩)) rfl (by kernel_rfl) (by kernel_rfl) (by kernel_rfl) rfl (fun _ _ _ h => h) hSd (RegF.yld rfl (fun W hW => by go_simp)) ?_
  simp only [List.getElem_toArray, List.getElem_cons_zero, Act.put, List.setIfInBounds_toArray, List.set_cons_zero, List.set_cons_succ]
  refine RegF.take0 1 (.agg #[.int .i64 (many : Int), .slice As sy.length cs, .slice Al ls.length cl, .int .i64 (relL stops left)]) rfl (by kernel_rfl) (by kernel_rfl) (by kernel_rfl) rfl (fun _ _ _ h => h) hSd (RegF.yld rfl (fun W hW => by exact x_loadM rowRDisk hW.range rfl rfl rfl)) ?_
  simp only [List.getElem_toArray, List.getElem_cons_succ, List.getElem_cons_zero, Act.put, List.setIfInBounds_toArray, List.set_cons_zero, List.set_cons_succ]
  refine RegF.take0 2 (.int .i64 2) rfl (by kernel_rfl) (by kernel_rfl) (by kernel_rfl) rfl (fun _ _ _ h => h) hSd (RegF.yld rfl (fun W hW => by go_simp)) ?_
  simp only [List.getElem_toArray, List.getElem_cons_succ, List.getElem_cons_zero, Act.put, List.setIfInBounds_toArray, List.set_cons_zero, List.set_cons_succ]
  refine RegF.take0 4 (.int .i64 2) rfl (by kernel_rfl) (by kernel_rfl) (by kernel_rfl) rfl (fun _ _ _ h => h) hSd (RegF.yld rfl (fun W hW => by go_simp)) ?_
  simp only [List.getElem_toArray, List.getElem_cons_succ, List.getElem_cons_zero, Act.put, List.setIfInBounds_toArray, List.set_cons_zero, List.set_cons_succ]
  refine RegF.one 3 (by kernel_rfl) ?_
  refine RegF.opC 20 #[.tmp 111] #[27] rfl rfl rfl (enters_of Try.func20 (by kernel_rfl) rfl) #[.int .i64 2] (by simp only [List.map_toArray, List.map_cons, List.map_nil]; rfl) ((num4_gives wz.drew 2).mono ?_)
  rintro e W9 ⟨rfl, rfl⟩
  refine ⟨_, rfl, fun _ => hSd, ?_⟩
  simp only [List.getElem_toArray, List.getElem_cons_succ, List.getElem_cons_zero, Act.put, List.setIfInBounds_toArray, List.set_cons_zero, List.set_cons_succ]
  refine RegF.take0 5 (.bool true) rfl (by kernel_rfl) (by kernel_rfl) (by kernel_rfl) rfl (fun _ _ _ h => h) hSd (RegF.yld rfl (fun W hW => by go_simp)) ?_
  simp only [List.getElem_toArray, List.getElem_cons_succ, List.getElem_cons_zero, Act.put, List.setIfInBounds_toArray, List.set_cons_zero, List.set_cons_succ]
  refine RegF.one 6 (by kernel_rfl) ?_
  refine RegF.opV (w' := wz.drew) (.pointer (some ⟨p, 0, none⟩)) rfl rfl (by go_simp) ⟨fun _ => hSd, ?_⟩
  simp only [List.getElem_toArray, List.getElem_cons_succ, List.getElem_cons_zero, Act.put, List.setIfInBounds_toArray, List.set_cons_zero, List.set_cons_succ]
  have hb3d : BlkIs wz.drew (w.heap.size + 1 + 1) 141 #[.int .i64 0, .slice none 0 0, .slice none 0 0, .int .i64 0] := B3
  have hSe : BlkIs (wz.drew.setRow (w.heap.size + 1 + 1) #[.int .i64 (many : Int), .slice As sy.length cs, .slice Al ls.length cl, .int .i64 (relL stops left)]) (w.heap.size + 1 + 1 + 1) 141 #[.int .i64 (many : Int), .slice As sy.length cs, .slice Al ls.length cl, .int .i64 (relL stops left)] := hSd.setRow_ne (by omega) _
  refine RegF.one 7 (by kernel_rfl) ?_
  refine RegF.opS (w' := wz.drew.setRow (w.heap.size + 1 + 1) #[.int .i64 (many : Int), .slice As sy.length cs, .slice Al ls.length cl, .int .i64 (relL stops left)]) rfl rfl (x_storeR (.tmp 7) (.tmp 110) rfl (w.heap.size + 1 + 1) rfl rfl hb3d rfl rfl (four_oneR rfl rfl rfl rfl)) ⟨fun _ => hSe, ?_⟩
  simp only [List.getElem_toArray, List.getElem_cons_succ, List.getElem_cons_zero, Act.put]
  refine RegF.one 8 (by kernel_rfl) ?_
  refine RegF.opV (w' := wz.drew.setRow (w.heap.size + 1 + 1) #[.int .i64 (many : Int), .slice As sy.length cs, .slice Al ls.length cl, .int .i64 (relL stops left)]) (.bool true) rfl rfl (by go_simp) ⟨fun _ => hSe, ?_⟩
  simp only [List.getElem_toArray, List.getElem_cons_succ, List.getElem_cons_zero, Act.put, List.setIfInBounds_toArray, List.set_cons_zero, List.set_cons_succ]
  refine RegF.done (by kernel_rfl) ?_
  go_wp2
  have gE : wz.drew.grownBy (wz.drew.setRow (w.heap.size + 1 + 1) #[.int .i64 (many : Int), .slice As sy.length cs, .slice Al ls.length cl, .int .i64 (relL stops left)]) (some (w.heap.size + 1 + 1)) := setRow_grownBy _ _ _
  have DE := (DD.grow ((Below.refl _ wz).drew)).other hb3d (by show 4 ≤ 64; decide) (by omega) gE
  have RE := (RR.grow ((Below.refl _ wz).drew)).grownT hb3d (noText4 _ _ _ _ _ _ _ _) gE
  have GE := grownBy_past (grownBy_trans GG (grownBy_drew wz (some p))) gE (by omega)
  exact bodyPost_ret (results3 6 7 8 rfl rfl rfl rfl rowRDisk (hb3d.setRow _) (by rfl)) rfl ⟨p, As, cs, Al, cl, rfl, DE, RE, .inl rfl, GE⟩
set_option maxRecDepth 100000 in
set_option maxHeartbeats 8000000 in
theorem act_cok (w : World) (p many : Nat) (sy ls : List (Nat × List UInt8)) (left : Int) (stops : Bool) (As : Option Addr) (cs : Nat) (Al : Option Addr) (cl : Nat) (at_ n : Int) (b : UInt8) (keep : List Bool) (K : Option Addr) (kc : Nat) (hD : DkIs w p many (gOf sy) ls left stops) (hR : RIs w w.heap.size sy ls As cs Al cl) (hok : StOk many ⟨sy, ls, left, stops⟩) (hn1 : sy.length ≤ 400000) (hn2 : ls.length ≤ 400000) (m : Nat) (hm : n = (m : Int)) (h63 : m ≤ 63) (B : Nat) (hBp : B ≤ p) (hBw : B ≤ w.heap.size) (hK : InG w B 1 K keep.length kc (keep.map Value.bool)) (hnk : keep.length ≤ 1000000) :
    Calls Try.prog 83 #[.pointer (some ⟨p, 0, none⟩), VAL (many : Int) As sy.length cs Al ls.length cl (relL stops left), .agg #[.int .i64 5, .int .i64 at_, .int .i64 n, .int .u8 (b.toNat : Int), .slice K keep.length kc]] w (ActOut w p many ⟨sy ++ torn (gOf sy) (keptTo ls keep ls.length) m, [], 0, false⟩) := by
  subst hm
  unfold ActOut VAL
  simp only
  rw [gOf_app, show relL false 0 = -1 from rfl]
  generalize hal : sy ++ torn (gOf sy) (keptTo ls keep ls.length) m = al
  have HAL := Lib.hid hal
  clear hal
  obtain ⟨b1, b2, b3, b4, hB1⟩ := acW_is w #[.int .i64 (many : Int), .slice As sy.length cs, .slice Al ls.length cl, .int .i64 (relL stops left)] #[.int .i64 5, .int .i64 at_, .int .i64 (m : Int), .int .u8 (b.toNat : Int), .slice K keep.length kc]
  have bl0 := ((BlkIs.new w 141 #[.int .i64 (many : Int), .slice As sy.length cs, .slice Al ls.length cl, .int .i64 (relL stops left)]).alloc (.cells #[.int .i64 5, .int .i64 at_, .int .i64 (m : Int), .int .u8 (b.toNat : Int), .slice K keep.length kc] 136)).alloc (.cells #[.int .i64 0, .slice none 0 0, .slice none 0 0, .int .i64 0] 141)
  have bs0 := BlkIs.new (((w.alloc (.cells #[.int .i64 (many : Int), .slice As sy.length cs, .slice Al ls.length cl, .int .i64 (relL stops left)] 141)).alloc (.cells #[.int .i64 5, .int .i64 at_, .int .i64 (m : Int), .int .u8 (b.toNat : Int), .slice K keep.length kc] 136)).alloc (.cells #[.int .i64 0, .slice none 0 0, .slice none 0 0, .int .i64 0] 141)) 141 #[.int .i64 0, .slice none 0 0, .slice none 0 0, .int .i64 0]
  simp only [World.size_alloc] at bs0
  obtain ⟨W1, hW1⟩ : ∃ W, W = acW w #[.int .i64 (many : Int), .slice As sy.length cs, .slice Al ls.length cl, .int .i64 (relL stops left)] #[.int .i64 5, .int .i64 at_, .int .i64 (m : Int), .int .u8 (b.toNat : Int), .slice K keep.length kc] := ⟨_, rfl⟩
  rw [← hW1] at b1 b2 b3 b4 hB1
  unfold acW zeroR at hW1
  have HW1 := Lib.hid hW1
  have hp := hD.lt
  clear hW1
  have x0 : W1.cell? ⟨w.heap.size + 1, 0, none⟩ = some (.int .i64 5) := by rw [b2.cell]; rfl
  have D1 := hD.grow hB1
  have R1 := hR.grow hB1
  go_enter Try.func83, Try.ntmps83
  go_upto_region 2 with (first
    | (refine wp_loadW rfl 141 (.tmp 4) rfl w.heap.size rfl rowRDisk bl0 (by rfl) ?_)
    | (refine wp_storeW rfl 141 (.tmp 9) (.tmp 16) rfl (w.heap.size + 1 + 1 + 1) rfl rfl rowRDisk bs0 (by rfl) (by rfl) (four_oneR rfl rfl rfl rfl) ?_))
  rw [← HW1.out]
  clear HW1 bl0 bs0
  have x2 : W1.cell? ⟨w.heap.size + 1, 2, none⟩ = some (.int .i64 (m : Int)) := by rw [b2.cell]; rfl
  have x4 : W1.cell? ⟨w.heap.size + 1, 4, none⟩ = some (.slice K keep.length kc) := by rw [b2.cell]; rfl
  have K1 := hK.below (hB1.mono hBw)
  go_wp2_with (first
    | (go_at_call 25; refine (crash_gives W1 p many (gOf sy) ls left stops D1 m h63 K kc keep (K1.more (Nat.le_trans hBw hB1.size)) (by omega)).mono ?_; rintro e w6 ⟨rfl, D6, hg6⟩; have b16 := b1.grown hg6 (fun e => by injection e with e; omega); have b26 := b2.grown hg6 (fun e => by injection e with e; omega); have b36 := b3.grown hg6 (fun e => by injection e with e; omega); have b46 := b4.grown hg6 (fun e => by injection e with e; omega); have R6 := R1.past D1 hg6; have GG6 := grownBy_trans (below_grownBy hB1 p) hg6; have x26 : w6.cell? ⟨w.heap.size + 1, 2, none⟩ = some (.int .i64 (m : Int)) := (by rw [b26.cell]; rfl); have x46 : w6.cell? ⟨w.heap.size + 1, 4, none⟩ = some (.slice K keep.length kc) := (by rw [b26.cell]; rfl))
    | (refine wp_loadW rfl 141 (.tmp 4) rfl w.heap.size rfl rowRDisk b16 (by rfl) ?_)
    | (go_at_call 148; have HRx := rcrash_ok w6 (many : Int) sy ls As cs Al cl (relL stops left) R6 hn1 hn2 hok.wls hok.wsy m h63 K kc keep ((K1.keepP hg6 hBp (Nat.le_trans hBw hB1.size)).more (Nat.le_trans (Nat.le_trans hBw hB1.size) hg6.size)) hnk; rw [HAL.out] at HRx; unfold VAL at HRx; refine HRx.mono ?_; rintro e w8 ⟨A8, c8, rfl, R8, hB8⟩; have b38 := b36.below hB8 b36.lt; have b48 := b46.below hB8 b46.lt; have D8 := D6.grow hB8; have GG8 := grownBy_trans GG6 (below_grownBy hB8 p))
    | (refine wp_storeW rfl 141 (.tmp 9) (.tmp 79) rfl (w.heap.size + 1 + 1 + 1) rfl rfl rowRDisk b48 (by rfl) (by rfl) (four_oneR rfl rfl rfl rfl) ?_))
  have gZ : w8.grownBy (w8.setRow (w.heap.size + 1 + 1 + 1) #[.int .i64 (many : Int), .slice A8 al.length c8, .slice none 0 0, .int .i64 (-1)]) (some (w.heap.size + 1 + 1 + 1)) := setRow_grownBy _ _ _
  have DD := D8.other b48 (by show 4 ≤ 64; decide) (by omega) gZ
  have RR := R8.grownT b48 (noText4 _ _ _ _ _ _ _ _) gZ
  have B4 := b48.setRow #[.int .i64 (many : Int), .slice A8 al.length c8, .slice none 0 0, .int .i64 (-1)]
  have B3 := b38.setRow_ne (k := (w.heap.size + 1 + 1 + 1)) (by omega) #[.int .i64 (many : Int), .slice A8 al.length c8, .slice none 0 0, .int .i64 (-1)]
  have GG : w.grownBy (w8.setRow (w.heap.size + 1 + 1 + 1) #[.int .i64 (many : Int), .slice A8 al.length c8, .slice none 0 0, .int .i64 (-1)]) (some p) := grownBy_past GG8 gZ (by omega)
  clear b38 b48 b16 b26 b36 b46 D6 D8 R6 R8 GG6 GG8 gZ hB8 x26
  generalize w8.setRow (w.heap.size + 1 + 1 + 1) #[.int .i64 (many : Int), .slice A8 al.length c8, .slice none 0 0, .int .i64 (-1)] = wz at *
  go_wp2
  refine RegF.start (fun W => BlkIs W (w.heap.size + 1 + 1 + 1) 141 #[.int .i64 (many : Int), .slice A8 al.length c8, .slice none 0 0, .int .i64 (-1)]) 99 (by kernel_rfl) ?_
  have hSd : BlkIs wz.drew (w.heap.size + 1 + 1 + 1) 141 #[.int .i64 (many : Int), .slice A8 al.length c8, .slice none 0 0, .int .i64 (-1)] := B4
  refine RegF.take0 0 (.pointer (some ⟨p, 0, none⟩)) rfl (by kernel_rfl) (by kernel_rfl) (by kernel_rfl) rfl (fun _ _ _ h => h) hSd (RegF.yld rfl (fun W hW => by go_simp)) ?_
  simp only [List.getElem_toArray, List.getElem_cons_zero, Act.put, List.setIfInBounds_toArray, List.set_cons_zero, List.set_cons_succ]
  refine RegF.take0 1 (.agg #[.int .i64 (many : Int), .slice A8 al.length c8, .slice none 0 0, .int .i64 (-1)]) rfl (by kernel_rfl) (by kernel_rfl) (by kernel_rfl) rfl (fun _ _ _ h => h) hSd (RegF.yld rfl (fun W hW => by exact x_loadM rowRDisk hW.range rfl rfl rfl)) ?_
  simp only [List.getElem_toArray, List.getElem_cons_succ, List.getElem_cons_zero, Act.put, List.setIfInBounds_toArray, List.set_cons_zero, List.set_cons_succ]
  refine RegF.take0 2 (.int .i64 0) rfl (by kernel_rfl) (by kernel_rfl) (by kernel_rfl) rfl (fun _ _ _ h => h) hSd (RegF.yld rfl (fun W hW => by go_simp)) ?_
  simp only [List.getElem_toArray, List.getElem_cons_succ, List.getElem_cons_zero, Act.put, List.setIfInBounds_toArray, List.set_cons_zero, List.set_cons_succ]
  refine RegF.take0 4 (.int .i64 0) rfl (by kernel_rfl) (by kernel_rfl) (by kernel_rfl) rfl (fun _ _ _ h => h) hSd (RegF.yld rfl (fun W hW => by go_simp)) ?_
  simp only [List.getElem_toArray, List.getElem_cons_succ, List.getElem_cons_zero, Act.put, List.setIfInBounds_toArray, List.set_cons_zero, List.set_cons_succ]
  refine RegF.one 3 (by kernel_rfl) ?_
  refine RegF.opC 20 #[.tmp 111] #[27] rfl rfl rfl (enters_of Try.func20 (by kernel_rfl) rfl) #[.int .i64 0] (by simp only [List.map_toArray, List.map_cons, List.map_nil]; rfl) ((num4_gives wz.drew 0).mono ?_)
  rintro e W9 ⟨rfl, rfl⟩
  refine ⟨_, rfl, fun _ => hSd, ?_⟩
  simp only [List.getElem_toArray, List.getElem_cons_succ, List.getElem_cons_zero, Act.put, List.setIfInBounds_toArray, List.set_cons_zero, List.set_cons_succ]
  refine RegF.take0 5 (.bool true) rfl (by kernel_rfl) (by kernel_rfl) (by kernel_rfl) rfl (fun _ _ _ h => h) hSd (RegF.yld rfl (fun W hW => by go_simp)) ?_
  simp only [List.getElem_toArray, List.getElem_cons_succ, List.getElem_cons_zero, Act.put, List.setIfInBounds_toArray, List.set_cons_zero, List.set_cons_succ]
  refine RegF.one 6 (by kernel_rfl) ?_
  refine RegF.opV (w' := wz.drew) (.pointer (some ⟨p, 0, none⟩)) rfl rfl (by go_simp) ⟨fun _ => hSd, ?_⟩
  simp only [List.getElem_toArray, List.getElem_cons_succ, List.getElem_cons_zero, Act.put, List.setIfInBounds_toArray, List.set_cons_zero, List.set_cons_succ]
  have hb3d : BlkIs wz.drew (w.heap.size + 1 + 1) 141 #[.int .i64 0, .slice none 0 0, .slice none 0 0, .int .i64 0] := B3
  have hSe : BlkIs (wz.drew.setRow (w.heap.size + 1 + 1) #[.int .i64 (many : Int), .slice A8 al.length c8, .slice none 0 0, .int .i64 (-1)]) (w.heap.size + 1 + 1 + 1) 141 #[.int .i64 (many : Int), .slice A8 al.length c8, .slice none 0 0, .int .i64 (-1)] := hSd.setRow_ne (by omega) _
  refine RegF.one 7 (by kernel_rfl) ?_
  refine RegF.opS (w' := wz.drew.setRow (w.heap.size + 1 + 1) #[.int .i64 (many : Int), .slice A8 al.length c8, .slice none 0 0, .int .i64 (-1)]) rfl rfl (x_storeR (.tmp 7) (.tmp 110) rfl (w.heap.size + 1 + 1) rfl rfl hb3d rfl rfl (four_oneR rfl rfl rfl rfl)) ⟨fun _ => hSe, ?_⟩
  simp only [List.getElem_toArray, List.getElem_cons_succ, List.getElem_cons_zero, Act.put]
  refine RegF.one 8 (by kernel_rfl) ?_
  refine RegF.opV (w' := wz.drew.setRow (w.heap.size + 1 + 1) #[.int .i64 (many : Int), .slice A8 al.length c8, .slice none 0 0, .int .i64 (-1)]) (.bool true) rfl rfl (by go_simp) ⟨fun _ => hSe, ?_⟩
  simp only [List.getElem_toArray, List.getElem_cons_succ, List.getElem_cons_zero, Act.put, List.setIfInBounds_toArray, List.set_cons_zero, List.set_cons_succ]
  refine RegF.done (by kernel_rfl) ?_
  go_wp2
  have gE : wz.drew.grownBy (wz.drew.setRow (w.heap.size + 1 + 1) #[.int .i64 (many : Int), .slice A8 al.length c8, .slice none 0 0, .int .i64 (-1)]) (some (w.heap.size + 1 + 1)) := setRow_grownBy _ _ _
  have DE := (DD.grow ((Below.refl _ wz).drew)).other hb3d (by show 4 ≤ 64; decide) (by omega) gE
  have RE := (RR.grow ((Below.refl _ wz).drew)).grownT hb3d (noText4 _ _ _ _ _ _ _ _) gE
  have GE := grownBy_past (grownBy_trans GG (grownBy_drew wz (some p))) gE (by omega)
  exact bodyPost_ret (results3 6 7 8 rfl rfl rfl rfl rowRDisk (hb3d.setRow _) (by rfl)) rfl ⟨p, A8, c8, none, 0, rfl, DE, RE, .inl rfl, GE⟩
end Go.Proofs.Ytlelckdcmlpmdaa
/- loupelaw04.act: Copy. -/
namespace Go.Proofs.Ytlelckdcmlpmdaa
open Go Go.RowKit Lou

set_option maxRecDepth 100000 in
set_option maxHeartbeats 8000000 in
theorem act_copy (w : World) (p many : Nat) (sy ls : List (Nat × List UInt8)) (left : Int) (stops : Bool) (As : Option Addr) (cs : Nat) (Al : Option Addr) (cl : Nat) (what at_ n : Int) (b : UInt8) (keep : List Bool) (K : Option Addr) (kc : Nat) (hD : DkIs w p many (gOf sy) ls left stops) (hR : RIs w w.heap.size sy ls As cs Al cl) (hok : StOk many ⟨sy, ls, left, stops⟩) (hn1 : sy.length ≤ 400000) (hn2 : ls.length ≤ 400000) (h0 : ¬ what = 0) (h1 : ¬ what = 1) (h2 : ¬ what = 2) (h3 : ¬ what = 3) (h4 : ¬ what = 4) (h5 : ¬ what = 5) (h6 : ¬ what = 6) :
    Calls Try.prog 83 #[.pointer (some ⟨p, 0, none⟩), VAL (many : Int) As sy.length cs Al ls.length cl (relL stops left), .agg #[.int .i64 what, .int .i64 at_, .int .i64 n, .int .u8 (b.toNat : Int), .slice K keep.length kc]] w (ActOut w p many ⟨sy, ls, left, stops⟩) := by
  unfold ActOut VAL
  obtain ⟨b1, b2, b3, b4, hB1⟩ := acW_is w #[.int .i64 (many : Int), .slice As sy.length cs, .slice Al ls.length cl, .int .i64 (relL stops left)] #[.int .i64 what, .int .i64 at_, .int .i64 n, .int .u8 (b.toNat : Int), .slice K keep.length kc]
  have bl0 := ((BlkIs.new w 141 #[.int .i64 (many : Int), .slice As sy.length cs, .slice Al ls.length cl, .int .i64 (relL stops left)]).alloc (.cells #[.int .i64 what, .int .i64 at_, .int .i64 n, .int .u8 (b.toNat : Int), .slice K keep.length kc] 136)).alloc (.cells #[.int .i64 0, .slice none 0 0, .slice none 0 0, .int .i64 0] 141)
  have bs0 := BlkIs.new (((w.alloc (.cells #[.int .i64 (many : Int), .slice As sy.length cs, .slice Al ls.length cl, .int .i64 (relL stops left)] 141)).alloc (.cells #[.int .i64 what, .int .i64 at_, .int .i64 n, .int .u8 (b.toNat : Int), .slice K keep.length kc] 136)).alloc (.cells #[.int .i64 0, .slice none 0 0, .slice none 0 0, .int .i64 0] 141)) 141 #[.int .i64 0, .slice none 0 0, .slice none 0 0, .int .i64 0]
  simp only [World.size_alloc] at bs0
  obtain ⟨W1, hW1⟩ : ∃ W, W = acW w #[.int .i64 (many : Int), .slice As sy.length cs, .slice Al ls.length cl, .int .i64 (relL stops left)] #[.int .i64 what, .int .i64 at_, .int .i64 n, .int .u8 (b.toNat : Int), .slice K keep.length kc] := ⟨_, rfl⟩
  rw [← hW1] at b1 b2 b3 b4 hB1
  unfold acW zeroR at hW1
  have HW1 := Lib.hid hW1
  have hp := hD.lt
  clear hW1
  have x0 : W1.cell? ⟨w.heap.size + 1, 0, none⟩ = some (.int .i64 what) := by rw [b2.cell]; rfl
  have D1 := hD.grow hB1
  have R1 := hR.grow hB1
  have g0 : (what == 0) = false := by simpa using h0
  have g1 : (what == 1) = false := by simpa using h1
  have g2 : (what == 2) = false := by simpa using h2
  have g3 : (what == 3) = false := by simpa using h3
  have g4 : (what == 4) = false := by simpa using h4
  have g5 : (what == 5) = false := by simpa using h5
  have g6 : (what == 6) = false := by simpa using h6
  go_enter Try.func83, Try.ntmps83
  go_upto_region 2 with (first
    | (refine wp_loadW rfl 141 (.tmp 4) rfl w.heap.size rfl rowRDisk bl0 (by rfl) ?_)
    | (refine wp_storeW rfl 141 (.tmp 9) (.tmp 16) rfl (w.heap.size + 1 + 1 + 1) rfl rfl rowRDisk bs0 (by rfl) (by rfl) (four_oneR rfl rfl rfl rfl) ?_))
  rw [← HW1.out]
  clear HW1 bl0 bs0
  go_wp2
  refine RegF.start (fun W => BlkIs W w.heap.size 141 #[.int .i64 (many : Int), .slice As sy.length cs, .slice Al ls.length cl, .int .i64 (relL stops left)]) 99 (by kernel_rfl) ?_
  have hSd : BlkIs W1.drew w.heap.size 141 #[.int .i64 (many : Int), .slice As sy.length cs, .slice Al ls.length cl, .int .i64 (relL stops left)] := b1
  have hBd : Below W1.heap.size W1 W1.drew := (Below.refl _ W1).drew
  refine RegF.take0 0 (.pointer (some ⟨p, 0, none⟩)) rfl (by kernel_rfl) (by kernel_rfl) (by kernel_rfl) rfl (fun _ _ _ h => h) hSd (RegF.yld rfl (fun W hW => by go_simp)) ?_
  simp only [List.getElem_toArray, List.getElem_cons_zero, Act.put, List.setIfInBounds_toArray, List.set_cons_zero, List.set_cons_succ]
  refine RegF.take0 2 (.agg #[.int .i64 (many : Int), .slice As sy.length cs, .slice Al ls.length cl, .int .i64 (relL stops left)]) rfl (by kernel_rfl) (by kernel_rfl) (by kernel_rfl) rfl (fun _ _ _ h => h) hSd (RegF.yld rfl (fun W hW => by exact x_loadM rowRDisk hW.range rfl rfl rfl)) ?_
  simp only [List.getElem_toArray, List.getElem_cons_succ, List.getElem_cons_zero, Act.put, List.setIfInBounds_toArray, List.set_cons_zero, List.set_cons_succ]
  refine RegF.one 1 (by kernel_rfl) ?_
  refine RegF.opC 24 #[.tmp 19] #[26] rfl rfl rfl (enters_of Try.func24 (by kernel_rfl) rfl) #[.pointer (some ⟨p, 0, none⟩)] (by simp only [List.map_toArray, List.map_cons, List.map_nil]; rfl) ((copy_gives W1.drew p many (gOf sy) ls left stops (D1.grow hBd) (by omega)).mono ?_)
  rintro e w5 ⟨q, rfl, hq, D5, hB5⟩
  have hB5 : Below W1.heap.size W1 w5 := hBd.trans hB5
  have b15 := b1.below hB5 b1.lt
  have b35 := b3.below hB5 b3.lt
  have R5 := R1.grow hB5
  have hB05 := hB1.trans (hB5.mono hB1.size)
  have hlt3 := b3.lt
  have hq' : W1.heap.size ≤ q := hq
  refine ⟨_, rfl, fun _ => b15, ?_⟩
  simp only [List.getElem_toArray, List.getElem_cons_succ, List.getElem_cons_zero, Act.put, List.setIfInBounds_toArray, List.set_cons_zero, List.set_cons_succ]
  refine RegF.one 3 (by kernel_rfl) ?_
  refine RegF.opV (w' := w5) (.pointer (some ⟨q, 0, none⟩)) rfl rfl (by go_simp) ⟨fun _ => b15, ?_⟩
  simp only [List.getElem_toArray, List.getElem_cons_succ, List.getElem_cons_zero, Act.put, List.setIfInBounds_toArray, List.set_cons_zero, List.set_cons_succ]
  refine RegF.one 4 (by kernel_rfl) ?_
  refine RegF.opS (w' := w5.setRow (w.heap.size + 1 + 1) #[.int .i64 (many : Int), .slice As sy.length cs, .slice Al ls.length cl, .int .i64 (relL stops left)]) rfl rfl (x_storeR (.tmp 7) (.tmp 21) rfl (w.heap.size + 1 + 1) rfl rfl b35 rfl rfl (four_oneR rfl rfl rfl rfl)) ⟨fun _ => b15.setRow_ne (by omega) _, ?_⟩
  simp only [List.getElem_toArray, List.getElem_cons_succ, List.getElem_cons_zero, Act.put]
  refine RegF.one 5 (by kernel_rfl) ?_
  refine RegF.opV (w' := w5.setRow (w.heap.size + 1 + 1) #[.int .i64 (many : Int), .slice As sy.length cs, .slice Al ls.length cl, .int .i64 (relL stops left)]) (.bool true) rfl rfl (by go_simp) ⟨fun _ => b15.setRow_ne (by omega) _, ?_⟩
  simp only [List.getElem_toArray, List.getElem_cons_succ, List.getElem_cons_zero, Act.put, List.setIfInBounds_toArray, List.set_cons_zero, List.set_cons_succ]
  refine RegF.done (by kernel_rfl) ?_
  go_wp2
  have gE : w5.grownBy (w5.setRow (w.heap.size + 1 + 1) #[.int .i64 (many : Int), .slice As sy.length cs, .slice Al ls.length cl, .int .i64 (relL stops left)]) (some (w.heap.size + 1 + 1)) := setRow_grownBy _ _ _
  have DE := D5.other b35 (by show 4 ≤ 64; decide) (by omega) gE
  have RE := R5.grownT b35 (noText4 _ _ _ _ _ _ _ _) gE
  exact bodyPost_ret (results3 6 7 8 rfl rfl rfl rfl rowRDisk (b35.setRow _) (by rfl)) rfl ⟨q, As, cs, Al, cl, rfl, DE, RE, .inr (Nat.le_trans hB1.size hq'), below_grownBy (below_setRow hB05 (by omega) _) p⟩
end Go.Proofs.Ytlelckdcmlpmdaa
/- loupelaw04.act: Read. -/
namespace Go.Proofs.Ytlelckdcmlpmdaa
open Go Go.RowKit Lou

theorem rdE_out {many at_ L : Int} {v : Value} (h : ¬ rdE many at_ L = 0) : (if at_ < 0 ∨ many ≤ at_ then Value.tuple #[.string (str []), .int .i64 4] else if L = 0 then .tuple #[.string (str []), .int .i64 140] else v) = .tuple #[.string (str []), .int .i64 (rdE many at_ L)] := by
  unfold rdE at *
  by_cases h1 : at_ < 0 ∨ many ≤ at_
  · rw [if_pos h1, if_pos h1]
  · rw [if_neg h1] at h ⊢
    rw [if_neg h1]
    by_cases h2 : L = 0
    · rw [if_pos h2, if_pos h2]
    · rw [if_neg h2] at h; exact absurd rfl h
set_option maxRecDepth 100000 in
set_option maxHeartbeats 8000000 in
theorem act_rbad (w : World) (p many : Nat) (sy ls : List (Nat × List UInt8)) (left : Int) (stops : Bool) (As : Option Addr) (cs : Nat) (Al : Option Addr) (cl : Nat) (what at_ n : Int) (b : UInt8) (keep : List Bool) (K : Option Addr) (kc : Nat) (hD : DkIs w p many (gOf sy) ls left stops) (hR : RIs w w.heap.size sy ls As cs Al cl) (hok : StOk many ⟨sy, ls, left, stops⟩) (hn1 : sy.length ≤ 400000) (hn2 : ls.length ≤ 400000) (hE : ¬ rdE (many : Int) at_ (relL stops left) = 0) :
    Calls Try.prog 83 #[.pointer (some ⟨p, 0, none⟩), VAL (many : Int) As sy.length cs Al ls.length cl (relL stops left), .agg #[.int .i64 6, .int .i64 at_, .int .i64 n, .int .u8 (b.toNat : Int), .slice K keep.length kc]] w (ActOut w p many ⟨sy, ls, left, stops⟩) := by
  unfold ActOut VAL
  have HE := Lib.hid hE
  clear hE
  obtain ⟨b1, b2, b3, b4, hB1⟩ := acW_is w #[.int .i64 (many : Int), .slice As sy.length cs, .slice Al ls.length cl, .int .i64 (relL stops left)] #[.int .i64 6, .int .i64 at_, .int .i64 n, .int .u8 (b.toNat : Int), .slice K keep.length kc]
  have bl0 := ((BlkIs.new w 141 #[.int .i64 (many : Int), .slice As sy.length cs, .slice Al ls.length cl, .int .i64 (relL stops left)]).alloc (.cells #[.int .i64 6, .int .i64 at_, .int .i64 n, .int .u8 (b.toNat : Int), .slice K keep.length kc] 136)).alloc (.cells #[.int .i64 0, .slice none 0 0, .slice none 0 0, .int .i64 0] 141)
  have bs0 := BlkIs.new (((w.alloc (.cells #[.int .i64 (many : Int), .slice As sy.length cs, .slice Al ls.length cl, .int .i64 (relL stops left)] 141)).alloc (.cells #[.int .i64 6, .int .i64 at_, .int .i64 n, .int .u8 (b.toNat : Int), .slice K keep.length kc] 136)).alloc (.cells #[.int .i64 0, .slice none 0 0, .slice none 0 0, .int .i64 0] 141)) 141 #[.int .i64 0, .slice none 0 0, .slice none 0 0, .int .i64 0]
  simp only [World.size_alloc] at bs0
  obtain ⟨W1, hW1⟩ : ∃ W, W = acW w #[.int .i64 (many : Int), .slice As sy.length cs, .slice Al ls.length cl, .int .i64 (relL stops left)] #[.int .i64 6, .int .i64 at_, .int .i64 n, .int .u8 (b.toNat : Int), .slice K keep.length kc] := ⟨_, rfl⟩
  rw [← hW1] at b1 b2 b3 b4 hB1
  unfold acW zeroR at hW1
  have HW1 := Lib.hid hW1
  have hp := hD.lt
  clear hW1
  have x0 : W1.cell? ⟨w.heap.size + 1, 0, none⟩ = some (.int .i64 6) := by rw [b2.cell]; rfl
  have D1 := hD.grow hB1
  have R1 := hR.grow hB1
  go_enter Try.func83, Try.ntmps83
  go_upto_region 2 with (first
    | (refine wp_loadW rfl 141 (.tmp 4) rfl w.heap.size rfl rowRDisk bl0 (by rfl) ?_)
    | (refine wp_storeW rfl 141 (.tmp 9) (.tmp 16) rfl (w.heap.size + 1 + 1 + 1) rfl rfl rowRDisk bs0 (by rfl) (by rfl) (four_oneR rfl rfl rfl rfl) ?_))
  rw [← HW1.out]
  clear HW1 bl0 bs0
  have x1 : W1.cell? ⟨w.heap.size + 1, 1, none⟩ = some (.int .i64 at_) := by rw [b2.cell]; rfl
  go_wp2_with (first
    | (go_at_call 26; refine (read_bad W1 p many (gOf sy) ls left stops D1 at_ HE.out).mono ?_; rintro e w6 ⟨rfl, hB6⟩; skip; have b16 := b1.below hB6 b1.lt; have b26 := b2.below hB6 b2.lt; have b36 := b3.below hB6 b3.lt; have D6 := D1.grow hB6; have R6 := R1.grow hB6; have hB06 := hB1.trans (hB6.mono hB1.size); have x16 : w6.cell? ⟨w.heap.size + 1, 1, none⟩ = some (.int .i64 at_) := (by rw [b26.cell]; rfl))
    | (refine wp_loadW rfl 141 (.tmp 4) rfl w.heap.size rfl rowRDisk b16 (by rfl) ?_)
    | (go_at_call 149; have HRx := rread4_gives w6 (many : Int) sy ls As cs Al cl (relL stops left) R6 hn1 hn2 at_; rw [show (if at_ < 0 ∨ (many : Int) ≤ at_ then Value.tuple #[.string (str []), .int .i64 4] else if relL stops left = 0 then .tuple #[.string (str []), .int .i64 140] else .tuple #[.string (str (lastB (sy ++ ls) at_)), .int .i64 0]) = .tuple #[.string (str []), .int .i64 (rdE (many : Int) at_ (relL stops left))] from rdE_out HE.out] at HRx; unfold VAL at HRx; refine HRx.mono ?_; rintro e w8 ⟨rfl, hB8⟩; have b18 := b16.below hB8 b16.lt; have b38 := b36.below hB8 b36.lt; have D8 := D6.grow hB8; have R8 := R6.grow hB8; have hB08 := hB06.trans (hB8.mono hB06.size)))
  have hBd : Below w8.heap.size w8 w8.drew := (Below.refl _ w8).drew
  refine RegF.start (fun W => BlkIs W w.heap.size 141 #[.int .i64 (many : Int), .slice As sy.length cs, .slice Al ls.length cl, .int .i64 (relL stops left)]) 99 (by kernel_rfl) ?_
  have hSd : BlkIs w8.drew w.heap.size 141 #[.int .i64 (many : Int), .slice As sy.length cs, .slice Al ls.length cl, .int .i64 (relL stops left)] := b18
  refine RegF.take0 0 (.pointer (some ⟨p, 0, none⟩)) rfl (by kernel_rfl) (by kernel_rfl) (by kernel_rfl) rfl (fun _ _ _ h => h) hSd (RegF.yld rfl (fun W hW => by go_simp)) ?_
  simp only [List.getElem_toArray, List.getElem_cons_zero, Act.put, List.setIfInBounds_toArray, List.set_cons_zero, List.set_cons_succ]
  refine RegF.take0 1 (.agg #[.int .i64 (many : Int), .slice As sy.length cs, .slice Al ls.length cl, .int .i64 (relL stops left)]) rfl (by kernel_rfl) (by kernel_rfl) (by kernel_rfl) rfl (fun _ _ _ h => h) hSd (RegF.yld rfl (fun W hW => by exact x_loadM rowRDisk hW.range rfl rfl rfl)) ?_
  simp only [List.getElem_toArray, List.getElem_cons_succ, List.getElem_cons_zero, Act.put, List.setIfInBounds_toArray, List.set_cons_zero, List.set_cons_succ]
  refine RegF.take0 2 (.slice none 0 0) rfl (by kernel_rfl) (by kernel_rfl) (by kernel_rfl) rfl (fun _ _ _ h => h) hSd (RegF.yld rfl (fun W hW => by go_simp)) ?_
  simp only [List.getElem_toArray, List.getElem_cons_succ, List.getElem_cons_zero, Act.put, List.setIfInBounds_toArray, List.set_cons_zero, List.set_cons_succ]
  refine RegF.take0 4 (.string (str [])) rfl (by kernel_rfl) (by kernel_rfl) (by kernel_rfl) rfl (fun _ _ _ h => h) hSd (RegF.yld rfl (fun W hW => by go_simp)) ?_
  simp only [List.getElem_toArray, List.getElem_cons_succ, List.getElem_cons_zero, Act.put, List.setIfInBounds_toArray, List.set_cons_zero, List.set_cons_succ]
  refine RegF.one 3 (by kernel_rfl) ?_
  refine RegF.opV (w' := w8.drew) (.string (str [])) rfl rfl ((InB.mk (l := []) (A := none) (c := 0) (B := 0) (w := w8.drew) (Nat.le_refl _) (by omega) (fun _ => rfl) (fun h => by cases h)) |> fun hin => x_convB rfl rfl hin) ⟨fun _ => hSd, ?_⟩
  simp only [List.getElem_toArray, List.getElem_cons_succ, List.getElem_cons_zero, Act.put, List.setIfInBounds_toArray, List.set_cons_zero, List.set_cons_succ]
  refine RegF.one 5 (by kernel_rfl) ?_
  refine RegF.opV (w' := w8.drew) (.bool true) rfl rfl (by go_simp) ⟨fun _ => hSd, ?_⟩
  simp only [List.getElem_toArray, List.getElem_cons_succ, List.getElem_cons_zero, Act.put, List.setIfInBounds_toArray, List.set_cons_zero, List.set_cons_succ]
  refine RegF.take0 6 (.bool true) rfl (by kernel_rfl) (by kernel_rfl) (by kernel_rfl) rfl (fun _ _ _ h => h) hSd (RegF.yld rfl (fun W hW => by go_simp)) ?_
  simp only [List.getElem_toArray, List.getElem_cons_succ, List.getElem_cons_zero, Act.put, List.setIfInBounds_toArray, List.set_cons_zero, List.set_cons_succ]
  refine RegF.take0 7 (.int .i64 (rdE (many : Int) at_ (relL stops left))) rfl (by kernel_rfl) (by kernel_rfl) (by kernel_rfl) rfl (fun _ _ _ h => h) hSd (.inl ⟨by first | rfl | simp [Region.wanted, yielded, Act.put], fun W hW => by go_simp⟩) ?_
  simp only [List.getElem_toArray, List.getElem_cons_succ, List.getElem_cons_zero, Act.put, List.setIfInBounds_toArray, List.set_cons_zero, List.set_cons_succ]
  refine RegF.take0 9 (.int .i64 (rdE (many : Int) at_ (relL stops left))) rfl (by kernel_rfl) (by kernel_rfl) (by kernel_rfl) rfl (fun _ _ _ h => h) hSd (.inl ⟨by first | rfl | simp [Region.wanted, yielded, Act.put], fun W hW => by go_simp⟩) ?_
  simp only [List.getElem_toArray, List.getElem_cons_succ, List.getElem_cons_zero, Act.put, List.setIfInBounds_toArray, List.set_cons_zero, List.set_cons_succ]
  refine RegF.one 8 (by kernel_rfl) ?_
  refine opCG 20 #[.tmp 104] #[27] rfl (by first | rfl | simp [Region.wanted, yielded, Act.put]) rfl (enters_of Try.func20 (by kernel_rfl) rfl) #[.int .i64 (rdE (many : Int) at_ (relL stops left))] (by simp only [List.map_toArray, List.map_cons, List.map_nil]; rfl) ((num4_gives w8.drew (rdE (many : Int) at_ (relL stops left))).mono ?_)
  rintro e W9 ⟨rfl, rfl⟩
  refine ⟨_, rfl, fun _ => hSd, ?_⟩
  simp only [List.getElem_toArray, List.getElem_cons_succ, List.getElem_cons_zero, Act.put, List.setIfInBounds_toArray, List.set_cons_zero, List.set_cons_succ]
  refine RegF.take0 10 (.bool true) rfl (by kernel_rfl) (by kernel_rfl) (by kernel_rfl) rfl (fun _ _ _ h => h) hSd (.inl ⟨by first | rfl | simp [Region.wanted, yielded, Act.put], fun W hW => by go_simp⟩) ?_
  simp only [List.getElem_toArray, List.getElem_cons_succ, List.getElem_cons_zero, Act.put, List.setIfInBounds_toArray, List.set_cons_zero, List.set_cons_succ]
  refine RegF.take0 11 (.bool true) rfl (by kernel_rfl) (by kernel_rfl) (by kernel_rfl) rfl (fun _ _ _ h => h) hSd (RegF.yld rfl (fun W hW => by go_simp)) ?_
  simp only [List.getElem_toArray, List.getElem_cons_succ, List.getElem_cons_zero, Act.put, List.setIfInBounds_toArray, List.set_cons_zero, List.set_cons_succ]
  refine RegF.one 12 (by kernel_rfl) ?_
  refine RegF.opV (w' := w8.drew) (.pointer (some ⟨p, 0, none⟩)) rfl rfl (by go_simp) ⟨fun _ => hSd, ?_⟩
  simp only [List.getElem_toArray, List.getElem_cons_succ, List.getElem_cons_zero, Act.put, List.setIfInBounds_toArray, List.set_cons_zero, List.set_cons_succ]
  have hb3d : BlkIs w8.drew (w.heap.size + 1 + 1) 141 #[.int .i64 0, .slice none 0 0, .slice none 0 0, .int .i64 0] := b38
  refine RegF.one 13 (by kernel_rfl) ?_
  refine RegF.opS (w' := w8.drew.setRow (w.heap.size + 1 + 1) #[.int .i64 (many : Int), .slice As sy.length cs, .slice Al ls.length cl, .int .i64 (relL stops left)]) rfl rfl (x_storeR (.tmp 7) (.tmp 98) rfl (w.heap.size + 1 + 1) rfl rfl hb3d rfl rfl (four_oneR rfl rfl rfl rfl)) ⟨fun _ => hSd.setRow_ne (by omega) _, ?_⟩
  simp only [List.getElem_toArray, List.getElem_cons_succ, List.getElem_cons_zero, Act.put]
  refine RegF.one 14 (by kernel_rfl) ?_
  refine RegF.opV (w' := w8.drew.setRow (w.heap.size + 1 + 1) #[.int .i64 (many : Int), .slice As sy.length cs, .slice Al ls.length cl, .int .i64 (relL stops left)]) (.bool true) rfl rfl (by go_simp) ⟨fun _ => hSd.setRow_ne (by omega) _, ?_⟩
  simp only [List.getElem_toArray, List.getElem_cons_succ, List.getElem_cons_zero, Act.put, List.setIfInBounds_toArray, List.set_cons_zero, List.set_cons_succ]
  refine RegF.done (by kernel_rfl) ?_
  go_wp2
  have gE : w8.drew.grownBy (w8.drew.setRow (w.heap.size + 1 + 1) #[.int .i64 (many : Int), .slice As sy.length cs, .slice Al ls.length cl, .int .i64 (relL stops left)]) (some (w.heap.size + 1 + 1)) := setRow_grownBy _ _ _
  have DE := (D8.grow hBd).other hb3d (by show 4 ≤ 64; decide) (by omega) gE
  have RE := (R8.grow hBd).grownT hb3d (noText4 _ _ _ _ _ _ _ _) gE
  exact bodyPost_ret (results3 6 7 8 rfl rfl rfl rfl rowRDisk (hb3d.setRow _) (by rfl)) rfl ⟨p, As, cs, Al, cl, rfl, DE, RE, .inl rfl, below_grownBy (below_setRow hB08.drew (by omega) _) p⟩
end Go.Proofs.Ytlelckdcmlpmdaa
