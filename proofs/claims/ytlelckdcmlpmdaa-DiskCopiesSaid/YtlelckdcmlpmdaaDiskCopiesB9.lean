/- Texts that the proof of DiskCopies leans on, part 9. -/
import Derived.Deep.DeepCutAuto
import Derived.Deep.CutBlock
import Derived.Test.YtlelckdcmlpmdaaDiskCopiesB8
/- loupelaw04.act: a write that isn't carried out. -/
namespace Go.Proofs.Ytlelckdcmlpmdaa
open Go Go.RowKit Lou

theorem grownBy_past {a b c : World} {row : Option Nat} {q : Nat} (h : a.grownBy b row) (k : b.grownBy c (some q)) (hq : a.heap.size ≤ q) : a.grownBy c row :=
  ⟨k.os.trans h.os, k.tape.trans h.tape, k.output.trans h.output, Nat.le_trans h.size k.size, fun i hi hne => (k.block i (Nat.lt_of_lt_of_le hi h.size) (fun e => by injection e with e; omega)).trans (h.block i hi hne)⟩
def ActOut (w : World) (p many : Nat) (s : DSt) (e : Ending) (w' : World) : Prop := ∃ q As cs Al cl, e = .returned (.tuple #[.pointer (some ⟨q, 0, none⟩), VAL (many : Int) As s.sy.length cs Al s.ls.length cl (relL s.stops s.left), .bool true]) ∧ DkIs w' q many (gOf s.sy) s.ls s.left s.stops ∧ RIs w' w'.heap.size s.sy s.ls As cs Al cl ∧ (q = p ∨ w.heap.size ≤ q) ∧ w.grownBy w' (some p)
theorem x_storeR {ρ : Operand → Value} {w : World} {o : Oper} (x y : Operand) (ho : o.op = .store 141 x y) (g : Nat) {cs cs' : Array Value} (hx : ρ x = .pointer (some ⟨g, 0, none⟩)) (hy : ρ y = .agg cs') (hb : BlkIs w g 141 cs) (hn : cs.size = 4) (hs : cs'.size = cs.size) (h1 : ∀ v ∈ cs'.toList, v.oneCell' = true) : (execOp ρ o).run Try.prog w = .ok .skip (w.setRow g cs') := by
  unfold execOp
  simp only [ho, hx, hy, Instr.storeAt, Instr.sureAddr, Sem.run_bind, Sem.run_pure, Result.andThen_ok, run_storeW (hn ▸ rowRDisk) hb hs h1]
theorem x_convB {ρ : Operand → Value} {w : World} {o : Oper} {x : Operand} {A : Option Addr} {c B : Nat} {l : List UInt8} (ho : o.op = .convert 30 9 x) (hx : ρ x = .slice A l.length c) (hin : InB w B A c l) : (execOp ρ o).run Try.prog w = .ok (.value (.string (str l))) w := by
  have := hin.string
  simp only [execOp, ho, hx, Sem.run_bind, this, Result.andThen_ok, Sem.run_pure]
set_option maxRecDepth 100000 in
set_option maxHeartbeats 8000000 in
theorem act_wbad0 (w : World) (p many : Nat) (sy ls : List (Nat × List UInt8)) (left : Int) (stops : Bool) (As : Option Addr) (cs : Nat) (Al : Option Addr) (cl : Nat) (at_ n : Int) (b : UInt8) (keep : List Bool) (K : Option Addr) (kc : Nat) (hD : DkIs w p many (gOf sy) ls left stops) (hR : RIs w w.heap.size sy ls As cs Al cl) (hok : StOk many ⟨sy, ls, left, stops⟩) (hn1 : sy.length ≤ 400000) (hn2 : ls.length ≤ 400000) (E : Int) (hEE : E = rwE (many : Int) at_ (relL stops left) (bytesOf (⟨0, at_, n, b, keep, K, kc⟩ : ActV)).length) (hE : ¬ E = 0) :
    Calls Try.prog 83 #[.pointer (some ⟨p, 0, none⟩), VAL (many : Int) As sy.length cs Al ls.length cl (relL stops left), .agg #[.int .i64 0, .int .i64 at_, .int .i64 n, .int .u8 (b.toNat : Int), .slice K keep.length kc]] w (ActOut w p many ⟨sy, ls, left, stops⟩) := by
  unfold ActOut VAL
  obtain ⟨b1, b2, b3, b4, hB1⟩ := acW_is w #[.int .i64 (many : Int), .slice As sy.length cs, .slice Al ls.length cl, .int .i64 (relL stops left)] #[.int .i64 0, .int .i64 at_, .int .i64 n, .int .u8 (b.toNat : Int), .slice K keep.length kc]
  have bl0 := ((BlkIs.new w 141 #[.int .i64 (many : Int), .slice As sy.length cs, .slice Al ls.length cl, .int .i64 (relL stops left)]).alloc (.cells #[.int .i64 0, .int .i64 at_, .int .i64 n, .int .u8 (b.toNat : Int), .slice K keep.length kc] 136)).alloc (.cells #[.int .i64 0, .slice none 0 0, .slice none 0 0, .int .i64 0] 141)
  have bs0 := BlkIs.new (((w.alloc (.cells #[.int .i64 (many : Int), .slice As sy.length cs, .slice Al ls.length cl, .int .i64 (relL stops left)] 141)).alloc (.cells #[.int .i64 0, .int .i64 at_, .int .i64 n, .int .u8 (b.toNat : Int), .slice K keep.length kc] 136)).alloc (.cells #[.int .i64 0, .slice none 0 0, .slice none 0 0, .int .i64 0] 141)) 141 #[.int .i64 0, .slice none 0 0, .slice none 0 0, .int .i64 0]
  simp only [World.size_alloc] at bs0
  obtain ⟨W1, hW1⟩ : ∃ W, W = acW w #[.int .i64 (many : Int), .slice As sy.length cs, .slice Al ls.length cl, .int .i64 (relL stops left)] #[.int .i64 0, .int .i64 at_, .int .i64 n, .int .u8 (b.toNat : Int), .slice K keep.length kc] := ⟨_, rfl⟩
  rw [← hW1] at b1 b2 b3 b4 hB1
  unfold acW zeroR at hW1
  have HW1 := Lib.hid hW1
  have hp := hD.lt
  clear hW1
  have x0 : W1.cell? ⟨w.heap.size + 1, 0, none⟩ = some (.int .i64 0) := by rw [b2.cell]; rfl
  have D1 := hD.grow hB1
  have R1 := hR.grow hB1
  have HE := Lib.hid hEE
  clear hEE
  go_enter Try.func83, Try.ntmps83
  go_upto_region 2 with (first
    | (refine wp_loadW rfl 141 (.tmp 4) rfl w.heap.size rfl rowRDisk bl0 (by rfl) ?_)
    | (refine wp_storeW rfl 141 (.tmp 9) (.tmp 16) rfl (w.heap.size + 1 + 1 + 1) rfl rfl rowRDisk bs0 (by rfl) (by rfl) (four_oneR rfl rfl rfl rfl) ?_))
  rw [← HW1.out]
  clear HW1 bl0 bs0
  go_wp2
  refine RegF.start (fun W => BlkIs W w.heap.size 141 #[.int .i64 (many : Int), .slice As sy.length cs, .slice Al ls.length cl, .int .i64 (relL stops left)] ∧ BlkIs W (w.heap.size + 1) 136 #[.int .i64 0, .int .i64 at_, .int .i64 n, .int .u8 (b.toNat : Int), .slice K keep.length kc]) 99 (by kernel_rfl) ?_
  have hSd : BlkIs W1.drew w.heap.size 141 #[.int .i64 (many : Int), .slice As sy.length cs, .slice Al ls.length cl, .int .i64 (relL stops left)] ∧ BlkIs W1.drew (w.heap.size + 1) 136 #[.int .i64 0, .int .i64 at_, .int .i64 n, .int .u8 (b.toNat : Int), .slice K keep.length kc] := ⟨b1, b2⟩
  refine RegF.take0 0 (.pointer (some ⟨p, 0, none⟩)) rfl (by kernel_rfl) (by kernel_rfl) (by kernel_rfl) rfl (fun _ _ _ h => h) hSd (RegF.yld rfl (fun W hW => by go_simp)) ?_
  simp only [List.getElem_toArray, List.getElem_cons_zero, Act.put, List.setIfInBounds_toArray, List.set_cons_zero, List.set_cons_succ]
  refine RegF.take0 1 (.pointer (some ⟨w.heap.size + 1, 1, none⟩)) rfl (by kernel_rfl) (by kernel_rfl) (by kernel_rfl) rfl (fun _ _ _ h => h) hSd (RegF.yld rfl (fun W hW => by go_simp)) ?_
  simp only [List.getElem_toArray, List.getElem_cons_succ, List.getElem_cons_zero, Act.put, List.setIfInBounds_toArray, List.set_cons_zero, List.set_cons_succ]
  refine RegF.take0 2 (.int .i64 at_) rfl (by kernel_rfl) (by kernel_rfl) (by kernel_rfl) rfl (fun _ _ _ h => h) hSd (RegF.yld rfl (fun W hW => by have e : W.cell? ⟨w.heap.size + 1, 1, none⟩ = _ := hW.2.cell 1; go_simp)) ?_
  simp only [List.getElem_toArray, List.getElem_cons_succ, List.getElem_cons_zero, Act.put, List.setIfInBounds_toArray, List.set_cons_zero, List.set_cons_succ]
  refine RegF.take0 3 (.agg #[.int .i64 0, .int .i64 at_, .int .i64 n, .int .u8 (b.toNat : Int), .slice K keep.length kc]) rfl (by kernel_rfl) (by kernel_rfl) (by kernel_rfl) rfl (fun _ _ _ h => h) hSd (RegF.yld rfl (fun W hW => by exact x_loadM rowAct hW.2.range rfl rfl rfl)) ?_
  simp only [List.getElem_toArray, List.getElem_cons_succ, List.getElem_cons_zero, Act.put, List.setIfInBounds_toArray, List.set_cons_zero, List.set_cons_succ]
  refine RegF.one 4 (by kernel_rfl) ?_
  refine RegF.opC 144 #[.tmp 29] #[136] rfl rfl rfl (enters_of Try.func144 (by kernel_rfl) rfl) #[.agg #[.int .i64 0, .int .i64 at_, .int .i64 n, .int .u8 (b.toNat : Int), .slice K keep.length kc]] (by simp only [List.map_toArray, List.map_cons, List.map_nil]; rfl) ((bytes4_gives W1.drew (⟨0, at_, n, b, keep, K, kc⟩ : ActV)).mono ?_)
  rintro e w5 ⟨A5, c5, rfl, in5, hB5⟩
  have hB5 : Below W1.heap.size W1 w5 := (Below.refl _ W1).drew.trans hB5
  have b15 := b1.below hB5 b1.lt
  have b25 := b2.below hB5 b2.lt
  have b35 := b3.below hB5 b3.lt
  have b45 := b4.below hB5 b4.lt
  have D5 := D1.grow hB5
  have R5 := R1.grow hB5
  have hB05 := hB1.trans (hB5.mono hB1.size)
  refine ⟨_, rfl, fun _ => ⟨b15, b25⟩, ?_⟩
  simp only [List.getElem_toArray, List.getElem_cons_succ, List.getElem_cons_zero, Act.put, List.setIfInBounds_toArray, List.set_cons_zero, List.set_cons_succ]
  have HWr := write_bad w5 p many (gOf sy) ls left stops D5 at_ A5 (bytesOf (⟨0, at_, n, b, keep, K, kc⟩ : ActV)).length c5 (by rw [← HE.out]; exact hE)
  rw [← HE.out] at HWr
  refine RegF.one 5 (by kernel_rfl) ?_
  refine RegF.opC 21 #[.tmp 26, .tmp 28, .tmp 30] #[26, 3, 30] rfl rfl rfl (enters_of Try.func21 (by kernel_rfl) rfl) #[.pointer (some ⟨p, 0, none⟩), .int .i64 at_, .slice A5 (bytesOf (⟨0, at_, n, b, keep, K, kc⟩ : ActV)).length c5] (by simp only [List.map_toArray, List.map_cons, List.map_nil]; rfl) ((HWr).mono ?_)
  rintro e w6 ⟨rfl, hB6⟩
  have b16 := b15.below hB6 b15.lt
  have b26 := b25.below hB6 b25.lt
  have b36 := b35.below hB6 b35.lt
  have b46 := b45.below hB6 b45.lt
  have D6 := D5.grow hB6
  have R6 := R5.grow hB6
  have hB06 := hB05.trans (hB6.mono hB05.size)
  refine ⟨_, rfl, fun _ => ⟨b16, b26⟩, ?_⟩
  simp only [List.getElem_toArray, List.getElem_cons_succ, List.getElem_cons_zero, Act.put, List.setIfInBounds_toArray, List.set_cons_zero, List.set_cons_succ]
  refine RegF.one 6 (by kernel_rfl) ?_
  refine RegF.opV (w' := w6) (.int .i64 E) rfl rfl (by go_simp) ⟨fun _ => ⟨b16, b26⟩, ?_⟩
  simp only [List.getElem_toArray, List.getElem_cons_succ, List.getElem_cons_zero, Act.put, List.setIfInBounds_toArray, List.set_cons_zero, List.set_cons_succ]
  refine RegF.done (by kernel_rfl) ?_
  clear hSd b15 b25 b35 b45 D5 R5 hB05 b1 b2 b3 b4 D1 R1 hB1 hB5 hB6 in5 HWr
  go_wp2
  refine RegF.start (fun W => BlkIs W w.heap.size 141 #[.int .i64 (many : Int), .slice As sy.length cs, .slice Al ls.length cl, .int .i64 (relL stops left)] ∧ BlkIs W (w.heap.size + 1) 136 #[.int .i64 0, .int .i64 at_, .int .i64 n, .int .u8 (b.toNat : Int), .slice K keep.length kc]) 99 (by kernel_rfl) ?_
  have hSd : BlkIs w6.drew w.heap.size 141 #[.int .i64 (many : Int), .slice As sy.length cs, .slice Al ls.length cl, .int .i64 (relL stops left)] ∧ BlkIs w6.drew (w.heap.size + 1) 136 #[.int .i64 0, .int .i64 at_, .int .i64 n, .int .u8 (b.toNat : Int), .slice K keep.length kc] := ⟨b16, b26⟩
  refine RegF.take0 0 (.agg #[.int .i64 (many : Int), .slice As sy.length cs, .slice Al ls.length cl, .int .i64 (relL stops left)]) rfl (by kernel_rfl) (by kernel_rfl) (by kernel_rfl) rfl (fun _ _ _ h => h) hSd (RegF.yld rfl (fun W hW => by exact x_loadM rowRDisk hW.1.range rfl rfl rfl)) ?_
  simp only [List.getElem_toArray, List.getElem_cons_zero, Act.put, List.setIfInBounds_toArray, List.set_cons_zero, List.set_cons_succ]
  refine RegF.take0 1 (.pointer (some ⟨w.heap.size + 1, 1, none⟩)) rfl (by kernel_rfl) (by kernel_rfl) (by kernel_rfl) rfl (fun _ _ _ h => h) hSd (RegF.yld rfl (fun W hW => by go_simp)) ?_
  simp only [List.getElem_toArray, List.getElem_cons_succ, List.getElem_cons_zero, Act.put, List.setIfInBounds_toArray, List.set_cons_zero, List.set_cons_succ]
  refine RegF.take0 2 (.int .i64 at_) rfl (by kernel_rfl) (by kernel_rfl) (by kernel_rfl) rfl (fun _ _ _ h => h) hSd (RegF.yld rfl (fun W hW => by have e : W.cell? ⟨w.heap.size + 1, 1, none⟩ = _ := hW.2.cell 1; go_simp)) ?_
  simp only [List.getElem_toArray, List.getElem_cons_succ, List.getElem_cons_zero, Act.put, List.setIfInBounds_toArray, List.set_cons_zero, List.set_cons_succ]
  refine RegF.take0 3 (.agg #[.int .i64 0, .int .i64 at_, .int .i64 n, .int .u8 (b.toNat : Int), .slice K keep.length kc]) rfl (by kernel_rfl) (by kernel_rfl) (by kernel_rfl) rfl (fun _ _ _ h => h) hSd (RegF.yld rfl (fun W hW => by exact x_loadM rowAct hW.2.range rfl rfl rfl)) ?_
  simp only [List.getElem_toArray, List.getElem_cons_succ, List.getElem_cons_zero, Act.put, List.setIfInBounds_toArray, List.set_cons_zero, List.set_cons_succ]
  refine RegF.one 4 (by kernel_rfl) ?_
  refine RegF.opC 144 #[.tmp 36] #[136] rfl rfl rfl (enters_of Try.func144 (by kernel_rfl) rfl) #[.agg #[.int .i64 0, .int .i64 at_, .int .i64 n, .int .u8 (b.toNat : Int), .slice K keep.length kc]] (by simp only [List.map_toArray, List.map_cons, List.map_nil]; rfl) ((bytes4_gives w6.drew (⟨0, at_, n, b, keep, K, kc⟩ : ActV)).mono ?_)
  rintro e w7 ⟨A7, c7, rfl, in7, hB7⟩
  have hB7 : Below w6.heap.size w6 w7 := (Below.refl _ w6).drew.trans hB7
  have b17 := b16.below hB7 b16.lt
  have b27 := b26.below hB7 b26.lt
  have b37 := b36.below hB7 b36.lt
  have b47 := b46.below hB7 b46.lt
  have D7 := D6.grow hB7
  have R7 := R6.grow hB7
  have hB07 := hB06.trans (hB7.mono hB06.size)
  refine ⟨_, rfl, fun _ => ⟨b17, b27⟩, ?_⟩
  simp only [List.getElem_toArray, List.getElem_cons_succ, List.getElem_cons_zero, Act.put, List.setIfInBounds_toArray, List.set_cons_zero, List.set_cons_succ]
  refine RegF.one 5 (by kernel_rfl) ?_
  refine RegF.opV (w' := w7) (.string (str (bytesOf (⟨0, at_, n, b, keep, K, kc⟩ : ActV)))) rfl rfl (by exact x_convB rfl rfl in7) ⟨fun _ => ⟨b17, b27⟩, ?_⟩
  simp only [List.getElem_toArray, List.getElem_cons_succ, List.getElem_cons_zero, Act.put, List.setIfInBounds_toArray, List.set_cons_zero, List.set_cons_succ]
  have HRw := rwrite_bad w7 (many : Int) As sy.length cs Al ls.length cl (relL stops left) at_ (bytesOf (⟨0, at_, n, b, keep, K, kc⟩ : ActV)) (by rw [← HE.out]; exact hE)
  rw [← HE.out] at HRw
  unfold VAL at HRw
  refine RegF.one 6 (by kernel_rfl) ?_
  refine RegF.opC 145 #[.tmp 33, .tmp 35, .tmp 38] #[141, 3, 9] rfl rfl rfl (enters_of Try.func145 (by kernel_rfl) rfl) #[.agg #[.int .i64 (many : Int), .slice As sy.length cs, .slice Al ls.length cl, .int .i64 (relL stops left)], .int .i64 at_, .string (str (bytesOf (⟨0, at_, n, b, keep, K, kc⟩ : ActV)))] (by simp only [List.map_toArray, List.map_cons, List.map_nil]; rfl) ((HRw).mono ?_)
  rintro e w8 ⟨rfl, hB8⟩
  have b18 := b17.below hB8 b17.lt
  have b28 := b27.below hB8 b27.lt
  have b38 := b37.below hB8 b37.lt
  have b48 := b47.below hB8 b47.lt
  have D8 := D7.grow hB8
  have R8 := R7.grow hB8
  have hB08 := hB07.trans (hB8.mono hB07.size)
  refine ⟨_, rfl, fun _ => ⟨b18, b28⟩, ?_⟩
  simp only [List.getElem_toArray, List.getElem_cons_succ, List.getElem_cons_zero, Act.put, List.setIfInBounds_toArray, List.set_cons_zero, List.set_cons_succ]
  refine RegF.one 7 (by kernel_rfl) ?_
  refine RegF.opV (w' := w8) (.tuple #[.agg #[.int .i64 (many : Int), .slice As sy.length cs, .slice Al ls.length cl, .int .i64 (relL stops left)], .int .i64 E]) rfl rfl (by go_simp) ⟨fun _ => ⟨b18, b28⟩, ?_⟩
  simp only [List.getElem_toArray, List.getElem_cons_succ, List.getElem_cons_zero, Act.put, List.setIfInBounds_toArray, List.set_cons_zero, List.set_cons_succ]
  refine RegF.take0 8 (.agg #[.int .i64 (many : Int), .slice As sy.length cs, .slice Al ls.length cl, .int .i64 (relL stops left)]) rfl (by kernel_rfl) (by kernel_rfl) (by kernel_rfl) rfl (fun _ _ _ h => h) ⟨b18, b28⟩ (RegF.yld rfl (fun W hW => by go_simp)) ?_
  simp only [List.getElem_toArray, List.getElem_cons_succ, List.getElem_cons_zero, Act.put, List.setIfInBounds_toArray, List.set_cons_zero, List.set_cons_succ]
  refine RegF.take0 9 (.int .i64 E) rfl (by kernel_rfl) (by kernel_rfl) (by kernel_rfl) rfl (fun _ _ _ h => h) ⟨b18, b28⟩ (RegF.yld rfl (fun W hW => by go_simp)) ?_
  simp only [List.getElem_toArray, List.getElem_cons_succ, List.getElem_cons_zero, Act.put, List.setIfInBounds_toArray, List.set_cons_zero, List.set_cons_succ]
  have hSe : BlkIs (w8.setRow (w.heap.size + 1 + 1 + 1) #[.int .i64 (many : Int), .slice As sy.length cs, .slice Al ls.length cl, .int .i64 (relL stops left)]) w.heap.size 141 #[.int .i64 (many : Int), .slice As sy.length cs, .slice Al ls.length cl, .int .i64 (relL stops left)] ∧ BlkIs (w8.setRow (w.heap.size + 1 + 1 + 1) #[.int .i64 (many : Int), .slice As sy.length cs, .slice Al ls.length cl, .int .i64 (relL stops left)]) (w.heap.size + 1) 136 #[.int .i64 0, .int .i64 at_, .int .i64 n, .int .u8 (b.toNat : Int), .slice K keep.length kc] := ⟨b18.setRow_ne (by omega) _, b28.setRow_ne (by omega) _⟩
  refine RegF.one 10 (by kernel_rfl) ?_
  refine RegF.opS (w' := w8.setRow (w.heap.size + 1 + 1 + 1) #[.int .i64 (many : Int), .slice As sy.length cs, .slice Al ls.length cl, .int .i64 (relL stops left)]) rfl rfl (x_storeR (.tmp 9) (.tmp 40) rfl (w.heap.size + 1 + 1 + 1) rfl rfl b48 rfl rfl (four_oneR rfl rfl rfl rfl)) ⟨fun _ => hSe, ?_⟩
  simp only [List.getElem_toArray, List.getElem_cons_succ, List.getElem_cons_zero, Act.put]
  refine RegF.one 11 (by kernel_rfl) ?_
  refine RegF.opV (w' := w8.setRow (w.heap.size + 1 + 1 + 1) #[.int .i64 (many : Int), .slice As sy.length cs, .slice Al ls.length cl, .int .i64 (relL stops left)]) (.int .i64 E) rfl rfl (by go_simp) ⟨fun _ => hSe, ?_⟩
  simp only [List.getElem_toArray, List.getElem_cons_succ, List.getElem_cons_zero, Act.put, List.setIfInBounds_toArray, List.set_cons_zero, List.set_cons_succ]
  refine RegF.done (by kernel_rfl) ?_
  have gZ : w8.grownBy (w8.setRow (w.heap.size + 1 + 1 + 1) #[.int .i64 (many : Int), .slice As sy.length cs, .slice Al ls.length cl, .int .i64 (relL stops left)]) (some (w.heap.size + 1 + 1 + 1)) := setRow_grownBy _ _ _
  have DD := D8.other b48 (by show 4 ≤ 64; decide) (by omega) gZ
  have RR := R8.grownT b48 (noText4 _ _ _ _ _ _ _ _) gZ
  have B4 := b48.setRow #[.int .i64 (many : Int), .slice As sy.length cs, .slice Al ls.length cl, .int .i64 (relL stops left)]
  have B3 := b38.setRow_ne (k := (w.heap.size + 1 + 1 + 1)) (by omega) #[.int .i64 (many : Int), .slice As sy.length cs, .slice Al ls.length cl, .int .i64 (relL stops left)]
  have GG : w.grownBy (w8.setRow (w.heap.size + 1 + 1 + 1) #[.int .i64 (many : Int), .slice As sy.length cs, .slice Al ls.length cl, .int .i64 (relL stops left)]) (some p) := below_grownBy (below_setRow hB08 (by omega) _) p
  clear hSe hSd b18 b28 b38 b48 b17 b27 b37 b47 b16 b26 b36 b46 D6 D7 D8 R6 R7 R8 hB06 hB07 hB08 gZ in7 hB7 hB8 HRw
  generalize w8.setRow (w.heap.size + 1 + 1 + 1) #[.int .i64 (many : Int), .slice As sy.length cs, .slice Al ls.length cl, .int .i64 (relL stops left)] = wz at *
  go_wp2
  refine RegF.start (fun W => BlkIs W (w.heap.size + 1 + 1 + 1) 141 #[.int .i64 (many : Int), .slice As sy.length cs, .slice Al ls.length cl, .int .i64 (relL stops left)]) 99 (by kernel_rfl) ?_
  have hSd : BlkIs wz.drew (w.heap.size + 1 + 1 + 1) 141 #[.int .i64 (many : Int), .slice As sy.length cs, .slice Al ls.length cl, .int .i64 (relL stops left)] := B4
  refine RegF.take0 0 (.pointer (some ⟨p, 0, none⟩)) rfl (by kernel_rfl) (by kernel_rfl) (by kernel_rfl) rfl (fun _ _ _ h => h) hSd (RegF.yld rfl (fun W hW => by go_simp)) ?_
  simp only [List.getElem_toArray, List.getElem_cons_zero, Act.put, List.setIfInBounds_toArray, List.set_cons_zero, List.set_cons_succ]
  refine RegF.take0 1 (.agg #[.int .i64 (many : Int), .slice As sy.length cs, .slice Al ls.length cl, .int .i64 (relL stops left)]) rfl (by kernel_rfl) (by kernel_rfl) (by kernel_rfl) rfl (fun _ _ _ h => h) hSd (RegF.yld rfl (fun W hW => by exact x_loadM rowRDisk hW.range rfl rfl rfl)) ?_
  simp only [List.getElem_toArray, List.getElem_cons_succ, List.getElem_cons_zero, Act.put, List.setIfInBounds_toArray, List.set_cons_zero, List.set_cons_succ]
  refine RegF.take0 2 (.int .i64 E) rfl (by kernel_rfl) (by kernel_rfl) (by kernel_rfl) rfl (fun _ _ _ h => h) hSd (RegF.yld rfl (fun W hW => by go_simp)) ?_
  simp only [List.getElem_toArray, List.getElem_cons_succ, List.getElem_cons_zero, Act.put, List.setIfInBounds_toArray, List.set_cons_zero, List.set_cons_succ]
  refine RegF.take0 4 (.int .i64 E) rfl (by kernel_rfl) (by kernel_rfl) (by kernel_rfl) rfl (fun _ _ _ h => h) hSd (RegF.yld rfl (fun W hW => by go_simp)) ?_
  simp only [List.getElem_toArray, List.getElem_cons_succ, List.getElem_cons_zero, Act.put, List.setIfInBounds_toArray, List.set_cons_zero, List.set_cons_succ]
  refine RegF.one 3 (by kernel_rfl) ?_
  refine RegF.opC 20 #[.tmp 111] #[27] rfl rfl rfl (enters_of Try.func20 (by kernel_rfl) rfl) #[.int .i64 E] (by simp only [List.map_toArray, List.map_cons, List.map_nil]; rfl) ((num4_gives wz.drew E).mono ?_)
  rintro e W9 ⟨rfl, rfl⟩
  refine ⟨_, rfl, fun _ => hSd, ?_⟩
  simp only [List.getElem_toArray, List.getElem_cons_succ, List.getElem_cons_zero, Act.put, List.setIfInBounds_toArray, List.set_cons_zero, List.set_cons_succ]
  refine RegF.take0 5 (.bool true) rfl (by kernel_rfl) (by kernel_rfl) (by kernel_rfl) rfl (fun _ _ _ h => h) hSd (RegF.yld rfl (fun W hW => by go_simp)) ?_
  simp only [List.getElem_toArray, List.getElem_cons_succ, List.getElem_cons_zero, Act.put, List.setIfInBounds_toArray, List.set_cons_zero, List.set_cons_succ]
  refine RegF.one 6 (by kernel_rfl) ?_
  refine RegF.opV (w' := wz.drew) (.pointer (some ⟨p, 0, none⟩)) rfl rfl (by go_simp) ⟨fun _ => hSd, ?_⟩
  simp only [List.getElem_toArray, List.getElem_cons_succ, List.getElem_cons_zero, Act.put, List.setIfInBounds_toArray, List.set_cons_zero, List.set_cons_succ]
  have hb3d : BlkIs wz.drew (w.heap.size + 1 + 1) 141 #[.int .i64 0, .slice none 0 0, .slice none 0 0, .int .i64 0] := B3
  have hSe : BlkIs (wz.drew.setRow (w.heap.size + 1 + 1) #[.int .i64 (many : Int), .slice As sy.length cs, .slice Al ls.length cl, .int .i64 (relL stops left)]) (w.heap.size + 1 + 1 + 1) 141 #[.int .i64 (many : Int), .slice As sy.length cs, .slice Al ls.length cl, .int .i64 (relL stops left)] := hSd.setRow_ne (by omega) _
  refine RegF.one 7 (by kernel_rfl) ?_
  refine RegF.opS (w' := wz.drew.setRow (w.heap.size + 1 + 1) #[.int .i64 (many : Int), .slice As sy.length cs, .slice Al ls.length cl, .int .i64 (relL stops left)]) rfl rfl (x_storeR (.tmp 7) (.tmp 110) rfl (w.heap.size + 1 + 1) rfl rfl hb3d rfl rfl (four_oneR rfl rfl rfl rfl)) ⟨fun _ => hSe, ?_⟩
  simp only [List.getElem_toArray, List.getElem_cons_succ, List.getElem_cons_zero, Act.put]
  refine RegF.one 8 (by kernel_rfl) ?_
  refine RegF.opV (w' := wz.drew.setRow (w.heap.size + 1 + 1) #[.int .i64 (many : Int), .slice As sy.length cs, .slice Al ls.length cl, .int .i64 (relL stops left)]) (.bool true) rfl rfl (by go_simp) ⟨fun _ => hSe, ?_⟩
  simp only [List.getElem_toArray, List.getElem_cons_succ, List.getElem_cons_zero, Act.put, List.setIfInBounds_toArray, List.set_cons_zero, List.set_cons_succ]
  refine RegF.done (by kernel_rfl) ?_
  go_wp2
  have gE : wz.drew.grownBy (wz.drew.setRow (w.heap.size + 1 + 1) #[.int .i64 (many : Int), .slice As sy.length cs, .slice Al ls.length cl, .int .i64 (relL stops left)]) (some (w.heap.size + 1 + 1)) := setRow_grownBy _ _ _
  have DE := (DD.grow ((Below.refl _ wz).drew)).other hb3d (by show 4 ≤ 64; decide) (by omega) gE
  have RE := (RR.grow ((Below.refl _ wz).drew)).grownT hb3d (noText4 _ _ _ _ _ _ _ _) gE
  have GE := grownBy_past (grownBy_trans GG (grownBy_drew wz (some p))) gE (by omega)
  exact bodyPost_ret (results3 6 7 8 rfl rfl rfl rfl rowRDisk (hb3d.setRow _) (by rfl)) rfl ⟨p, As, cs, Al, cl, rfl, DE, RE, .inl rfl, GE⟩
set_option maxRecDepth 100000 in
set_option maxHeartbeats 8000000 in
theorem act_wbad1 (w : World) (p many : Nat) (sy ls : List (Nat × List UInt8)) (left : Int) (stops : Bool) (As : Option Addr) (cs : Nat) (Al : Option Addr) (cl : Nat) (at_ n : Int) (b : UInt8) (keep : List Bool) (K : Option Addr) (kc : Nat) (hD : DkIs w p many (gOf sy) ls left stops) (hR : RIs w w.heap.size sy ls As cs Al cl) (hok : StOk many ⟨sy, ls, left, stops⟩) (hn1 : sy.length ≤ 400000) (hn2 : ls.length ≤ 400000) (E : Int) (hEE : E = rwE (many : Int) at_ (relL stops left) (bytesOf (⟨1, at_, n, b, keep, K, kc⟩ : ActV)).length) (hE : ¬ E = 0) :
    Calls Try.prog 83 #[.pointer (some ⟨p, 0, none⟩), VAL (many : Int) As sy.length cs Al ls.length cl (relL stops left), .agg #[.int .i64 1, .int .i64 at_, .int .i64 n, .int .u8 (b.toNat : Int), .slice K keep.length kc]] w (ActOut w p many ⟨sy, ls, left, stops⟩) := by
  unfold ActOut VAL
  obtain ⟨b1, b2, b3, b4, hB1⟩ := acW_is w #[.int .i64 (many : Int), .slice As sy.length cs, .slice Al ls.length cl, .int .i64 (relL stops left)] #[.int .i64 1, .int .i64 at_, .int .i64 n, .int .u8 (b.toNat : Int), .slice K keep.length kc]
  have bl0 := ((BlkIs.new w 141 #[.int .i64 (many : Int), .slice As sy.length cs, .slice Al ls.length cl, .int .i64 (relL stops left)]).alloc (.cells #[.int .i64 1, .int .i64 at_, .int .i64 n, .int .u8 (b.toNat : Int), .slice K keep.length kc] 136)).alloc (.cells #[.int .i64 0, .slice none 0 0, .slice none 0 0, .int .i64 0] 141)
  have bs0 := BlkIs.new (((w.alloc (.cells #[.int .i64 (many : Int), .slice As sy.length cs, .slice Al ls.length cl, .int .i64 (relL stops left)] 141)).alloc (.cells #[.int .i64 1, .int .i64 at_, .int .i64 n, .int .u8 (b.toNat : Int), .slice K keep.length kc] 136)).alloc (.cells #[.int .i64 0, .slice none 0 0, .slice none 0 0, .int .i64 0] 141)) 141 #[.int .i64 0, .slice none 0 0, .slice none 0 0, .int .i64 0]
  simp only [World.size_alloc] at bs0
  obtain ⟨W1, hW1⟩ : ∃ W, W = acW w #[.int .i64 (many : Int), .slice As sy.length cs, .slice Al ls.length cl, .int .i64 (relL stops left)] #[.int .i64 1, .int .i64 at_, .int .i64 n, .int .u8 (b.toNat : Int), .slice K keep.length kc] := ⟨_, rfl⟩
  rw [← hW1] at b1 b2 b3 b4 hB1
  unfold acW zeroR at hW1
  have HW1 := Lib.hid hW1
  have hp := hD.lt
  clear hW1
  have x0 : W1.cell? ⟨w.heap.size + 1, 0, none⟩ = some (.int .i64 1) := by rw [b2.cell]; rfl
  have D1 := hD.grow hB1
  have R1 := hR.grow hB1
  have HE := Lib.hid hEE
  clear hEE
  go_enter Try.func83, Try.ntmps83
  go_upto_region 2 with (first
    | (refine wp_loadW rfl 141 (.tmp 4) rfl w.heap.size rfl rowRDisk bl0 (by rfl) ?_)
    | (refine wp_storeW rfl 141 (.tmp 9) (.tmp 16) rfl (w.heap.size + 1 + 1 + 1) rfl rfl rowRDisk bs0 (by rfl) (by rfl) (four_oneR rfl rfl rfl rfl) ?_))
  rw [← HW1.out]
  clear HW1 bl0 bs0
  go_wp2
  refine RegF.start (fun W => BlkIs W w.heap.size 141 #[.int .i64 (many : Int), .slice As sy.length cs, .slice Al ls.length cl, .int .i64 (relL stops left)] ∧ BlkIs W (w.heap.size + 1) 136 #[.int .i64 1, .int .i64 at_, .int .i64 n, .int .u8 (b.toNat : Int), .slice K keep.length kc]) 99 (by kernel_rfl) ?_
  have hSd : BlkIs W1.drew w.heap.size 141 #[.int .i64 (many : Int), .slice As sy.length cs, .slice Al ls.length cl, .int .i64 (relL stops left)] ∧ BlkIs W1.drew (w.heap.size + 1) 136 #[.int .i64 1, .int .i64 at_, .int .i64 n, .int .u8 (b.toNat : Int), .slice K keep.length kc] := ⟨b1, b2⟩
  refine RegF.take0 0 (.pointer (some ⟨p, 0, none⟩)) rfl (by kernel_rfl) (by kernel_rfl) (by kernel_rfl) rfl (fun _ _ _ h => h) hSd (RegF.yld rfl (fun W hW => by go_simp)) ?_
  simp only [List.getElem_toArray, List.getElem_cons_zero, Act.put, List.setIfInBounds_toArray, List.set_cons_zero, List.set_cons_succ]
  refine RegF.take0 1 (.pointer (some ⟨w.heap.size + 1, 1, none⟩)) rfl (by kernel_rfl) (by kernel_rfl) (by kernel_rfl) rfl (fun _ _ _ h => h) hSd (RegF.yld rfl (fun W hW => by go_simp)) ?_
  simp only [List.getElem_toArray, List.getElem_cons_succ, List.getElem_cons_zero, Act.put, List.setIfInBounds_toArray, List.set_cons_zero, List.set_cons_succ]
  refine RegF.take0 2 (.int .i64 at_) rfl (by kernel_rfl) (by kernel_rfl) (by kernel_rfl) rfl (fun _ _ _ h => h) hSd (RegF.yld rfl (fun W hW => by have e : W.cell? ⟨w.heap.size + 1, 1, none⟩ = _ := hW.2.cell 1; go_simp)) ?_
  simp only [List.getElem_toArray, List.getElem_cons_succ, List.getElem_cons_zero, Act.put, List.setIfInBounds_toArray, List.set_cons_zero, List.set_cons_succ]
  refine RegF.take0 3 (.agg #[.int .i64 1, .int .i64 at_, .int .i64 n, .int .u8 (b.toNat : Int), .slice K keep.length kc]) rfl (by kernel_rfl) (by kernel_rfl) (by kernel_rfl) rfl (fun _ _ _ h => h) hSd (RegF.yld rfl (fun W hW => by exact x_loadM rowAct hW.2.range rfl rfl rfl)) ?_
  simp only [List.getElem_toArray, List.getElem_cons_succ, List.getElem_cons_zero, Act.put, List.setIfInBounds_toArray, List.set_cons_zero, List.set_cons_succ]
  refine RegF.one 4 (by kernel_rfl) ?_
  refine RegF.opC 144 #[.tmp 29] #[136] rfl rfl rfl (enters_of Try.func144 (by kernel_rfl) rfl) #[.agg #[.int .i64 1, .int .i64 at_, .int .i64 n, .int .u8 (b.toNat : Int), .slice K keep.length kc]] (by simp only [List.map_toArray, List.map_cons, List.map_nil]; rfl) ((bytes4_gives W1.drew (⟨1, at_, n, b, keep, K, kc⟩ : ActV)).mono ?_)
  rintro e w5 ⟨A5, c5, rfl, in5, hB5⟩
  have hB5 : Below W1.heap.size W1 w5 := (Below.refl _ W1).drew.trans hB5
  have b15 := b1.below hB5 b1.lt
  have b25 := b2.below hB5 b2.lt
  have b35 := b3.below hB5 b3.lt
  have b45 := b4.below hB5 b4.lt
  have D5 := D1.grow hB5
  have R5 := R1.grow hB5
  have hB05 := hB1.trans (hB5.mono hB1.size)
  refine ⟨_, rfl, fun _ => ⟨b15, b25⟩, ?_⟩
  simp only [List.getElem_toArray, List.getElem_cons_succ, List.getElem_cons_zero, Act.put, List.setIfInBounds_toArray, List.set_cons_zero, List.set_cons_succ]
  have HWr := write_bad w5 p many (gOf sy) ls left stops D5 at_ A5 (bytesOf (⟨1, at_, n, b, keep, K, kc⟩ : ActV)).length c5 (by rw [← HE.out]; exact hE)
  rw [← HE.out] at HWr
  refine RegF.one 5 (by kernel_rfl) ?_
  refine RegF.opC 21 #[.tmp 26, .tmp 28, .tmp 30] #[26, 3, 30] rfl rfl rfl (enters_of Try.func21 (by kernel_rfl) rfl) #[.pointer (some ⟨p, 0, none⟩), .int .i64 at_, .slice A5 (bytesOf (⟨1, at_, n, b, keep, K, kc⟩ : ActV)).length c5] (by simp only [List.map_toArray, List.map_cons, List.map_nil]; rfl) ((HWr).mono ?_)
  rintro e w6 ⟨rfl, hB6⟩
  have b16 := b15.below hB6 b15.lt
  have b26 := b25.below hB6 b25.lt
  have b36 := b35.below hB6 b35.lt
  have b46 := b45.below hB6 b45.lt
  have D6 := D5.grow hB6
  have R6 := R5.grow hB6
  have hB06 := hB05.trans (hB6.mono hB05.size)
  refine ⟨_, rfl, fun _ => ⟨b16, b26⟩, ?_⟩
  simp only [List.getElem_toArray, List.getElem_cons_succ, List.getElem_cons_zero, Act.put, List.setIfInBounds_toArray, List.set_cons_zero, List.set_cons_succ]
  refine RegF.one 6 (by kernel_rfl) ?_
  refine RegF.opV (w' := w6) (.int .i64 E) rfl rfl (by go_simp) ⟨fun _ => ⟨b16, b26⟩, ?_⟩
  simp only [List.getElem_toArray, List.getElem_cons_succ, List.getElem_cons_zero, Act.put, List.setIfInBounds_toArray, List.set_cons_zero, List.set_cons_succ]
  refine RegF.done (by kernel_rfl) ?_
  clear hSd b15 b25 b35 b45 D5 R5 hB05 b1 b2 b3 b4 D1 R1 hB1 hB5 hB6 in5 HWr
  go_wp2
  refine RegF.start (fun W => BlkIs W w.heap.size 141 #[.int .i64 (many : Int), .slice As sy.length cs, .slice Al ls.length cl, .int .i64 (relL stops left)] ∧ BlkIs W (w.heap.size + 1) 136 #[.int .i64 1, .int .i64 at_, .int .i64 n, .int .u8 (b.toNat : Int), .slice K keep.length kc]) 99 (by kernel_rfl) ?_
  have hSd : BlkIs w6.drew w.heap.size 141 #[.int .i64 (many : Int), .slice As sy.length cs, .slice Al ls.length cl, .int .i64 (relL stops left)] ∧ BlkIs w6.drew (w.heap.size + 1) 136 #[.int .i64 1, .int .i64 at_, .int .i64 n, .int .u8 (b.toNat : Int), .slice K keep.length kc] := ⟨b16, b26⟩
  refine RegF.take0 0 (.agg #[.int .i64 (many : Int), .slice As sy.length cs, .slice Al ls.length cl, .int .i64 (relL stops left)]) rfl (by kernel_rfl) (by kernel_rfl) (by kernel_rfl) rfl (fun _ _ _ h => h) hSd (RegF.yld rfl (fun W hW => by exact x_loadM rowRDisk hW.1.range rfl rfl rfl)) ?_
  simp only [List.getElem_toArray, List.getElem_cons_zero, Act.put, List.setIfInBounds_toArray, List.set_cons_zero, List.set_cons_succ]
  refine RegF.take0 1 (.pointer (some ⟨w.heap.size + 1, 1, none⟩)) rfl (by kernel_rfl) (by kernel_rfl) (by kernel_rfl) rfl (fun _ _ _ h => h) hSd (RegF.yld rfl (fun W hW => by go_simp)) ?_
  simp only [List.getElem_toArray, List.getElem_cons_succ, List.getElem_cons_zero, Act.put, List.setIfInBounds_toArray, List.set_cons_zero, List.set_cons_succ]
  refine RegF.take0 2 (.int .i64 at_) rfl (by kernel_rfl) (by kernel_rfl) (by kernel_rfl) rfl (fun _ _ _ h => h) hSd (RegF.yld rfl (fun W hW => by have e : W.cell? ⟨w.heap.size + 1, 1, none⟩ = _ := hW.2.cell 1; go_simp)) ?_
  simp only [List.getElem_toArray, List.getElem_cons_succ, List.getElem_cons_zero, Act.put, List.setIfInBounds_toArray, List.set_cons_zero, List.set_cons_succ]
  refine RegF.take0 3 (.agg #[.int .i64 1, .int .i64 at_, .int .i64 n, .int .u8 (b.toNat : Int), .slice K keep.length kc]) rfl (by kernel_rfl) (by kernel_rfl) (by kernel_rfl) rfl (fun _ _ _ h => h) hSd (RegF.yld rfl (fun W hW => by exact x_loadM rowAct hW.2.range rfl rfl rfl)) ?_
  simp only [List.getElem_toArray, List.getElem_cons_succ, List.getElem_cons_zero, Act.put, List.setIfInBounds_toArray, List.set_cons_zero, List.set_cons_succ]
  refine RegF.one 4 (by kernel_rfl) ?_
  refine RegF.opC 144 #[.tmp 36] #[136] rfl rfl rfl (enters_of Try.func144 (by kernel_rfl) rfl) #[.agg #[.int .i64 1, .int .i64 at_, .int .i64 n, .int .u8 (b.toNat : Int), .slice K keep.length kc]] (by simp only [List.map_toArray, List.map_cons, List.map_nil]; rfl) ((bytes4_gives w6.drew (⟨1, at_, n, b, keep, K, kc⟩ : ActV)).mono ?_)
  rintro e w7 ⟨A7, c7, rfl, in7, hB7⟩
  have hB7 : Below w6.heap.size w6 w7 := (Below.refl _ w6).drew.trans hB7
  have b17 := b16.below hB7 b16.lt
  have b27 := b26.below hB7 b26.lt
  have b37 := b36.below hB7 b36.lt
  have b47 := b46.below hB7 b46.lt
  have D7 := D6.grow hB7
  have R7 := R6.grow hB7
  have hB07 := hB06.trans (hB7.mono hB06.size)
  refine ⟨_, rfl, fun _ => ⟨b17, b27⟩, ?_⟩
  simp only [List.getElem_toArray, List.getElem_cons_succ, List.getElem_cons_zero, Act.put, List.setIfInBounds_toArray, List.set_cons_zero, List.set_cons_succ]
  refine RegF.one 5 (by kernel_rfl) ?_
  refine RegF.opV (w' := w7) (.string (str (bytesOf (⟨1, at_, n, b, keep, K, kc⟩ : ActV)))) rfl rfl (by exact x_convB rfl rfl in7) ⟨fun _ => ⟨b17, b27⟩, ?_⟩
  simp only [List.getElem_toArray, List.getElem_cons_succ, List.getElem_cons_zero, Act.put, List.setIfInBounds_toArray, List.set_cons_zero, List.set_cons_succ]
  have HRw := rwrite_bad w7 (many : Int) As sy.length cs Al ls.length cl (relL stops left) at_ (bytesOf (⟨1, at_, n, b, keep, K, kc⟩ : ActV)) (by rw [← HE.out]; exact hE)
  rw [← HE.out] at HRw
  unfold VAL at HRw
  refine RegF.one 6 (by kernel_rfl) ?_
  refine RegF.opC 145 #[.tmp 33, .tmp 35, .tmp 38] #[141, 3, 9] rfl rfl rfl (enters_of Try.func145 (by kernel_rfl) rfl) #[.agg #[.int .i64 (many : Int), .slice As sy.length cs, .slice Al ls.length cl, .int .i64 (relL stops left)], .int .i64 at_, .string (str (bytesOf (⟨1, at_, n, b, keep, K, kc⟩ : ActV)))] (by simp only [List.map_toArray, List.map_cons, List.map_nil]; rfl) ((HRw).mono ?_)
  rintro e w8 ⟨rfl, hB8⟩
  have b18 := b17.below hB8 b17.lt
  have b28 := b27.below hB8 b27.lt
  have b38 := b37.below hB8 b37.lt
  have b48 := b47.below hB8 b47.lt
  have D8 := D7.grow hB8
  have R8 := R7.grow hB8
  have hB08 := hB07.trans (hB8.mono hB07.size)
  refine ⟨_, rfl, fun _ => ⟨b18, b28⟩, ?_⟩
  simp only [List.getElem_toArray, List.getElem_cons_succ, List.getElem_cons_zero, Act.put, List.setIfInBounds_toArray, List.set_cons_zero, List.set_cons_succ]
  refine RegF.one 7 (by kernel_rfl) ?_
  refine RegF.opV (w' := w8) (.tuple #[.agg #[.int .i64 (many : Int), .slice As sy.length cs, .slice Al ls.length cl, .int .i64 (relL stops left)], .int .i64 E]) rfl rfl (by go_simp) ⟨fun _ => ⟨b18, b28⟩, ?_⟩
  simp only [List.getElem_toArray, List.getElem_cons_succ, List.getElem_cons_zero, Act.put, List.setIfInBounds_toArray, List.set_cons_zero, List.set_cons_succ]
  refine RegF.take0 8 (.agg #[.int .i64 (many : Int), .slice As sy.length cs, .slice Al ls.length cl, .int .i64 (relL stops left)]) rfl (by kernel_rfl) (by kernel_rfl) (by kernel_rfl) rfl (fun _ _ _ h => h) ⟨b18, b28⟩ (RegF.yld rfl (fun W hW => by go_simp)) ?_
  simp only [List.getElem_toArray, List.getElem_cons_succ, List.getElem_cons_zero, Act.put, List.setIfInBounds_toArray, List.set_cons_zero, List.set_cons_succ]
  refine RegF.take0 9 (.int .i64 E) rfl (by kernel_rfl) (by kernel_rfl) (by kernel_rfl) rfl (fun _ _ _ h => h) ⟨b18, b28⟩ (RegF.yld rfl (fun W hW => by go_simp)) ?_
  simp only [List.getElem_toArray, List.getElem_cons_succ, List.getElem_cons_zero, Act.put, List.setIfInBounds_toArray, List.set_cons_zero, List.set_cons_succ]
  have hSe : BlkIs (w8.setRow (w.heap.size + 1 + 1 + 1) #[.int .i64 (many : Int), .slice As sy.length cs, .slice Al ls.length cl, .int .i64 (relL stops left)]) w.heap.size 141 #[.int .i64 (many : Int), .slice As sy.length cs, .slice Al ls.length cl, .int .i64 (relL stops left)] ∧ BlkIs (w8.setRow (w.heap.size + 1 + 1 + 1) #[.int .i64 (many : Int), .slice As sy.length cs, .slice Al ls.length cl, .int .i64 (relL stops left)]) (w.heap.size + 1) 136 #[.int .i64 1, .int .i64 at_, .int .i64 n, .int .u8 (b.toNat : Int), .slice K keep.length kc] := ⟨b18.setRow_ne (by omega) _, b28.setRow_ne (by omega) _⟩
  refine RegF.one 10 (by kernel_rfl) ?_
  refine RegF.opS (w' := w8.setRow (w.heap.size + 1 + 1 + 1) #[.int .i64 (many : Int), .slice As sy.length cs, .slice Al ls.length cl, .int .i64 (relL stops left)]) rfl rfl (x_storeR (.tmp 9) (.tmp 40) rfl (w.heap.size + 1 + 1 + 1) rfl rfl b48 rfl rfl (four_oneR rfl rfl rfl rfl)) ⟨fun _ => hSe, ?_⟩
  simp only [List.getElem_toArray, List.getElem_cons_succ, List.getElem_cons_zero, Act.put]
  refine RegF.one 11 (by kernel_rfl) ?_
  refine RegF.opV (w' := w8.setRow (w.heap.size + 1 + 1 + 1) #[.int .i64 (many : Int), .slice As sy.length cs, .slice Al ls.length cl, .int .i64 (relL stops left)]) (.int .i64 E) rfl rfl (by go_simp) ⟨fun _ => hSe, ?_⟩
  simp only [List.getElem_toArray, List.getElem_cons_succ, List.getElem_cons_zero, Act.put, List.setIfInBounds_toArray, List.set_cons_zero, List.set_cons_succ]
  refine RegF.done (by kernel_rfl) ?_
  have gZ : w8.grownBy (w8.setRow (w.heap.size + 1 + 1 + 1) #[.int .i64 (many : Int), .slice As sy.length cs, .slice Al ls.length cl, .int .i64 (relL stops left)]) (some (w.heap.size + 1 + 1 + 1)) := setRow_grownBy _ _ _
  have DD := D8.other b48 (by show 4 ≤ 64; decide) (by omega) gZ
  have RR := R8.grownT b48 (noText4 _ _ _ _ _ _ _ _) gZ
  have B4 := b48.setRow #[.int .i64 (many : Int), .slice As sy.length cs, .slice Al ls.length cl, .int .i64 (relL stops left)]
  have B3 := b38.setRow_ne (k := (w.heap.size + 1 + 1 + 1)) (by omega) #[.int .i64 (many : Int), .slice As sy.length cs, .slice Al ls.length cl, .int .i64 (relL stops left)]
  have GG : w.grownBy (w8.setRow (w.heap.size + 1 + 1 + 1) #[.int .i64 (many : Int), .slice As sy.length cs, .slice Al ls.length cl, .int .i64 (relL stops left)]) (some p) := below_grownBy (below_setRow hB08 (by omega) _) p
  clear hSe hSd b18 b28 b38 b48 b17 b27 b37 b47 b16 b26 b36 b46 D6 D7 D8 R6 R7 R8 hB06 hB07 hB08 gZ in7 hB7 hB8 HRw
  generalize w8.setRow (w.heap.size + 1 + 1 + 1) #[.int .i64 (many : Int), .slice As sy.length cs, .slice Al ls.length cl, .int .i64 (relL stops left)] = wz at *
  go_wp2
  refine RegF.start (fun W => BlkIs W (w.heap.size + 1 + 1 + 1) 141 #[.int .i64 (many : Int), .slice As sy.length cs, .slice Al ls.length cl, .int .i64 (relL stops left)]) 99 (by kernel_rfl) ?_
  have hSd : BlkIs wz.drew (w.heap.size + 1 + 1 + 1) 141 #[.int .i64 (many : Int), .slice As sy.length cs, .slice Al ls.length cl, .int .i64 (relL stops left)] := B4
  refine RegF.take0 0 (.pointer (some ⟨p, 0, none⟩)) rfl (by kernel_rfl) (by kernel_rfl) (by kernel_rfl) rfl (fun _ _ _ h => h) hSd (RegF.yld rfl (fun W hW => by go_simp)) ?_
  simp only [List.getElem_toArray, List.getElem_cons_zero, Act.put, List.setIfInBounds_toArray, List.set_cons_zero, List.set_cons_succ]
  refine RegF.take0 1 (.agg #[.int .i64 (many : Int), .slice As sy.length cs, .slice Al ls.length cl, .int .i64 (relL stops left)]) rfl (by kernel_rfl) (by kernel_rfl) (by kernel_rfl) rfl (fun _ _ _ h => h) hSd (RegF.yld rfl (fun W hW => by exact x_loadM rowRDisk hW.range rfl rfl rfl)) ?_
  simp only [List.getElem_toArray, List.getElem_cons_succ, List.getElem_cons_zero, Act.put, List.setIfInBounds_toArray, List.set_cons_zero, List.set_cons_succ]
  refine RegF.take0 2 (.int .i64 E) rfl (by kernel_rfl) (by kernel_rfl) (by kernel_rfl) rfl (fun _ _ _ h => h) hSd (RegF.yld rfl (fun W hW => by go_simp)) ?_
  simp only [List.getElem_toArray, List.getElem_cons_succ, List.getElem_cons_zero, Act.put, List.setIfInBounds_toArray, List.set_cons_zero, List.set_cons_succ]
  refine RegF.take0 4 (.int .i64 E) rfl (by kernel_rfl) (by kernel_rfl) (by kernel_rfl) rfl (fun _ _ _ h => h) hSd (RegF.yld rfl (fun W hW => by go_simp)) ?_
  simp only [List.getElem_toArray, List.getElem_cons_succ, List.getElem_cons_zero, Act.put, List.setIfInBounds_toArray, List.set_cons_zero, List.set_cons_succ]
  refine RegF.one 3 (by kernel_rfl) ?_
  refine RegF.opC 20 #[.tmp 111] #[27] rfl rfl rfl (enters_of Try.func20 (by kernel_rfl) rfl) #[.int .i64 E] (by simp only [List.map_toArray, List.map_cons, List.map_nil]; rfl) ((num4_gives wz.drew E).mono ?_)
  rintro e W9 ⟨rfl, rfl⟩
  refine ⟨_, rfl, fun _ => hSd, ?_⟩
  simp only [List.getElem_toArray, List.getElem_cons_succ, List.getElem_cons_zero, Act.put, List.setIfInBounds_toArray, List.set_cons_zero, List.set_cons_succ]
  refine RegF.take0 5 (.bool true) rfl (by kernel_rfl) (by kernel_rfl) (by kernel_rfl) rfl (fun _ _ _ h => h) hSd (RegF.yld rfl (fun W hW => by go_simp)) ?_
  simp only [List.getElem_toArray, List.getElem_cons_succ, List.getElem_cons_zero, Act.put, List.setIfInBounds_toArray, List.set_cons_zero, List.set_cons_succ]
  refine RegF.one 6 (by kernel_rfl) ?_
  refine RegF.opV (w' := wz.drew) (.pointer (some ⟨p, 0, none⟩)) rfl rfl (by go_simp) ⟨fun _ => hSd, ?_⟩
  simp only [List.getElem_toArray, List.getElem_cons_succ, List.getElem_cons_zero, Act.put, List.setIfInBounds_toArray, List.set_cons_zero, List.set_cons_succ]
  have hb3d : BlkIs wz.drew (w.heap.size + 1 + 1) 141 #[.int .i64 0, .slice none 0 0, .slice none 0 0, .int .i64 0] := B3
  have hSe : BlkIs (wz.drew.setRow (w.heap.size + 1 + 1) #[.int .i64 (many : Int), .slice As sy.length cs, .slice Al ls.length cl, .int .i64 (relL stops left)]) (w.heap.size + 1 + 1 + 1) 141 #[.int .i64 (many : Int), .slice As sy.length cs, .slice Al ls.length cl, .int .i64 (relL stops left)] := hSd.setRow_ne (by omega) _
  refine RegF.one 7 (by kernel_rfl) ?_
  refine RegF.opS (w' := wz.drew.setRow (w.heap.size + 1 + 1) #[.int .i64 (many : Int), .slice As sy.length cs, .slice Al ls.length cl, .int .i64 (relL stops left)]) rfl rfl (x_storeR (.tmp 7) (.tmp 110) rfl (w.heap.size + 1 + 1) rfl rfl hb3d rfl rfl (four_oneR rfl rfl rfl rfl)) ⟨fun _ => hSe, ?_⟩
  simp only [List.getElem_toArray, List.getElem_cons_succ, List.getElem_cons_zero, Act.put]
  refine RegF.one 8 (by kernel_rfl) ?_
  refine RegF.opV (w' := wz.drew.setRow (w.heap.size + 1 + 1) #[.int .i64 (many : Int), .slice As sy.length cs, .slice Al ls.length cl, .int .i64 (relL stops left)]) (.bool true) rfl rfl (by go_simp) ⟨fun _ => hSe, ?_⟩
  simp only [List.getElem_toArray, List.getElem_cons_succ, List.getElem_cons_zero, Act.put, List.setIfInBounds_toArray, List.set_cons_zero, List.set_cons_succ]
  refine RegF.done (by kernel_rfl) ?_
  go_wp2
  have gE : wz.drew.grownBy (wz.drew.setRow (w.heap.size + 1 + 1) #[.int .i64 (many : Int), .slice As sy.length cs, .slice Al ls.length cl, .int .i64 (relL stops left)]) (some (w.heap.size + 1 + 1)) := setRow_grownBy _ _ _
  have DE := (DD.grow ((Below.refl _ wz).drew)).other hb3d (by show 4 ≤ 64; decide) (by omega) gE
  have RE := (RR.grow ((Below.refl _ wz).drew)).grownT hb3d (noText4 _ _ _ _ _ _ _ _) gE
  have GE := grownBy_past (grownBy_trans GG (grownBy_drew wz (some p))) gE (by omega)
  exact bodyPost_ret (results3 6 7 8 rfl rfl rfl rfl rowRDisk (hb3d.setRow _) (by rfl)) rfl ⟨p, As, cs, Al, cl, rfl, DE, RE, .inl rfl, GE⟩
set_option maxRecDepth 100000 in
set_option maxHeartbeats 8000000 in
theorem act_wbad2 (w : World) (p many : Nat) (sy ls : List (Nat × List UInt8)) (left : Int) (stops : Bool) (As : Option Addr) (cs : Nat) (Al : Option Addr) (cl : Nat) (at_ n : Int) (b : UInt8) (keep : List Bool) (K : Option Addr) (kc : Nat) (hD : DkIs w p many (gOf sy) ls left stops) (hR : RIs w w.heap.size sy ls As cs Al cl) (hok : StOk many ⟨sy, ls, left, stops⟩) (hn1 : sy.length ≤ 400000) (hn2 : ls.length ≤ 400000) (E : Int) (hEE : E = rwE (many : Int) at_ (relL stops left) (bytesOf (⟨2, at_, n, b, keep, K, kc⟩ : ActV)).length) (hE : ¬ E = 0) :
    Calls Try.prog 83 #[.pointer (some ⟨p, 0, none⟩), VAL (many : Int) As sy.length cs Al ls.length cl (relL stops left), .agg #[.int .i64 2, .int .i64 at_, .int .i64 n, .int .u8 (b.toNat : Int), .slice K keep.length kc]] w (ActOut w p many ⟨sy, ls, left, stops⟩) := by
  unfold ActOut VAL
  obtain ⟨b1, b2, b3, b4, hB1⟩ := acW_is w #[.int .i64 (many : Int), .slice As sy.length cs, .slice Al ls.length cl, .int .i64 (relL stops left)] #[.int .i64 2, .int .i64 at_, .int .i64 n, .int .u8 (b.toNat : Int), .slice K keep.length kc]
  have bl0 := ((BlkIs.new w 141 #[.int .i64 (many : Int), .slice As sy.length cs, .slice Al ls.length cl, .int .i64 (relL stops left)]).alloc (.cells #[.int .i64 2, .int .i64 at_, .int .i64 n, .int .u8 (b.toNat : Int), .slice K keep.length kc] 136)).alloc (.cells #[.int .i64 0, .slice none 0 0, .slice none 0 0, .int .i64 0] 141)
  have bs0 := BlkIs.new (((w.alloc (.cells #[.int .i64 (many : Int), .slice As sy.length cs, .slice Al ls.length cl, .int .i64 (relL stops left)] 141)).alloc (.cells #[.int .i64 2, .int .i64 at_, .int .i64 n, .int .u8 (b.toNat : Int), .slice K keep.length kc] 136)).alloc (.cells #[.int .i64 0, .slice none 0 0, .slice none 0 0, .int .i64 0] 141)) 141 #[.int .i64 0, .slice none 0 0, .slice none 0 0, .int .i64 0]
  simp only [World.size_alloc] at bs0
  obtain ⟨W1, hW1⟩ : ∃ W, W = acW w #[.int .i64 (many : Int), .slice As sy.length cs, .slice Al ls.length cl, .int .i64 (relL stops left)] #[.int .i64 2, .int .i64 at_, .int .i64 n, .int .u8 (b.toNat : Int), .slice K keep.length kc] := ⟨_, rfl⟩
  rw [← hW1] at b1 b2 b3 b4 hB1
  unfold acW zeroR at hW1
  have HW1 := Lib.hid hW1
  have hp := hD.lt
  clear hW1
  have x0 : W1.cell? ⟨w.heap.size + 1, 0, none⟩ = some (.int .i64 2) := by rw [b2.cell]; rfl
  have D1 := hD.grow hB1
  have R1 := hR.grow hB1
  have HE := Lib.hid hEE
  clear hEE
  go_enter Try.func83, Try.ntmps83
  go_upto_region 2 with (first
    | (refine wp_loadW rfl 141 (.tmp 4) rfl w.heap.size rfl rowRDisk bl0 (by rfl) ?_)
    | (refine wp_storeW rfl 141 (.tmp 9) (.tmp 16) rfl (w.heap.size + 1 + 1 + 1) rfl rfl rowRDisk bs0 (by rfl) (by rfl) (four_oneR rfl rfl rfl rfl) ?_))
  rw [← HW1.out]
  clear HW1 bl0 bs0
  go_wp2
  refine RegF.start (fun W => BlkIs W w.heap.size 141 #[.int .i64 (many : Int), .slice As sy.length cs, .slice Al ls.length cl, .int .i64 (relL stops left)] ∧ BlkIs W (w.heap.size + 1) 136 #[.int .i64 2, .int .i64 at_, .int .i64 n, .int .u8 (b.toNat : Int), .slice K keep.length kc]) 99 (by kernel_rfl) ?_
  have hSd : BlkIs W1.drew w.heap.size 141 #[.int .i64 (many : Int), .slice As sy.length cs, .slice Al ls.length cl, .int .i64 (relL stops left)] ∧ BlkIs W1.drew (w.heap.size + 1) 136 #[.int .i64 2, .int .i64 at_, .int .i64 n, .int .u8 (b.toNat : Int), .slice K keep.length kc] := ⟨b1, b2⟩
  refine RegF.take0 0 (.pointer (some ⟨p, 0, none⟩)) rfl (by kernel_rfl) (by kernel_rfl) (by kernel_rfl) rfl (fun _ _ _ h => h) hSd (RegF.yld rfl (fun W hW => by go_simp)) ?_
  simp only [List.getElem_toArray, List.getElem_cons_zero, Act.put, List.setIfInBounds_toArray, List.set_cons_zero, List.set_cons_succ]
  refine RegF.take0 1 (.pointer (some ⟨w.heap.size + 1, 1, none⟩)) rfl (by kernel_rfl) (by kernel_rfl) (by kernel_rfl) rfl (fun _ _ _ h => h) hSd (RegF.yld rfl (fun W hW => by go_simp)) ?_
  simp only [List.getElem_toArray, List.getElem_cons_succ, List.getElem_cons_zero, Act.put, List.setIfInBounds_toArray, List.set_cons_zero, List.set_cons_succ]
  refine RegF.take0 2 (.int .i64 at_) rfl (by kernel_rfl) (by kernel_rfl) (by kernel_rfl) rfl (fun _ _ _ h => h) hSd (RegF.yld rfl (fun W hW => by have e : W.cell? ⟨w.heap.size + 1, 1, none⟩ = _ := hW.2.cell 1; go_simp)) ?_
  simp only [List.getElem_toArray, List.getElem_cons_succ, List.getElem_cons_zero, Act.put, List.setIfInBounds_toArray, List.set_cons_zero, List.set_cons_succ]
  refine RegF.take0 3 (.agg #[.int .i64 2, .int .i64 at_, .int .i64 n, .int .u8 (b.toNat : Int), .slice K keep.length kc]) rfl (by kernel_rfl) (by kernel_rfl) (by kernel_rfl) rfl (fun _ _ _ h => h) hSd (RegF.yld rfl (fun W hW => by exact x_loadM rowAct hW.2.range rfl rfl rfl)) ?_
  simp only [List.getElem_toArray, List.getElem_cons_succ, List.getElem_cons_zero, Act.put, List.setIfInBounds_toArray, List.set_cons_zero, List.set_cons_succ]
  refine RegF.one 4 (by kernel_rfl) ?_
  refine RegF.opC 144 #[.tmp 29] #[136] rfl rfl rfl (enters_of Try.func144 (by kernel_rfl) rfl) #[.agg #[.int .i64 2, .int .i64 at_, .int .i64 n, .int .u8 (b.toNat : Int), .slice K keep.length kc]] (by simp only [List.map_toArray, List.map_cons, List.map_nil]; rfl) ((bytes4_gives W1.drew (⟨2, at_, n, b, keep, K, kc⟩ : ActV)).mono ?_)
  rintro e w5 ⟨A5, c5, rfl, in5, hB5⟩
  have hB5 : Below W1.heap.size W1 w5 := (Below.refl _ W1).drew.trans hB5
  have b15 := b1.below hB5 b1.lt
  have b25 := b2.below hB5 b2.lt
  have b35 := b3.below hB5 b3.lt
  have b45 := b4.below hB5 b4.lt
  have D5 := D1.grow hB5
  have R5 := R1.grow hB5
  have hB05 := hB1.trans (hB5.mono hB1.size)
  refine ⟨_, rfl, fun _ => ⟨b15, b25⟩, ?_⟩
  simp only [List.getElem_toArray, List.getElem_cons_succ, List.getElem_cons_zero, Act.put, List.setIfInBounds_toArray, List.set_cons_zero, List.set_cons_succ]
  have HWr := write_bad w5 p many (gOf sy) ls left stops D5 at_ A5 (bytesOf (⟨2, at_, n, b, keep, K, kc⟩ : ActV)).length c5 (by rw [← HE.out]; exact hE)
  rw [← HE.out] at HWr
  refine RegF.one 5 (by kernel_rfl) ?_
  refine RegF.opC 21 #[.tmp 26, .tmp 28, .tmp 30] #[26, 3, 30] rfl rfl rfl (enters_of Try.func21 (by kernel_rfl) rfl) #[.pointer (some ⟨p, 0, none⟩), .int .i64 at_, .slice A5 (bytesOf (⟨2, at_, n, b, keep, K, kc⟩ : ActV)).length c5] (by simp only [List.map_toArray, List.map_cons, List.map_nil]; rfl) ((HWr).mono ?_)
  rintro e w6 ⟨rfl, hB6⟩
  have b16 := b15.below hB6 b15.lt
  have b26 := b25.below hB6 b25.lt
  have b36 := b35.below hB6 b35.lt
  have b46 := b45.below hB6 b45.lt
  have D6 := D5.grow hB6
  have R6 := R5.grow hB6
  have hB06 := hB05.trans (hB6.mono hB05.size)
  refine ⟨_, rfl, fun _ => ⟨b16, b26⟩, ?_⟩
  simp only [List.getElem_toArray, List.getElem_cons_succ, List.getElem_cons_zero, Act.put, List.setIfInBounds_toArray, List.set_cons_zero, List.set_cons_succ]
  refine RegF.one 6 (by kernel_rfl) ?_
  refine RegF.opV (w' := w6) (.int .i64 E) rfl rfl (by go_simp) ⟨fun _ => ⟨b16, b26⟩, ?_⟩
  simp only [List.getElem_toArray, List.getElem_cons_succ, List.getElem_cons_zero, Act.put, List.setIfInBounds_toArray, List.set_cons_zero, List.set_cons_succ]
  refine RegF.done (by kernel_rfl) ?_
  clear hSd b15 b25 b35 b45 D5 R5 hB05 b1 b2 b3 b4 D1 R1 hB1 hB5 hB6 in5 HWr
  go_wp2
  refine RegF.start (fun W => BlkIs W w.heap.size 141 #[.int .i64 (many : Int), .slice As sy.length cs, .slice Al ls.length cl, .int .i64 (relL stops left)] ∧ BlkIs W (w.heap.size + 1) 136 #[.int .i64 2, .int .i64 at_, .int .i64 n, .int .u8 (b.toNat : Int), .slice K keep.length kc]) 99 (by kernel_rfl) ?_
  have hSd : BlkIs w6.drew w.heap.size 141 #[.int .i64 (many : Int), .slice As sy.length cs, .slice Al ls.length cl, .int .i64 (relL stops left)] ∧ BlkIs w6.drew (w.heap.size + 1) 136 #[.int .i64 2, .int .i64 at_, .int .i64 n, .int .u8 (b.toNat : Int), .slice K keep.length kc] := ⟨b16, b26⟩
  refine RegF.take0 0 (.agg #[.int .i64 (many : Int), .slice As sy.length cs, .slice Al ls.length cl, .int .i64 (relL stops left)]) rfl (by kernel_rfl) (by kernel_rfl) (by kernel_rfl) rfl (fun _ _ _ h => h) hSd (RegF.yld rfl (fun W hW => by exact x_loadM rowRDisk hW.1.range rfl rfl rfl)) ?_
  simp only [List.getElem_toArray, List.getElem_cons_zero, Act.put, List.setIfInBounds_toArray, List.set_cons_zero, List.set_cons_succ]
  refine RegF.take0 1 (.pointer (some ⟨w.heap.size + 1, 1, none⟩)) rfl (by kernel_rfl) (by kernel_rfl) (by kernel_rfl) rfl (fun _ _ _ h => h) hSd (RegF.yld rfl (fun W hW => by go_simp)) ?_
  simp only [List.getElem_toArray, List.getElem_cons_succ, List.getElem_cons_zero, Act.put, List.setIfInBounds_toArray, List.set_cons_zero, List.set_cons_succ]
  refine RegF.take0 2 (.int .i64 at_) rfl (by kernel_rfl) (by kernel_rfl) (by kernel_rfl) rfl (fun _ _ _ h => h) hSd (RegF.yld rfl (fun W hW => by have e : W.cell? ⟨w.heap.size + 1, 1, none⟩ = _ := hW.2.cell 1; go_simp)) ?_
  simp only [List.getElem_toArray, List.getElem_cons_succ, List.getElem_cons_zero, Act.put, List.setIfInBounds_toArray, List.set_cons_zero, List.set_cons_succ]
  refine RegF.take0 3 (.agg #[.int .i64 2, .int .i64 at_, .int .i64 n, .int .u8 (b.toNat : Int), .slice K keep.length kc]) rfl (by kernel_rfl) (by kernel_rfl) (by kernel_rfl) rfl (fun _ _ _ h => h) hSd (RegF.yld rfl (fun W hW => by exact x_loadM rowAct hW.2.range rfl rfl rfl)) ?_
  simp only [List.getElem_toArray, List.getElem_cons_succ, List.getElem_cons_zero, Act.put, List.setIfInBounds_toArray, List.set_cons_zero, List.set_cons_succ]
  refine RegF.one 4 (by kernel_rfl) ?_
  refine RegF.opC 144 #[.tmp 36] #[136] rfl rfl rfl (enters_of Try.func144 (by kernel_rfl) rfl) #[.agg #[.int .i64 2, .int .i64 at_, .int .i64 n, .int .u8 (b.toNat : Int), .slice K keep.length kc]] (by simp only [List.map_toArray, List.map_cons, List.map_nil]; rfl) ((bytes4_gives w6.drew (⟨2, at_, n, b, keep, K, kc⟩ : ActV)).mono ?_)
  rintro e w7 ⟨A7, c7, rfl, in7, hB7⟩
  have hB7 : Below w6.heap.size w6 w7 := (Below.refl _ w6).drew.trans hB7
  have b17 := b16.below hB7 b16.lt
  have b27 := b26.below hB7 b26.lt
  have b37 := b36.below hB7 b36.lt
  have b47 := b46.below hB7 b46.lt
  have D7 := D6.grow hB7
  have R7 := R6.grow hB7
  have hB07 := hB06.trans (hB7.mono hB06.size)
  refine ⟨_, rfl, fun _ => ⟨b17, b27⟩, ?_⟩
  simp only [List.getElem_toArray, List.getElem_cons_succ, List.getElem_cons_zero, Act.put, List.setIfInBounds_toArray, List.set_cons_zero, List.set_cons_succ]
  refine RegF.one 5 (by kernel_rfl) ?_
  refine RegF.opV (w' := w7) (.string (str (bytesOf (⟨2, at_, n, b, keep, K, kc⟩ : ActV)))) rfl rfl (by exact x_convB rfl rfl in7) ⟨fun _ => ⟨b17, b27⟩, ?_⟩
  simp only [List.getElem_toArray, List.getElem_cons_succ, List.getElem_cons_zero, Act.put, List.setIfInBounds_toArray, List.set_cons_zero, List.set_cons_succ]
  have HRw := rwrite_bad w7 (many : Int) As sy.length cs Al ls.length cl (relL stops left) at_ (bytesOf (⟨2, at_, n, b, keep, K, kc⟩ : ActV)) (by rw [← HE.out]; exact hE)
  rw [← HE.out] at HRw
  unfold VAL at HRw
  refine RegF.one 6 (by kernel_rfl) ?_
  refine RegF.opC 145 #[.tmp 33, .tmp 35, .tmp 38] #[141, 3, 9] rfl rfl rfl (enters_of Try.func145 (by kernel_rfl) rfl) #[.agg #[.int .i64 (many : Int), .slice As sy.length cs, .slice Al ls.length cl, .int .i64 (relL stops left)], .int .i64 at_, .string (str (bytesOf (⟨2, at_, n, b, keep, K, kc⟩ : ActV)))] (by simp only [List.map_toArray, List.map_cons, List.map_nil]; rfl) ((HRw).mono ?_)
  rintro e w8 ⟨rfl, hB8⟩
  have b18 := b17.below hB8 b17.lt
  have b28 := b27.below hB8 b27.lt
  have b38 := b37.below hB8 b37.lt
  have b48 := b47.below hB8 b47.lt
  have D8 := D7.grow hB8
  have R8 := R7.grow hB8
  have hB08 := hB07.trans (hB8.mono hB07.size)
  refine ⟨_, rfl, fun _ => ⟨b18, b28⟩, ?_⟩
  simp only [List.getElem_toArray, List.getElem_cons_succ, List.getElem_cons_zero, Act.put, List.setIfInBounds_toArray, List.set_cons_zero, List.set_cons_succ]
  refine RegF.one 7 (by kernel_rfl) ?_
  refine RegF.opV (w' := w8) (.tuple #[.agg #[.int .i64 (many : Int), .slice As sy.length cs, .slice Al ls.length cl, .int .i64 (relL stops left)], .int .i64 E]) rfl rfl (by go_simp) ⟨fun _ => ⟨b18, b28⟩, ?_⟩
  simp only [List.getElem_toArray, List.getElem_cons_succ, List.getElem_cons_zero, Act.put, List.setIfInBounds_toArray, List.set_cons_zero, List.set_cons_succ]
  refine RegF.take0 8 (.agg #[.int .i64 (many : Int), .slice As sy.length cs, .slice Al ls.length cl, .int .i64 (relL stops left)]) rfl (by kernel_rfl) (by kernel_rfl) (by kernel_rfl) rfl (fun _ _ _ h => h) ⟨b18, b28⟩ (RegF.yld rfl (fun W hW => by go_simp)) ?_
  simp only [List.getElem_toArray, List.getElem_cons_succ, List.getElem_cons_zero, Act.put, List.setIfInBounds_toArray, List.set_cons_zero, List.set_cons_succ]
  refine RegF.take0 9 (.int .i64 E) rfl (by kernel_rfl) (by kernel_rfl) (by kernel_rfl) rfl (fun _ _ _ h => h) ⟨b18, b28⟩ (RegF.yld rfl (fun W hW => by go_simp)) ?_
  simp only [List.getElem_toArray, List.getElem_cons_succ, List.getElem_cons_zero, Act.put, List.setIfInBounds_toArray, List.set_cons_zero, List.set_cons_succ]
  have hSe : BlkIs (w8.setRow (w.heap.size + 1 + 1 + 1) #[.int .i64 (many : Int), .slice As sy.length cs, .slice Al ls.length cl, .int .i64 (relL stops left)]) w.heap.size 141 #[.int .i64 (many : Int), .slice As sy.length cs, .slice Al ls.length cl, .int .i64 (relL stops left)] ∧ BlkIs (w8.setRow (w.heap.size + 1 + 1 + 1) #[.int .i64 (many : Int), .slice As sy.length cs, .slice Al ls.length cl, .int .i64 (relL stops left)]) (w.heap.size + 1) 136 #[.int .i64 2, .int .i64 at_, .int .i64 n, .int .u8 (b.toNat : Int), .slice K keep.length kc] := ⟨b18.setRow_ne (by omega) _, b28.setRow_ne (by omega) _⟩
  refine RegF.one 10 (by kernel_rfl) ?_
  refine RegF.opS (w' := w8.setRow (w.heap.size + 1 + 1 + 1) #[.int .i64 (many : Int), .slice As sy.length cs, .slice Al ls.length cl, .int .i64 (relL stops left)]) rfl rfl (x_storeR (.tmp 9) (.tmp 40) rfl (w.heap.size + 1 + 1 + 1) rfl rfl b48 rfl rfl (four_oneR rfl rfl rfl rfl)) ⟨fun _ => hSe, ?_⟩
  simp only [List.getElem_toArray, List.getElem_cons_succ, List.getElem_cons_zero, Act.put]
  refine RegF.one 11 (by kernel_rfl) ?_
  refine RegF.opV (w' := w8.setRow (w.heap.size + 1 + 1 + 1) #[.int .i64 (many : Int), .slice As sy.length cs, .slice Al ls.length cl, .int .i64 (relL stops left)]) (.int .i64 E) rfl rfl (by go_simp) ⟨fun _ => hSe, ?_⟩
  simp only [List.getElem_toArray, List.getElem_cons_succ, List.getElem_cons_zero, Act.put, List.setIfInBounds_toArray, List.set_cons_zero, List.set_cons_succ]
  refine RegF.done (by kernel_rfl) ?_
  have gZ : w8.grownBy (w8.setRow (w.heap.size + 1 + 1 + 1) #[.int .i64 (many : Int), .slice As sy.length cs, .slice Al ls.length cl, .int .i64 (relL stops left)]) (some (w.heap.size + 1 + 1 + 1)) := setRow_grownBy _ _ _
  have DD := D8.other b48 (by show 4 ≤ 64; decide) (by omega) gZ
  have RR := R8.grownT b48 (noText4 _ _ _ _ _ _ _ _) gZ
  have B4 := b48.setRow #[.int .i64 (many : Int), .slice As sy.length cs, .slice Al ls.length cl, .int .i64 (relL stops left)]
  have B3 := b38.setRow_ne (k := (w.heap.size + 1 + 1 + 1)) (by omega) #[.int .i64 (many : Int), .slice As sy.length cs, .slice Al ls.length cl, .int .i64 (relL stops left)]
  have GG : w.grownBy (w8.setRow (w.heap.size + 1 + 1 + 1) #[.int .i64 (many : Int), .slice As sy.length cs, .slice Al ls.length cl, .int .i64 (relL stops left)]) (some p) := below_grownBy (below_setRow hB08 (by omega) _) p
  clear hSe hSd b18 b28 b38 b48 b17 b27 b37 b47 b16 b26 b36 b46 D6 D7 D8 R6 R7 R8 hB06 hB07 hB08 gZ in7 hB7 hB8 HRw
  generalize w8.setRow (w.heap.size + 1 + 1 + 1) #[.int .i64 (many : Int), .slice As sy.length cs, .slice Al ls.length cl, .int .i64 (relL stops left)] = wz at *
  go_wp2
  refine RegF.start (fun W => BlkIs W (w.heap.size + 1 + 1 + 1) 141 #[.int .i64 (many : Int), .slice As sy.length cs, .slice Al ls.length cl, .int .i64 (relL stops left)]) 99 (by kernel_rfl) ?_
  have hSd : BlkIs wz.drew (w.heap.size + 1 + 1 + 1) 141 #[.int .i64 (many : Int), .slice As sy.length cs, .slice Al ls.length cl, .int .i64 (relL stops left)] := B4
  refine RegF.take0 0 (.pointer (some ⟨p, 0, none⟩)) rfl (by kernel_rfl) (by kernel_rfl) (by kernel_rfl) rfl (fun _ _ _ h => h) hSd (RegF.yld rfl (fun W hW => by go_simp)) ?_
  simp only [List.getElem_toArray, List.getElem_cons_zero, Act.put, List.setIfInBounds_toArray, List.set_cons_zero, List.set_cons_succ]
  refine RegF.take0 1 (.agg #[.int .i64 (many : Int), .slice As sy.length cs, .slice Al ls.length cl, .int .i64 (relL stops left)]) rfl (by kernel_rfl) (by kernel_rfl) (by kernel_rfl) rfl (fun _ _ _ h => h) hSd (RegF.yld rfl (fun W hW => by exact x_loadM rowRDisk hW.range rfl rfl rfl)) ?_
  simp only [List.getElem_toArray, List.getElem_cons_succ, List.getElem_cons_zero, Act.put, List.setIfInBounds_toArray, List.set_cons_zero, List.set_cons_succ]
  refine RegF.take0 2 (.int .i64 E) rfl (by kernel_rfl) (by kernel_rfl) (by kernel_rfl) rfl (fun _ _ _ h => h) hSd (RegF.yld rfl (fun W hW => by go_simp)) ?_
  simp only [List.getElem_toArray, List.getElem_cons_succ, List.getElem_cons_zero, Act.put, List.setIfInBounds_toArray, List.set_cons_zero, List.set_cons_succ]
  refine RegF.take0 4 (.int .i64 E) rfl (by kernel_rfl) (by kernel_rfl) (by kernel_rfl) rfl (fun _ _ _ h => h) hSd (RegF.yld rfl (fun W hW => by go_simp)) ?_
  simp only [List.getElem_toArray, List.getElem_cons_succ, List.getElem_cons_zero, Act.put, List.setIfInBounds_toArray, List.set_cons_zero, List.set_cons_succ]
  refine RegF.one 3 (by kernel_rfl) ?_
  refine RegF.opC 20 #[.tmp 111] #[27] rfl rfl rfl (enters_of Try.func20 (by kernel_rfl) rfl) #[.int .i64 E] (by simp only [List.map_toArray, List.map_cons, List.map_nil]; rfl) ((num4_gives wz.drew E).mono ?_)
  rintro e W9 ⟨rfl, rfl⟩
  refine ⟨_, rfl, fun _ => hSd, ?_⟩
  simp only [List.getElem_toArray, List.getElem_cons_succ, List.getElem_cons_zero, Act.put, List.setIfInBounds_toArray, List.set_cons_zero, List.set_cons_succ]
  refine RegF.take0 5 (.bool true) rfl (by kernel_rfl) (by kernel_rfl) (by kernel_rfl) rfl (fun _ _ _ h => h) hSd (RegF.yld rfl (fun W hW => by go_simp)) ?_
  simp only [List.getElem_toArray, List.getElem_cons_succ, List.getElem_cons_zero, Act.put, List.setIfInBounds_toArray, List.set_cons_zero, List.set_cons_succ]
  refine RegF.one 6 (by kernel_rfl) ?_
  refine RegF.opV (w' := wz.drew) (.pointer (some ⟨p, 0, none⟩)) rfl rfl (by go_simp) ⟨fun _ => hSd, ?_⟩
  simp only [List.getElem_toArray, List.getElem_cons_succ, List.getElem_cons_zero, Act.put, List.setIfInBounds_toArray, List.set_cons_zero, List.set_cons_succ]
  have hb3d : BlkIs wz.drew (w.heap.size + 1 + 1) 141 #[.int .i64 0, .slice none 0 0, .slice none 0 0, .int .i64 0] := B3
  have hSe : BlkIs (wz.drew.setRow (w.heap.size + 1 + 1) #[.int .i64 (many : Int), .slice As sy.length cs, .slice Al ls.length cl, .int .i64 (relL stops left)]) (w.heap.size + 1 + 1 + 1) 141 #[.int .i64 (many : Int), .slice As sy.length cs, .slice Al ls.length cl, .int .i64 (relL stops left)] := hSd.setRow_ne (by omega) _
  refine RegF.one 7 (by kernel_rfl) ?_
  refine RegF.opS (w' := wz.drew.setRow (w.heap.size + 1 + 1) #[.int .i64 (many : Int), .slice As sy.length cs, .slice Al ls.length cl, .int .i64 (relL stops left)]) rfl rfl (x_storeR (.tmp 7) (.tmp 110) rfl (w.heap.size + 1 + 1) rfl rfl hb3d rfl rfl (four_oneR rfl rfl rfl rfl)) ⟨fun _ => hSe, ?_⟩
  simp only [List.getElem_toArray, List.getElem_cons_succ, List.getElem_cons_zero, Act.put]
  refine RegF.one 8 (by kernel_rfl) ?_
  refine RegF.opV (w' := wz.drew.setRow (w.heap.size + 1 + 1) #[.int .i64 (many : Int), .slice As sy.length cs, .slice Al ls.length cl, .int .i64 (relL stops left)]) (.bool true) rfl rfl (by go_simp) ⟨fun _ => hSe, ?_⟩
  simp only [List.getElem_toArray, List.getElem_cons_succ, List.getElem_cons_zero, Act.put, List.setIfInBounds_toArray, List.set_cons_zero, List.set_cons_succ]
  refine RegF.done (by kernel_rfl) ?_
  go_wp2
  have gE : wz.drew.grownBy (wz.drew.setRow (w.heap.size + 1 + 1) #[.int .i64 (many : Int), .slice As sy.length cs, .slice Al ls.length cl, .int .i64 (relL stops left)]) (some (w.heap.size + 1 + 1)) := setRow_grownBy _ _ _
  have DE := (DD.grow ((Below.refl _ wz).drew)).other hb3d (by show 4 ≤ 64; decide) (by omega) gE
  have RE := (RR.grow ((Below.refl _ wz).drew)).grownT hb3d (noText4 _ _ _ _ _ _ _ _) gE
  have GE := grownBy_past (grownBy_trans GG (grownBy_drew wz (some p))) gE (by omega)
  exact bodyPost_ret (results3 6 7 8 rfl rfl rfl rfl rowRDisk (hb3d.setRow _) (by rfl)) rfl ⟨p, As, cs, Al, cl, rfl, DE, RE, .inl rfl, GE⟩
end Go.Proofs.Ytlelckdcmlpmdaa
