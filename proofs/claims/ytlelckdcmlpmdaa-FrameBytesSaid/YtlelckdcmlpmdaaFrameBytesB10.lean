/- Texts that the proof of FrameBytes leans on, part 10. -/
import Derived.Test.YtlelckdcmlpmdaaFrameBytesB9
/- louperef05.Decode. -/
namespace Go.Proofs.Ytlelckdcmlpmdaa
open Go Go.RowKit Lou

theorem conv_41_3 (n : Nat) (h : n < 4294967296) (w : World) : (convert 41 3 (.int .u64 (n : Int))).run Try.prog w = .ok (.int .i64 (n : Int)) w := by
  have hw : IntKind.i64.wrap (n : Int) = n := wrap_i64_fr _ (by omega) (by omega)
  simp [go_sem, hw, Try.underlying41, Try.underlying3, Result.andThen]
theorem conv_41_45s (n : Nat) (h : n < 4294967296) (w : World) : (convert 41 45 (.int .u64 (n : Int))).run Try.prog w = .ok (.int .u32 (n : Int)) w := by
  have := Reg.conv_41_45 n w
  rw [Nat.mod_eq_of_lt h] at this
  exact this
namespace Reg
variable {L : List (Nat × Fact)} {ops : Array Oper} {w0 : World} {o : Oper}
def EmptyS (v : Value) (_ : World) : Prop := ∃ p, v = .slice (some p) 0 0
theorem emptyS_stable : ∀ v w w', EmptyS v w → Grow w w' → EmptyS v w' := fun _ _ _ h _ => h
def FreshVar (B : Nat) (T : TypeId) (cs : Array Value) (v : Value) (w : World) : Prop := ∃ b, v = .pointer (some ⟨b, 0, none⟩) ∧ B ≤ b ∧ BlkIs w b T cs
theorem freshVar_stable (B : Nat) (T : TypeId) (cs : Array Value) : ∀ v w w', FreshVar B T cs v w → Grow w w' → FreshVar B T cs v w' := by
  rintro v w w' ⟨b, e, hb, h⟩ hg
  exact ⟨b, e, hb, h.below hg h.lt⟩
def FrAgg (e i p : Nat) (f : Bool) (z n : Nat) (l : List UInt8) (v : Value) (w : World) : Prop := ∃ A c, v = .agg (frCells e i p f z n A l.length c) ∧ InB w w.heap.size A c l
theorem frAgg_stable (e i p : Nat) (f : Bool) (z n : Nat) (l : List UInt8) : ∀ v w w', FrAgg e i p f z n l v w → Grow w w' → FrAgg e i p f z n l v w' := by
  rintro v w w' ⟨A, c, h, hin⟩ hg
  exact ⟨A, c, h, (hin.below hg).more hg.size⟩
theorem l_lit0 (ho : o.op = .buildSlice 30 0 #[]) (hd : FD L o.dst = .pred EmptyS emptyS_stable) : RunOk Try.prog ops (FSof L) w0 o := by
  intro a w K Q hG hl hK
  have key : ∀ ρ : Operand → Value, (execOp ρ o).run Try.prog w = .ok (.value (.slice (some ⟨w.heap.size, 0, none⟩) 0 0)) (w.alloc (.cells #[] 5)) := fun ρ => by
    simp [execOp, ho, go_sem, Result.andThen]
  unfold Oper.wp
  rw [key]
  exact hK _ _ (Grow.alloc _ _) (fsd hd ⟨_, rfl⟩)
theorem l_allocV (T : TypeId) (cs : Array Value) (ho : o.op = .alloc T) (hrun : ∀ (ρ : Operand → Value) (w : World), (execOp ρ o).run Try.prog w = .ok (.value (.pointer (some ⟨w.heap.size, 0, none⟩))) (w.alloc (.cells cs T)))
    (hd : FD L o.dst = .pred (FreshVar w0.heap.size T cs) (freshVar_stable _ _ _)) : RunOk Try.prog ops (FSof L) w0 o := by
  intro a w K Q hG hl hK
  unfold Oper.wp
  rw [hrun]
  exact hK _ _ (Grow.alloc _ _) (fsd hd ⟨_, rfl, hG.size, BlkIs.new w T cs⟩)
theorem l_appE (t : Tmp) (y : Operand) (A : Option Addr) (c : Nat) (l : List UInt8) (ho : o.op = .call { callee := .builtin .append, args := #[.tmp t, y], argTypes := #[30, 30] })
    (hc : (o.looksAt ops).contains t = true) (hF : factOf L t = .pred EmptyS emptyS_stable) (hy : Has ops (FSof L) o y (.slice A l.length c)) (h0 : 0 < l.length) (hm : l.length ≤ 1000000000)
    (hin : ∀ w, Grow w0 w → InB w w.heap.size A c l) (hd : FD L o.dst = .res l) : RunOk Try.prog ops (FSof L) w0 o := by
  intro a w K Q hG hl hK
  have h' : (factOf L t).holds (a.eval (.tmp t)) w := hl t hc
  rw [hF] at h'
  obtain ⟨p, hp⟩ := h'
  have hy' := hy a w hl
  have hi := hin w hG
  obtain ⟨g, q, rfl, hg, hcs⟩ := hi.lies h0
  obtain ⟨i0, hi0, hz0, hz1, hz2⟩ := info_parts inf_u8
  have hr := run_append_grow (P := Try.prog) w 30 o.type 5 i0 (.int .u8 0) Try.underlying30 hi0 hz0 p 0 0 [] (by simp) (fun j v hj => by simp at hj) ⟨g, q, none⟩ l.length c (l.map b8) (by rw [hz1]; simp)
    (fun j u hj => by
      have hj' : j < l.length := by
        have := (List.getElem?_eq_some_iff.1 hj).1
        simpa using this
      have ea : (⟨g, q, none⟩ : Addr).add j = ⟨g, q + j, none⟩ := by cases j <;> simp [Addr.add]
      rw [ea, hcs j hj']
      simpa [hj', b8] using hj) (by omega) (by omega) (growslice_fits (by omega) (by rw [hz2]; omega))
  have hcm := grownCap_le_maxLen w (0 + l.length) 0 5 (by unfold maxLen; omega)
  have hge := grownCap_ge w (0 + l.length) 0 5
  simp only [Nat.zero_add] at hr hcm hge
  generalize grownCap w l.length 0 5 = cap at *
  have key : ∀ ρ : Operand → Value, ρ (.tmp t) = .slice (some p) 0 0 → ρ y = .slice (some ⟨g, q, none⟩) l.length c → (execOp ρ o).run Try.prog w = .ok (.value (.slice (some ⟨w.heap.size, 0, none⟩) l.length cap)) (w.drew.alloc (.cells (([] : List Value).toArray ++ (l.map b8).toArray ++ Builtin.zeroCells (Value.int .u8 0).cells (cap - l.length)) 5)) := fun ρ h1 h2 => by
    simp only [execOp, ho, resolve, invoke, builtin, Sem.run_bind, Sem.run_pure, Result.andThen_ok, List.map_toArray, List.map_cons, List.map_nil, h1, h2, hr]
  unfold Oper.wp
  rw [key _ hp hy']
  refine hK _ _ ((Below.refl _ w).drew.alloc (Nat.le_refl _) _) (fsd hd ⟨some ⟨w.heap.size, 0, none⟩, cap, rfl, ?_⟩)
  refine ⟨by omega, by unfold maxLen at hcm; omega, (fun h => by cases h), fun _ => ⟨w.heap.size, 0, rfl, by simp, fun j hj => ?_⟩⟩
  have hnew : (w.drew.alloc (.cells (([] : List Value).toArray ++ (l.map b8).toArray ++ Builtin.zeroCells (Value.int .u8 0).cells (cap - l.length)) 5)).heap[w.heap.size]? = some (.cells (([] : List Value).toArray ++ (l.map b8).toArray ++ Builtin.zeroCells (Value.int .u8 0).cells (cap - l.length)) 5 (0, 0)) := heap_alloc_new w.drew _
  rw [Nat.zero_add, cell_of_row _ _ _ _ _ _ hnew]
  simp [Array.getElem?_append, hj, b8]
theorem l_buildFr (x0 x1 x2 x3 x4 x5 : Operand) (t : Tmp) (e i p : Nat) (f : Bool) (z n : Nat) (l : List UInt8) (ho : o.op = .build 120 #[(0, x0), (1, x1), (2, x2), (3, x3), (4, x4), (5, x5), (6, .tmp t)])
    (h0 : Has ops (FSof L) o x0 (.int .u64 (e : Int))) (h1 : Has ops (FSof L) o x1 (.int .i64 (i : Int))) (h2 : Has ops (FSof L) o x2 (.int .i64 (p : Int))) (h3 : Has ops (FSof L) o x3 (.bool f)) (h4 : Has ops (FSof L) o x4 (.int .i64 (z : Int))) (h5 : Has ops (FSof L) o x5 (.int .u32 (n : Int)))
    (hc : (o.looksAt ops).contains t = true) (hF : factOf L t = .res l) (hd : FD L o.dst = .pred (FrAgg e i p f z n l) (frAgg_stable _ _ _ _ _ _ _)) : RunOk Try.prog ops (FSof L) w0 o := by
  intro a w K Q hG hl hK
  have h' : (factOf L t).holds (a.eval (.tmp t)) w := hl t hc
  rw [hF] at h'
  obtain ⟨A, c, e6, hin⟩ := h'
  have key : ∀ ρ : Operand → Value, ρ x0 = .int .u64 (e : Int) → ρ x1 = .int .i64 (i : Int) → ρ x2 = .int .i64 (p : Int) → ρ x3 = .bool f → ρ x4 = .int .i64 (z : Int) → ρ x5 = .int .u32 (n : Int) → ρ (.tmp t) = .slice A l.length c →
      (execOp ρ o).run Try.prog w = .ok (.value (.agg (frCells e i p f z n A l.length c))) w := fun ρ g0 g1 g2 g3 g4 g5 g6 => by
    simp [execOp, ho, g0, g1, g2, g3, g4, g5, g6, go_sem, Result.andThen, frCells]
  unfold Oper.wp
  rw [key _ (h0 a w hl) (h1 a w hl) (h2 a w hl) (h3 a w hl) (h4 a w hl) (h5 a w hl) e6]
  exact hK _ w (Grow.refl w) (fsd hd ⟨A, c, rfl, hin⟩)
end Reg

/-- Bytes lie in no block that holds other cells. -/
theorem InB.apartBlk {W : World} {B g : Nat} {A : Option Addr} {c : Nat} {l : List UInt8} {T : TypeId} {cs : Array Value} (h : InB W B A c l) (hk : BlkIs W g T cs) (hno : ∀ v ∈ cs.toList, ∀ x, v ≠ .int .u8 x) (cs' : Array Value) : InB (W.setRow g cs') B A c l :=
  ⟨h.le, h.max, h.nil, fun hl => by
    obtain ⟨b, o, hA, hb, hc⟩ := h.lies hl
    refine ⟨b, o, hA, hb, fun j hj => ?_⟩
    have h1 := hc j hj
    have hne : b ≠ g := by
      intro e
      subst e
      rw [hk.cell] at h1
      have := (Array.getElem?_eq_some_iff.1 h1)
      obtain ⟨hlt, he⟩ := this
      exact hno _ (by rw [← he]; simp) _ rfl
    rw [← h1]
    exact World.cell?_of_block (setRow_other W g b cs' hne)⟩
theorem zeroFr_no8 : ∀ v ∈ zeroFr.toList, ∀ x, v ≠ .int .u8 x := by
  intro v hv x
  simp [zeroFr] at hv
  rcases hv with rfl | rfl | rfl | rfl | rfl | rfl <;> simp

set_option maxRecDepth 100000 in
set_option maxHeartbeats 4000000 in
theorem refDecode_len (w : World) (A : Option Addr) (c : Nat) (l : List UInt8) (h : InB w w.heap.size A c l) (hl : l.length ≠ 576) :
    Calls Try.prog 77 #[.slice A l.length c] w (GivesFr w l) := by
  have hb0 := BlkIs.new w 120 zeroFr
  have hB0 : Below w.heap.size w (w.alloc (.cells zeroFr 120)) := (Below.refl _ w).alloc (Nat.le_refl _) _
  have hle := h.le
  have hmx := h.max
  have hno : isFrame l = false := by simp [isFrame, hl]
  have hG : ∀ x w', Below w.heap.size w w' → x = .returned (.tuple #[.agg zeroFr, .int .i64 150]) → GivesFr w l x w' := fun x w' hB hx => ⟨hB, by rw [hno]; exact hx⟩
  have hq : ((l.length : Int) == 576) = false := by simp; omega
  have hq2 : ((l.length : Int) != 576) = true := by simp; omega
  have hz1 := zeroFr_one
  clear hno hl
  unfold zeroFr at *
  go_enter Try.func77, Try.ntmps77
  go_wp2_with (refine wp_storeW rfl 120 (.tmp 2) (.tmp 20) rfl w.heap.size rfl rfl rowFrame hb0 (by rfl) (by rfl) hz1 ?_)
  exact bodyPost_ret_by (results_cellW_tmp 2 3 rfl rfl rfl rowFrame (hb0.setRow _) (by rfl)) rfl (hG _ _ (below_setRow hB0 (Nat.le_refl _) _) rfl)

set_option maxRecDepth 100000 in
set_option maxHeartbeats 8000000 in
theorem refDecode_576 (w : World) (A : Option Addr) (c : Nat) (l : List UInt8) (h : InB w w.heap.size A c l) (hl : l.length = 576) :
    Calls Try.prog 77 #[.slice A 576 c] w (GivesFr w l) := by
  have hle := h.le
  have hmx := h.max
  rw [hl] at hle
  have hle' : (576 : Int) ≤ (c : Int) := by omega
  obtain ⟨b, o, rfl, hbs, hcs⟩ := h.lies (by omega)
  have hb0 := BlkIs.new w 120 zeroFr
  have hB0 : Below w.heap.size w (w.alloc (.cells zeroFr 120)) := (Below.refl _ w).alloc (Nat.le_refl _) _
  have h0 := h.below hB0
  have hlen : ∀ n, (l.drop n).length = 576 - n := fun n => by simp [hl]
  obtain ⟨w1, hw1⟩ : ∃ w1, w1 = w.alloc (.cells zeroFr 120) := ⟨_, rfl⟩
  rw [← hw1] at hb0 hB0 h0
  have F : ∀ (n m : Nat), m ≤ 8 → n + m ≤ 576 → ∀ (A : Option Addr) k, InB w1 w.heap.size A k (l.drop n) → Calls Try.prog 41 #[.slice A (576 - n) k, .int .i64 (m : Int)] w1 fun x w' => x = .returned (.tuple #[.int .u64 (rfix ((l.drop n).take m) : Int), .int .i64 0]) ∧ w1 = w' := by
    intro n m hm hnm A k hin
    have := refReadFixed_gives w1 _ A k (l.drop n) m hm hin
    rw [hlen, fixV_ge (by rw [hlen]; omega)] at this
    exact this
  have F0 : Calls Try.prog 41 #[.slice (some ⟨b, o, none⟩) 576 c, .int .i64 8] w1 fun x w' => x = .returned (.tuple #[.int .u64 (fdE l : Int), .int .i64 0]) ∧ w1 = w' := F 0 8 (by omega) (by omega) (some ⟨b, o, none⟩) c h0
  have F1 : Calls Try.prog 41 #[.slice (some ⟨b, o + 8, none⟩) 568 (c - 8), .int .i64 4] w1 fun x w' => x = .returned (.tuple #[.int .u64 (fdI l : Int), .int .i64 0]) ∧ w1 = w' := F 8 4 (by omega) (by omega) _ _ (h0.dropAt 8 (by rw [hl]; omega) (by omega))
  have F2 : Calls Try.prog 41 #[.slice (some ⟨b, o + 12, none⟩) 564 (c - 12), .int .i64 4] w1 fun x w' => x = .returned (.tuple #[.int .u64 (fdP l : Int), .int .i64 0]) ∧ w1 = w' := F 12 4 (by omega) (by omega) _ _ (h0.dropAt 12 (by rw [hl]; omega) (by omega))
  have F3 : Calls Try.prog 41 #[.slice (some ⟨b, o + 17, none⟩) 559 (c - 17), .int .i64 4] w1 fun x w' => x = .returned (.tuple #[.int .u64 (fdZ l : Int), .int .i64 0]) ∧ w1 = w' := F 17 4 (by omega) (by omega) _ _ (h0.dropAt 17 (by rw [hl]; omega) (by omega))
  have F4 : Calls Try.prog 41 #[.slice (some ⟨b, o + 21, none⟩) 555 (c - 21), .int .i64 4] w1 fun x w' => x = .returned (.tuple #[.int .u64 (fdL l : Int), .int .i64 0]) ∧ w1 = w' := F 21 4 (by omega) (by omega) _ _ (h0.dropAt 21 (by rw [hl]; omega) (by omega))
  have hil : fdI l < 4294967296 := rfix_take4 _
  have hpl : fdP l < 4294967296 := rfix_take4 _
  have hzl : fdZ l < 4294967296 := rfix_take4 _
  have hnl : fdL l < 4294967296 := rfix_take4 _
  have hel : fdE l < 2 ^ 64 := rfix_take8 _
  have hcut64 : ∀ {ρ : Operand → Value} {w : World} {oo : Oper} {x y : Operand}, oo.op = .slice 30 x (some y) none none → ρ x = .slice (some ⟨b, o, none⟩) 576 c → ρ y = .int .i64 ((64 : Nat) : Int) → (execOp ρ oo).run Try.prog w = .ok (.value (.slice (cutA (some ⟨b, o, none⟩) c 64) (l.drop 64).length (c - 64))) w := fun ho h1 h2 => cut_drop ho (by rw [hl]; exact h1) h2 (by rw [hl]; omega) (by rw [hl]; omega)
  have hdl0 : 0 < (l.drop 64).length := by rw [hlen]; omega
  have hdl1 : (l.drop 64).length ≤ 1000000000 := by rw [hlen]; omega
  have hin64 : ∀ w', Grow w1 w' → InB w' w'.heap.size (cutA (some ⟨b, o, none⟩) c 64) (c - 64) (l.drop 64) := fun w' hG => ((h.below (hB0.trans (hG.mono hB0.size))).more (Nat.le_trans hB0.size hG.size)).drop 64 (by rw [hl]; omega)
  have hlc : ∀ w', Grow w1 w' → w'.cell? ⟨b, o + 16, none⟩ = some (.int .u8 ((l.getD 16 0).toNat : Int)) := fun w' hG => by
    have hB := hB0.trans (hG.mono hB0.size)
    rw [hB.cell (p := ⟨b, o + 16, none⟩) hbs, hcs 16 (by rw [hl]; omega)]
    simp [List.getD, hl]
  have hq : (((l.getD 16 0).toNat : Int) == 1) = fdF l := by
    unfold fdF
    rw [Bool.eq_iff_iff]
    simp only [beq_iff_eq]
    constructor
    · intro e
      exact UInt8.toNat_inj.1 (by rw [show (1 : UInt8).toNat = 1 from rfl]; omega)
    · intro e
      rw [e]
      rfl
  obtain ⟨q16, hq16⟩ : ∃ q : Nat, q = (l.getD 16 0).toNat := ⟨_, rfl⟩
  rw [← hq16] at hlc hq
  clear hq16
  have hiff := isFrame_ref l hl
  have hl64 : (l.drop 64).length = 512 := hlen 64
  have hGF : ∀ x w', Below w.heap.size w w' → (if isFrame l then ∃ A k, x = .returned (.tuple #[.agg (frCells (fdE l) (fdI l) (fdP l) (fdF l) (fdZ l) (fdL l) A 512 k), .int .i64 0]) ∧ InB w' w'.heap.size A k (l.drop 64) else x = .returned (.tuple #[.agg zeroFr, .int .i64 150])) → GivesFr w l x w' := fun x w' h1 h2 => ⟨h1, h2⟩
  clear hlen F
  generalize fdE l = e at *
  generalize fdI l = i at *
  generalize fdP l = p at *
  generalize fdF l = fl at *
  generalize fdZ l = z at *
  generalize fdL l = n at *
  have EN := fun (A : Option Addr) (k : Nat) (W : World) (hin : InB W W.heap.size A k (l.drop 64)) => refEncode_gives e i p fl z n A k (l.drop 64) W hin hel hnl
  have HI := Lib.hid hiff
  have HGF := Lib.hid hGF
  have HL := Lib.hid hl
  have hstl : ∀ W, Below w.heap.size w W → (convert 30 9 (.slice (some ⟨b, o, none⟩) 576 c)).run Try.prog W = .ok (.string (str l)) W := fun W hB => by
    have := (h.below hB).string
    rw [hl] at this
    exact this
  have hz1 := zeroFr_one
  have hn8 := zeroFr_no8
  have hFC := fun A k => frCells_one e i p fl z n A 512 k
  clear hiff hGF hl hcs
  subst hw1
  unfold zeroFr at *
  go_enter Try.func77, Try.ntmps77
  go_wp2_with (first
    | (go_at_call 41; first
      | ((with_reducible refine F0.mono ?_); rintro x w' ⟨rfl, rfl⟩)
      | ((with_reducible refine F1.mono ?_); rintro x w' ⟨rfl, rfl⟩)
      | ((with_reducible refine F2.mono ?_); rintro x w' ⟨rfl, rfl⟩)
      | ((with_reducible refine F3.mono ?_); rintro x w' ⟨rfl, rfl⟩)
      | ((with_reducible refine F4.mono ?_); rintro x w' ⟨rfl, rfl⟩)))
  clear F0 F1 F2 F3 F4
  generalize w.alloc (.cells #[.int .u64 0, .int .i64 0, .int .i64 0, .bool false, .int .i64 0, .int .u32 0, .slice none 0 0] 120) = w1 at *
  have s1 := hB0.size
  open Reg in
  refine region_tail_facts (by kernel_rfl) (by kernel_rfl) 84 rfl (by kernel_rfl) 19 (by decide) (by kernel_rfl) (by kernel_rfl) [50, 51, 52, 53, 54, 55, 56, 57, 58, 59, 60, 61, 62, 63, 64, 65, 66, 67, 14] (by kernel_rfl)
    [(0, .val (.slice (some ⟨b, o, none⟩) 576 c)), (4, .val (.int .u64 (e : Int))), (6, .val (.int .u64 (i : Int))), (8, .val (.int .u64 (p : Int))), (10, .val (.int .u64 (z : Int))), (12, .val (.int .u64 (n : Int)))]
    [(50, .val (.int .u64 (e : Int))), (51, .val (.int .u64 (i : Int))), (52, .val (.int .i64 (i : Int))), (53, .val (.int .u64 (p : Int))), (54, .val (.int .i64 (p : Int))), (55, .val (.slice (some ⟨b, o, none⟩) 576 c)), (56, .val (.pointer (some ⟨b, o + 16, none⟩))), (57, .val (.int .u8 (q16 : Int))), (58, .val (.bool fl)), (59, .val (.int .u64 (z : Int))), (60, .val (.int .i64 (z : Int))), (61, .val (.int .u64 (n : Int))), (62, .val (.int .u32 (n : Int))), (63, .pred (EmptyS) (emptyS_stable)), (64, .val (.slice (some ⟨b, o, none⟩) 576 c)), (65, .val (.slice (cutA (some ⟨b, o, none⟩) c 64) (l.drop 64).length (c - 64))), (66, .res (l.drop 64)), (67, .pred (FrAgg e i p fl z n (l.drop 64)) (frAgg_stable e i p fl z n (l.drop 64))), (14, .pred (FreshVar w1.heap.size 120 zeroFr) (freshVar_stable w1.heap.size 120 zeroFr))]
    ⟨rfl, rfl, rfl, rfl, rfl, rfl, trivial⟩ (by kernel_rfl) (by kernel_rfl)
    (allOk_cons (ok_none rfl (l_mvF 4 (.val (.int .u64 (e : Int))) (.inl rfl) (by kernel_rfl) (by kernel_rfl) (by kernel_rfl)))
    <| allOk_cons (ok_none rfl (l_mvF 6 (.val (.int .u64 (i : Int))) (.inl rfl) (by kernel_rfl) (by kernel_rfl) (by kernel_rfl)))
    <| allOk_cons (ok_none rfl (l_convS (.tmp 51) _ _ (.int .u64 (i : Int)) (.int .i64 (i : Int)) rfl (hs 51 (.int .u64 (i : Int)) (by kernel_rfl) (by kernel_rfl)) (fun w hg => conv_41_3 i hil w) (by kernel_rfl)))
    <| allOk_cons (ok_none rfl (l_mvF 8 (.val (.int .u64 (p : Int))) (.inl rfl) (by kernel_rfl) (by kernel_rfl) (by kernel_rfl)))
    <| allOk_cons (ok_none rfl (l_convS (.tmp 53) _ _ (.int .u64 (p : Int)) (.int .i64 (p : Int)) rfl (hs 53 (.int .u64 (p : Int)) (by kernel_rfl) (by kernel_rfl)) (fun w hg => conv_41_3 p hpl w) (by kernel_rfl)))
    <| allOk_cons (ok_none rfl (l_mvF 0 (.val (.slice (some ⟨b, o, none⟩) 576 c)) (.inl rfl) (by kernel_rfl) (by kernel_rfl) (by kernel_rfl)))
    <| allOk_cons (ok_none rfl (l_idxS (.tmp 55) _ b o 576 c 16 (by decide) rfl (hs 55 _ (by kernel_rfl) (by kernel_rfl)) (hc _) (by kernel_rfl)))
    <| allOk_cons (ok_none rfl (l_load (.tmp 56) (⟨b, o + 16, none⟩) _ (.int .u8 (q16 : Int)) (by intro w; simp [go_sem, Try.underlying5]) rfl (hs 56 (.pointer (some ⟨b, o + 16, none⟩)) (by kernel_rfl) (by kernel_rfl)) (fun w hg => hlc w hg) (by kernel_rfl)))
    <| allOk_cons (ok_none rfl (l_eqI (.tmp 57) _ _ _ .u8 (q16 : Int) 1 fl rfl Try.underlying5 (hs 57 _ (by kernel_rfl) (by kernel_rfl)) (hc _) hq (by kernel_rfl)))
    <| allOk_cons (ok_none rfl (l_mvF 10 (.val (.int .u64 (z : Int))) (.inl rfl) (by kernel_rfl) (by kernel_rfl) (by kernel_rfl)))
    <| allOk_cons (ok_none rfl (l_convS (.tmp 59) _ _ (.int .u64 (z : Int)) (.int .i64 (z : Int)) rfl (hs 59 (.int .u64 (z : Int)) (by kernel_rfl) (by kernel_rfl)) (fun w hg => conv_41_3 z hzl w) (by kernel_rfl)))
    <| allOk_cons (ok_none rfl (l_mvF 12 (.val (.int .u64 (n : Int))) (.inl rfl) (by kernel_rfl) (by kernel_rfl) (by kernel_rfl)))
    <| allOk_cons (ok_none rfl (l_convS (.tmp 61) _ _ (.int .u64 (n : Int)) (.int .u32 (n : Int)) rfl (hs 61 (.int .u64 (n : Int)) (by kernel_rfl) (by kernel_rfl)) (fun w hg => conv_41_45s n hnl w) (by kernel_rfl)))
    <| allOk_cons (ok_none rfl (l_lit0 rfl (by kernel_rfl)))
    <| allOk_cons (ok_none rfl (l_mvF 0 (.val (.slice (some ⟨b, o, none⟩) 576 c)) (.inl rfl) (by kernel_rfl) (by kernel_rfl) (by kernel_rfl)))
    <| allOk_cons (ok_none rfl (l_run2W (.tmp 64) (.const (.int .i64 64)) (.val (.slice (cutA (some ⟨b, o, none⟩) c 64) (l.drop 64).length (c - 64))) (.slice (some ⟨b, o, none⟩) 576 c) (.int .i64 ((64 : Nat) : Int)) (hs 64 _ (by kernel_rfl) (by kernel_rfl)) (hc _) (fun ρ w hg h1 h2 => ⟨_, w, hcut64 rfl h1 h2, Grow.refl _, rfl⟩) (by kernel_rfl)))
    <| allOk_cons (ok_none rfl (l_appE 63 (.tmp 65) _ _ (l.drop 64) rfl (by kernel_rfl) (by kernel_rfl) (hs 65 _ (by kernel_rfl) (by kernel_rfl)) hdl0 hdl1 hin64 (by kernel_rfl)))
    <| allOk_cons (ok_none rfl (l_buildFr (.tmp 50) (.tmp 52) (.tmp 54) (.tmp 58) (.tmp 60) (.tmp 62) 66 e i p fl z n (l.drop 64) rfl (hs 50 _ (by kernel_rfl) (by kernel_rfl)) (hs 52 _ (by kernel_rfl) (by kernel_rfl)) (hs 54 _ (by kernel_rfl) (by kernel_rfl)) (hs 58 _ (by kernel_rfl) (by kernel_rfl)) (hs 60 _ (by kernel_rfl) (by kernel_rfl)) (hs 62 _ (by kernel_rfl) (by kernel_rfl)) (by kernel_rfl) (by kernel_rfl) (by kernel_rfl)))
    <| allOk_cons (ok_none rfl (l_allocV 120 zeroFr rfl (fun ρ w => by simp [execOp, go_sem, Result.andThen, zeroFr]) (by kernel_rfl)))
    <| allOk_nil) ?_
  intro a W2 hsz hdef hGW2 hF hU
  have hp14 := hF 14
  have hp67 := hF 67
  have ha := Reg.acts_eq [50, 51, 52, 53, 54, 55, 56, 57, 58, 59, 60, 61, 62, 63, 64, 65, 66, 67, 14] hsz hdef hU
  clear hF hU hdef
  simp only [List.foldl_cons, List.foldl_nil] at ha
  clear  hsz
  generalize a.eval (.tmp 50) = v50 at *
  generalize a.eval (.tmp 51) = v51 at *
  generalize a.eval (.tmp 52) = v52 at *
  generalize a.eval (.tmp 53) = v53 at *
  generalize a.eval (.tmp 54) = v54 at *
  generalize a.eval (.tmp 55) = v55 at *
  generalize a.eval (.tmp 56) = v56 at *
  generalize a.eval (.tmp 57) = v57 at *
  generalize a.eval (.tmp 58) = v58 at *
  generalize a.eval (.tmp 59) = v59 at *
  generalize a.eval (.tmp 60) = v60 at *
  generalize a.eval (.tmp 61) = v61 at *
  generalize a.eval (.tmp 62) = v62 at *
  generalize a.eval (.tmp 63) = v63 at *
  generalize a.eval (.tmp 64) = v64 at *
  generalize a.eval (.tmp 65) = v65 at *
  generalize a.eval (.tmp 66) = v66 at *
  generalize a.eval (.tmp 67) = v67 at *
  generalize a.eval (.tmp 14) = v14 at *
  simp only [Act.put, List.setIfInBounds_toArray, List.set_cons_succ, List.set_cons_zero] at ha
  subst ha
  simp only [Reg.Rest, List.drop_succ_cons, List.drop_zero]
  obtain ⟨b14, rfl, hb14, hk14⟩ := hp14
  obtain ⟨A2, c2, rfl, hin2⟩ := hp67
  rw [hl64]
  have hb2 := hb0.below hGW2 hb0.lt
  have hB2 : Below w.heap.size w W2 := hB0.trans (hGW2.mono s1)
  have hne : ¬ b14 = w.heap.size := by have := hb0.lt; omega
  unfold frCells at *
  have hin3 := hin2.apartBlk hk14 hn8 #[.int .u64 (e : Int), .int .i64 (i : Int), .int .i64 (p : Int), .bool fl, .int .i64 (z : Int), .int .u32 (n : Int), .slice A2 512 c2]
  have hk3 := hk14.setRow #[.int .u64 (e : Int), .int .i64 (i : Int), .int .i64 (p : Int), .bool fl, .int .i64 (z : Int), .int .u32 (n : Int), .slice A2 512 c2]
  have hb3 := hb2.setRow_ne (k := b14) (by omega) #[.int .u64 (e : Int), .int .i64 (i : Int), .int .i64 (p : Int), .bool fl, .int .i64 (z : Int), .int .u32 (n : Int), .slice A2 512 c2]
  have hB3 := below_setRow hB2 (g := b14) (by omega) #[.int .u64 (e : Int), .int .i64 (i : Int), .int .i64 (p : Int), .bool fl, .int .i64 (z : Int), .int .u32 (n : Int), .slice A2 512 c2]
  have s3 : (W2.setRow b14 #[.int .u64 (e : Int), .int .i64 (i : Int), .int .i64 (p : Int), .bool fl, .int .i64 (z : Int), .int .u32 (n : Int), .slice A2 512 c2]).heap.size = W2.heap.size := by simp [World.setRow]
  rw [← s3] at hin3
  clear hcut64 hdl0 hdl1 hin64 hlc hq s3 hin2
  go_wp2_with (first
    | (refine wp_storeW rfl 120 (.tmp 14) (.tmp 67) rfl b14 rfl rfl rowFrame hk14 (by rfl) (by rfl) (hFC _ _) ?_)
    | (refine wp_loadW rfl 120 (.tmp 14) rfl b14 rfl rowFrame hk3 (by rfl) ?_))
  clear hk14 hb2 hB2 hGW2
  generalize W2.setRow b14 #[.int .u64 (e : Int), .int .i64 (i : Int), .int .i64 (p : Int), .bool fl, .int .i64 (z : Int), .int .u32 (n : Int), .slice A2 512 c2] = W3 at *
  have E3 := EN A2 c2 W3 hin3
  rw [hl64] at E3
  refine E3.mono ?_
  rintro x W4 ⟨A4, c4, rfl, hin4, hB4⟩
  have hb4 := hb3.below hB4 hb3.lt
  have hk4 := hk3.below hB4 hk3.lt
  have hB04 : Below w.heap.size w W4 := hB3.trans (hB4.mono hB3.size)
  have hd4 := (hin3.below hB4).more hB4.size
  have hst := hstl W4 hB04
  clear EN E3 hstl hb3 hk3 hin3 hB4 hB3
  have hFE : fErr (i : Int) (p : Int) fl (z : Int) (l.drop 64) = if frOk (l.drop 64).length (i : Int) (p : Int) fl (z : Int) then 0 else 2 := rfl
  have hFN : fEnc e (i : Int) (p : Int) fl (z : Int) n (l.drop 64) = if frOk (l.drop 64).length (i : Int) (p : Int) fl (z : Int) then frameB (partB e i p fl z n) (l.drop 64) else [] := rfl
  cases hk : frOk (l.drop 64).length (i : Int) (p : Int) fl (z : Int) with
  | false =>
    rw [hFE, hk]
    have hno : isFrame l = false := by rw [HI.out, hk]; rfl
    have HN := Lib.hid hno
    generalize fEnc e (i : Int) (p : Int) fl (z : Int) n (l.drop 64) = X at *
    clear hk hFE hFN hno
    simp only [Bool.false_eq_true, if_false]
    go_wp2_with (refine wp_storeW rfl 120 (.tmp 2) (.tmp 82) rfl w.heap.size rfl rfl rowFrame hb4 (by rfl) (by rfl) hz1 ?_)
    refine bodyPost_ret_by (results_cellW_tmp 2 3 rfl rfl rfl rowFrame (hb4.setRow _) (by rfl)) rfl (HGF.out _ _ (below_setRow hB04 (Nat.le_refl _) _) ?_)
    rw [HN.out]
    rfl
  | true =>
    rw [hFE, hFN, hk]
    rw [hFN, hk] at hin4
    have hyes : isFrame l = (frameB (partB e i p fl z n) (l.drop 64) == l) := by rw [HI.out, hk]; rfl
    have HY := Lib.hid hyes
    simp only [if_true] at hin4 ⊢
    generalize frameB (partB e i p fl z n) (l.drop 64) = FB at *
    have hst1 := hin4.string
    clear hk hFE hFN hyes
    cases hq : (FB == l) with
    | false =>
      have hs1 : ((str FB).toList == (str l).toList) = false := by rw [str_toList, str_toList]; exact hq
      have hs2 : ((str FB).toList != (str l).toList) = true := by rw [bne, hs1]; rfl
      have HQ := Lib.hid hq
      clear hq
      go_wp2_with (refine wp_storeW rfl 120 (.tmp 2) (.tmp 82) rfl w.heap.size rfl rfl rowFrame hb4 (by rfl) (by rfl) hz1 ?_)
      refine bodyPost_ret_by (results_cellW_tmp 2 3 rfl rfl rfl rowFrame (hb4.setRow _) (by rfl)) rfl (HGF.out _ _ (below_setRow hB04 (Nat.le_refl _) _) ?_)
      rw [HY.out, HQ.out]
      rfl
    | true =>
      have hs1 : ((str FB).toList == (str l).toList) = true := by rw [str_toList, str_toList]; exact hq
      have hs2 : ((str FB).toList != (str l).toList) = false := by rw [bne, hs1]; rfl
      have HQ := Lib.hid hq
      clear hq
      have hd5 := hd4.apartBlk hb4 hn8 #[.int .u64 (e : Int), .int .i64 (i : Int), .int .i64 (p : Int), .bool fl, .int .i64 (z : Int), .int .u32 (n : Int), .slice A2 512 c2]
      go_wp2_with (first
        | (refine wp_loadW rfl 120 (.tmp 14) rfl b14 rfl rowFrame hk4 (by rfl) ?_)
        | (refine wp_storeW rfl 120 (.tmp 2) (.tmp 83) rfl w.heap.size rfl rfl rowFrame hb4 (by rfl) (by rfl) (hFC _ _) ?_))
      refine bodyPost_ret_by (results_cellW_tmp 2 3 rfl rfl rfl rowFrame (hb4.setRow _) (by rfl)) rfl (HGF.out _ _ (below_setRow hB04 (Nat.le_refl _) _) ?_)
      rw [HY.out, HQ.out]
      refine ⟨A2, c2, rfl, ?_⟩
      have s5 : (W4.setRow w.heap.size #[.int .u64 (e : Int), .int .i64 (i : Int), .int .i64 (p : Int), .bool fl, .int .i64 (z : Int), .int .u32 (n : Int), .slice A2 512 c2]).heap.size = W4.heap.size := by simp [World.setRow]
      rw [s5]
      exact hd5
theorem refDecode_gives (w : World) (A : Option Addr) (c : Nat) (l : List UInt8) (h : InB w w.heap.size A c l) :
    Calls Try.prog 77 #[.slice A l.length c] w (GivesFr w l) := by
  by_cases hl : l.length = 576
  · rw [hl]
    exact refDecode_576 w A c l h hl
  · exact refDecode_len w A c l h hl
end Go.Proofs.Ytlelckdcmlpmdaa
/- loupelaw05.FrameBytes: the walk. -/
namespace Go.Proofs.Ytlelckdcmlpmdaa
open Go Go.RowKit Lou

/-- What Decode gives, in one form. -/
def FrForm (e i p : Int) (f : Bool) (z n : Int) (L : List UInt8) (r : Int) (w0 : World) (x : Ending) (w' : World) : Prop :=
  ∃ A k, x = .returned (.tuple #[.agg #[.int .u64 e, .int .i64 i, .int .i64 p, .bool f, .int .i64 z, .int .u32 n, .slice A L.length k], .int .i64 r]) ∧ InB w' w'.heap.size A k L ∧ Below w0.heap.size w0 w'
theorem givesFr_no {l : List UInt8} (h : isFrame l = false) {w : World} {x : Ending} {w' : World} (hg : GivesFr w l x w') : FrForm 0 0 0 false 0 0 [] 150 w x w' := by
  obtain ⟨hB, hx⟩ := hg
  rw [h] at hx
  exact ⟨none, 0, hx, InB.mt _ _, hB⟩
theorem givesFr_yes {l : List UInt8} (h : isFrame l = true) {w : World} {x : Ending} {w' : World} (hg : GivesFr w l x w') : FrForm (fdE l) (fdI l) (fdP l) (fdF l) (fdZ l) (fdL l) (l.drop 64) 0 w x w' := by
  obtain ⟨hB, hx⟩ := hg
  rw [h] at hx
  obtain ⟨A, k, hx, hin⟩ := hx
  have hl := (isFrame_eq h).1
  have h5 : (l.drop 64).length = 512 := by rw [List.length_drop, hl]
  refine ⟨A, k, ?_, hin, hB⟩
  rw [h5]
  exact hx
theorem givesFr_form (l : List UInt8) : ∃ e i p f z n L r, ∀ w x w', GivesFr w l x w' → FrForm e i p f z n L r w x w' := by
  cases h : isFrame l with
  | false => exact ⟨_, _, _, _, _, _, _, _, fun w x w' hg => givesFr_no h hg⟩
  | true => exact ⟨_, _, _, _, _, _, _, _, fun w x w' hg => givesFr_yes h hg⟩
theorem newRow (W : World) (T : TypeId) (zs cs : Array Value) : BlkIs ((W.alloc (.cells zs T)).setRow W.heap.size cs) W.heap.size T cs ∧ Below W.heap.size W ((W.alloc (.cells zs T)).setRow W.heap.size cs) :=
  ⟨(BlkIs.new W T zs).setRow cs, below_setRow ((Below.refl _ W).alloc (Nat.le_refl _) _) (Nat.le_refl _) _⟩

theorem wp_loadWG {P : Program} {w : World} {ops : Array Oper} {rest : List Oper} {o : Oper} {a : Act} {Q : Exit → Act → World → Prop} (hw : Region.wanted o (yielded ops a.tmps) = true) (T : TypeId) (x : Operand) (ho : o.op = .load T x) (g : Nat) {t : TypeId} {cs : Array Value} (hx : a.eval x = .pointer (some ⟨g, 0, none⟩)) {n : Nat} (hT : RowTy P T n) (hb : BlkIs w g t cs) (hn : cs.size = n)
    (h : wpList P ops Q rest (a.put o.dst (.agg cs)) w) : wpList P ops Q (o :: rest) a w :=
  wpList_step fun K hK => by
    rw [if_pos hw]
    exact oper_loadW T x ho g hx hT hb hn (hK _ _ h)

section
variable (e : Nat) (i p : Int) (f : Bool) (z : Int) (n : Nat) (A : Option Addr) (k : Nat) (y : List UInt8) (A1 : Option Addr) (k1 : Nat) (l : List UInt8) (w : World)
set_option maxRecDepth 100000 in
set_option maxHeartbeats 4000000 in
theorem lawBytes_long (hin : InB w w.heap.size A k y) (hl : InB w w.heap.size A1 k1 l) (h : 600 < y.length ∨ (¬ 600 < y.length ∧ 700 < l.length)) :
    Calls Try.prog 15 #[.agg (frCells e i p f z n A y.length k), .slice A1 l.length k1] w fun e w' => e = .returned (.bool true) ∧ Below w.heap.size w w' := by
  have hB0 : Below w.heap.size w (w.alloc (.cells (frCells e i p f z n A y.length k) 120)) := (Below.refl _ w).alloc (Nat.le_refl _) _
  unfold frCells at *
  have h' : (600 : Int) < (y.length : Int) ∨ (¬ (600 : Int) < (y.length : Int) ∧ (700 : Int) < (l.length : Int)) := by omega
  clear h
  rcases h' with h1 | ⟨h1, h2⟩
  all_goals
    go_enter Try.func15, Try.ntmps15
    go_wp2_with (go_at_call 62; refine (works5_gives _).mono ?_; rintro x W6 ⟨rfl, hB⟩)
    go_ret
    exact ⟨rfl, hB0.trans (hB.mono hB0.size)⟩

set_option maxRecDepth 100000 in
set_option maxHeartbeats 16000000 in
theorem lawBytes_core (hin : InB w w.heap.size A k y) (hl : InB w w.heap.size A1 k1 l) (h1 : ¬ (600 : Int) < (y.length : Int)) (h2 : ¬ (700 : Int) < (l.length : Int)) (X : List UInt8) (r : Int) (S : Nat) (e9 i9 p9 : Int) (f9 : Bool) (z9 n9 : Int) (L9 : List UInt8) (r9 : Int)
    (E1 : ∀ W, InB W W.heap.size A k y → Calls Try.prog 74 #[.agg (frCells e i p f z n A y.length k)] W (GivesBE W X r))
    (E2 : ∀ W, InB W W.heap.size A k y → Calls Try.prog 75 #[.agg (frCells e i p f z n A y.length k)] W (GivesBE W X r))
    (S1 : ∀ W, InB W W.heap.size A k y → Calls Try.prog 79 #[.agg (frCells e i p f z n A y.length k)] W fun x w' => x = .returned (.tuple #[.int .u32 (S : Int), .int .i64 r]) ∧ Below W.heap.size W w')
    (S2 : ∀ W, InB W W.heap.size A k y → Calls Try.prog 80 #[.agg (frCells e i p f z n A y.length k)] W fun x w' => x = .returned (.tuple #[.int .u32 (S : Int), .int .i64 r]) ∧ Below W.heap.size W w')
    (D9 : ∀ W A c, InB W W.heap.size A c X → Calls Try.prog 76 #[.slice A X.length c] W (FrForm e9 i9 p9 f9 z9 n9 L9 r9 W))
    (hr : ((r == 0) = false ∧ (r != 0) = true) ∨ (r = 0 ∧ r9 = 0 ∧ e9 = e ∧ i9 = i ∧ p9 = p ∧ f9 = f ∧ z9 = z ∧ n9 = n ∧ L9 = y)) :
    Calls Try.prog 15 #[.agg (frCells e i p f z n A y.length k), .slice A1 l.length k1] w fun e w' => e = .returned (.bool true) ∧ Below w.heap.size w w' := by
  obtain ⟨e0, i0, p0, f0, z0, n0, L, r0, hF⟩ := givesFr_form l
  have D1 := fun W A c h => (decode_gives W A c l h).mono (hF W)
  have D2 := fun W A c h => (refDecode_gives W A c l h).mono (hF W)
  have hB0 : Below w.heap.size w (w.alloc (.cells (frCells e i p f z n A y.length k) 120)) := (Below.refl _ w).alloc (Nat.le_refl _) _
  have hb0 := BlkIs.new w 120 (frCells e i p f z n A y.length k)
  have K0 : ∀ W, Below (w.alloc (.cells (frCells e i p f z n A y.length k) 120)).heap.size (w.alloc (.cells (frCells e i p f z n A y.length k) 120)) W → BlkIs W w.heap.size 120 (frCells e i p f z n A y.length k) ∧ InB W W.heap.size A k y ∧ InB W W.heap.size A1 k1 l := fun W hG =>
    ⟨hb0.below hG hb0.lt, (hin.below (hB0.trans (hG.mono hB0.size))).more (Nat.le_trans hB0.size hG.size), (hl.below (hB0.trans (hG.mono hB0.size))).more (Nat.le_trans hB0.size hG.size)⟩
  have one0 := fun A k => frCells_one e0.toNat i0 p0 f0 z0 n0.toNat A L.length k
  have one9 : ∀ A k, ∀ v ∈ (#[.int .u64 e9, .int .i64 i9, .int .i64 p9, .bool f9, .int .i64 z9, .int .u32 n9, .slice A L9.length k] : Array Value).toList, v.oneCell' = true := fun A k v hv => by
    simp at hv
    rcases hv with rfl | rfl | rfl | rfl | rfl | rfl | rfl <;> rfl
  have one1 : ∀ A k, ∀ v ∈ (#[.int .u64 e0, .int .i64 i0, .int .i64 p0, .bool f0, .int .i64 z0, .int .u32 n0, .slice A L.length k] : Array Value).toList, v.oneCell' = true := fun A k v hv => by
    simp at hv
    rcases hv with rfl | rfl | rfl | rfl | rfl | rfl | rfl <;> rfl
  have SM := fun W A A' k k' h h' => same5_gives e0 i0 p0 z0 n0 f0 A A' k k' L.length L rfl W h h'
  clear hF one0
  unfold frCells at *
  go_enter Try.func15, Try.ntmps15
  go_wp2_with (first
    | (go_at_call 74; refine (E1 _ (K0 _ (Below.refl _ _)).2.1).mono ?_; rintro x W1 ⟨A2, c2, rfl, hin2, hG1⟩; have hb1 := (K0 W1 hG1).1)
    | (go_at_call 75; refine (E2 _ (K0 W1 hG1).2.1).mono ?_; rintro x W2 ⟨A3, c3, rfl, hin3, hG⟩; have hG2 := hG1.trans (hG.mono hG1.size); replace hin2 := (hin2.below hG).more hG.size; clear hG hb1)
    | (go_at_call 76; first
      | ((with_reducible refine (D1 W2 A1 k1 (K0 W2 hG2).2.2).mono ?_); rintro x W3 ⟨A4, k4, rfl, hin4, hG⟩; have hG3 := hG2.trans (hG.mono hG2.size); replace hin2 := (hin2.below hG).more hG.size; replace hin3 := (hin3.below hG).more hG.size; clear hG)
      | (fail))
    | (refine wp_storeW rfl 120 (.tmp 9) (.tmp 42) rfl W3.heap.size rfl rfl rowFrame (BlkIs.new W3 120 #[.int .u64 0, .int .i64 0, .int .i64 0, .bool false, .int .i64 0, .int .u32 0, .slice none 0 0]) (by rfl) (by rfl) (one1 _ _) ?_)
    | (refine wp_loadW rfl 120 (.tmp 2) rfl w.heap.size rfl rowFrame (by with_reducible assumption) (by rfl) ?_))
  obtain ⟨hk4, hG⟩ := newRow W3 120 #[.int .u64 0, .int .i64 0, .int .i64 0, .bool false, .int .i64 0, .int .u32 0, .slice none 0 0] #[.int .u64 e0, .int .i64 i0, .int .i64 p0, .bool f0, .int .i64 z0, .int .u32 n0, .slice A4 L.length k4]
  have hG4 := hG3.trans (hG.mono hG3.size)
  replace hin2 := (hin2.below hG).more hG.size
  replace hin3 := (hin3.below hG).more hG.size
  replace hin4 := (hin4.below hG).more hG.size
  clear hG
  generalize (W3.alloc (.cells #[.int .u64 0, .int .i64 0, .int .i64 0, .bool false, .int .i64 0, .int .u32 0, .slice none 0 0] 120)).setRow W3.heap.size #[.int .u64 e0, .int .i64 i0, .int .i64 p0, .bool f0, .int .i64 z0, .int .u32 n0, .slice A4 L.length k4] = W4 at *
  generalize W3.heap.size = g4 at *
  go_wp2_with (first
    | (go_at_call 77; (with_reducible refine (D2 W4 A1 k1 (K0 W4 hG4).2.2).mono ?_); rintro x W5 ⟨A6, k6, rfl, hin6, hG⟩; have hG5 := hG4.trans (hG.mono hG4.size); replace hin2 := (hin2.below hG).more hG.size; replace hin3 := (hin3.below hG).more hG.size; replace hin4 := (hin4.below hG).more hG.size; replace hk4 := hk4.below hG hk4.lt; clear hG)
    | (refine wp_storeW rfl 120 (.tmp 11) (.tmp 47) rfl W5.heap.size rfl rfl rowFrame (BlkIs.new W5 120 #[.int .u64 0, .int .i64 0, .int .i64 0, .bool false, .int .i64 0, .int .u32 0, .slice none 0 0]) (by rfl) (by rfl) (one1 _ _) ?_; obtain ⟨hk6, hG⟩ := newRow W5 120 #[.int .u64 0, .int .i64 0, .int .i64 0, .bool false, .int .i64 0, .int .u32 0, .slice none 0 0] #[.int .u64 e0, .int .i64 i0, .int .i64 p0, .bool f0, .int .i64 z0, .int .u32 n0, .slice A6 L.length k6]; have hG6 := hG5.trans (hG.mono hG5.size); replace hin2 := (hin2.below hG).more hG.size; replace hin3 := (hin3.below hG).more hG.size; replace hin4 := (hin4.below hG).more hG.size; replace hin6 := (hin6.below hG).more hG.size; replace hk4 := hk4.below hG hk4.lt; clear hG; have hst2 := hin2.string; have hst3 := hin3.string; have SM6 := SM _ _ _ _ _ hin4 hin6)
    | (go_at_call 60; refine (num5_gives _ _).mono ?_; rintro x w' ⟨rfl, rfl⟩)
    | (refine wp_loadWG (by rfl) 120 (.tmp 9) rfl g4 rfl rowFrame (by with_reducible assumption) (by rfl) ?_)
    | (refine wp_loadWG (by rfl) 120 (.tmp 11) rfl W5.heap.size rfl rowFrame (by with_reducible assumption) (by rfl) ?_)
    | (go_at_call 78; refine SM6.mono ?_; rintro x W7 ⟨rfl, hG⟩; have hG7 := hG6.trans (hG.mono hG6.size); replace hin2 := (hin2.below hG).more hG.size; clear SM6 hst2 hst3 hin3 hin4 hin6 hk4 hk6 hG)
    | (go_at_call 76; refine (D9 W7 A2 c2 hin2).mono ?_; rintro x W8 ⟨A8, k8, rfl, hin8, hG⟩; have hG8 := hG7.trans (hG.mono hG7.size); clear hG)
    | (refine wp_storeW rfl 120 (.tmp 13) (.tmp 75) rfl W8.heap.size rfl rfl rowFrame (BlkIs.new W8 120 #[.int .u64 0, .int .i64 0, .int .i64 0, .bool false, .int .i64 0, .int .u32 0, .slice none 0 0]) (by rfl) (by rfl) (one9 _ _) ?_; obtain ⟨hk9, hG⟩ := newRow W8 120 #[.int .u64 0, .int .i64 0, .int .i64 0, .bool false, .int .i64 0, .int .u32 0, .slice none 0 0] #[.int .u64 e9, .int .i64 i9, .int .i64 p9, .bool f9, .int .i64 z9, .int .u32 n9, .slice A8 L9.length k8]; have hG9 := hG8.trans (hG.mono hG8.size); replace hin8 := (hin8.below hG).more hG.size; have hb9 := (K0 _ hG9).1; clear hG)
    | (refine wp_loadW rfl 120 (.tmp 2) rfl w.heap.size rfl rowFrame (by with_reducible assumption) (by rfl) ?_)
    | (go_at_call 79; refine (S1 _ (K0 _ hG9).2.1).mono ?_; rintro x W10 ⟨rfl, hG⟩; have hG10 := hG9.trans (hG.mono hG9.size); replace hin8 := (hin8.below hG).more hG.size; replace hk9 := hk9.below hG hk9.lt; have hb10 := (K0 _ hG10).1; clear hG hb9))
  refine (S2 _ (K0 _ hG10).2.1).mono ?_
  rintro x W11 ⟨rfl, hG⟩
  have hG11 := hG10.trans (hG.mono hG10.size)
  replace hin8 := (hin8.below hG).more hG.size
  replace hk9 := hk9.below hG hk9.lt
  have hb11 := (K0 _ hG11).1
  have hy11 := (K0 _ hG11).2.1
  have hB11 : Below w.heap.size w W11 := hB0.trans (hG11.mono hB0.size)
  clear hG hb10 S1 S2 E1 E2 D1 D2 D9 SM K0
  rcases hr with ⟨q1, q2⟩ | ⟨rfl, rfl, rfl, rfl, rfl, rfl, rfl, rfl, rfl⟩
  · go_wp2_with (first
      | (go_at_call 60; refine (num5_gives _ _).mono ?_; rintro x w' ⟨rfl, rfl⟩)
      | (go_at_call 62; refine (works5_gives _).mono ?_; rintro x W12 ⟨rfl, hB⟩))
    go_ret
    exact ⟨rfl, hB11.trans (hB.mono hB11.size)⟩
  · have SM := same5_gives e i9 p9 z9 n f9 A8 A k8 k L9.length L9 rfl W11 hin8 hy11
    go_wp2_with (first
      | (go_at_call 60; refine (num5_gives _ _).mono ?_; rintro x w' ⟨rfl, rfl⟩)
      | (refine wp_loadWG (by rfl) 120 (.tmp 13) rfl W8.heap.size rfl rowFrame hk9 (by rfl) ?_)
      | (refine wp_loadWG (by rfl) 120 (.tmp 2) rfl w.heap.size rfl rowFrame hb11 (by rfl) ?_)
      | (go_at_call 78; refine SM.mono ?_; rintro x W12 ⟨rfl, hB12⟩)
      | (go_at_call 62; refine (works5_gives _).mono ?_; rintro x W13 ⟨rfl, hB⟩))
    go_ret
    have hB12' := hB11.trans (hB12.mono hB11.size)
    exact ⟨rfl, hB12'.trans (hB.mono hB12'.size)⟩
end
theorem lawBytes_walk (e : Nat) (i p : Int) (f : Bool) (z : Int) (n : Nat) (A : Option Addr) (k : Nat) (y : List UInt8) (A1 : Option Addr) (k1 : Nat) (l : List UInt8) (w : World) (he : e < 2 ^ 64) (hn : n < 2 ^ 32) (hin : InB w w.heap.size A k y) (hl : InB w w.heap.size A1 k1 l) :
    Calls Try.prog 15 #[.agg (frCells e i p f z n A y.length k), .slice A1 l.length k1] w fun e w' => e = .returned (.bool true) ∧ Below w.heap.size w w' := by
  by_cases h1 : 600 < y.length
  · exact lawBytes_long e i p f z n A k y A1 k1 l w hin hl (.inl h1)
  by_cases h2 : 700 < l.length
  · exact lawBytes_long e i p f z n A k y A1 k1 l w hin hl (.inr ⟨h1, h2⟩)
  have E1 := fun W h => encode_gives e i p f z n A k y W h
  have E2 := fun W h => refEncode_gives e i p f z n A k y W h he hn
  have S1 := fun W h => fsum_gives e i p f z n A k y W h
  have S2 := fun W h => refSum5_gives e i p f z n A k y W h he hn
  cases hk : frOk y.length i p f z with
  | false =>
    have q1 : fEnc e i p f z n y = [] := by simp [fEnc, hk]
    have q2 : fErr i p f z y = 2 := by simp [fErr, hk]
    rw [q1, q2] at E1 E2
    rw [q2] at S1 S2
    exact lawBytes_core e i p f z n A k y A1 k1 l w hin hl (by omega) (by omega) [] 2 _ _ _ _ _ _ _ _ _ E1 E2 S1 S2
      (fun W A c h => (decode_gives W A c [] h).mono fun x w' hg => givesFr_no (by simp [isFrame]) hg) (.inl ⟨rfl, rfl⟩)
  | true =>
    obtain ⟨hy, ⟨hi0, hi1⟩, ⟨hp0, hp1⟩, ⟨hz0, hz1⟩, _⟩ := (frOk_iff _ _ _ _ _).1 hk
    obtain ⟨i, rfl⟩ : ∃ q : Nat, i = q := ⟨i.toNat, by omega⟩
    obtain ⟨p, rfl⟩ : ∃ q : Nat, p = q := ⟨p.toNat, by omega⟩
    obtain ⟨z, rfl⟩ : ∃ q : Nat, z = q := ⟨z.toNat, by omega⟩
    obtain ⟨q1, q2⟩ := fEnc_ok (e := e) (n := n) hk
    rw [q1, q2] at E1 E2
    rw [q2] at S1 S2
    obtain ⟨g0, g1, g2, g3, g4, g5, g6, g7⟩ := frameB_read he hn hk
    refine lawBytes_core e i p f z n A k y A1 k1 l w hin hl (by omega) (by omega) _ 0 _ _ _ _ _ _ _ _ _ E1 E2 S1 S2
      (fun W A c h => (decode_gives W A c _ h).mono fun x w' hg => givesFr_yes g0 hg) (.inr ⟨rfl, rfl, ?_, ?_, ?_, ?_, ?_, ?_, ?_⟩)
    · rw [g1]
    · rw [g2]
    · rw [g3]
    · rw [g4]
    · rw [g5]
    · rw [g6]
    · rw [g7]
end Go.Proofs.Ytlelckdcmlpmdaa
