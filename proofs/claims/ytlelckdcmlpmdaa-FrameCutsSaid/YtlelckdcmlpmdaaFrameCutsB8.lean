/- Texts that the proof of FrameCuts leans on, part 8. -/
import Derived.Test.YtlelckdcmlpmdaaFrameCutsB7
/- frame.Decode, of so many bytes as a frame has. -/
namespace Go.Proofs.Ytlelckdcmlpmdaa
open Go Go.RowKit Lou

theorem run_eq_nil {P : Program} (w : World) (t e : TypeId) (A : Option Addr) (n c : Nat) (ht : P.underlying t = some (.slice e)) : (binOp .eql t (.slice A n c) (.slice none 0 0)).run P w = .ok (.bool A.isNone) w := by
  have e1 : binOp .eql t (.slice A n c) (.slice none 0 0) = (do pure (.bool (← Op.equalIn (9999 + 1) t (.slice A n c) (.slice none 0 0)))) := rfl
  have h : (Op.equalIn (9999 + 1) t (.slice A n c) (.slice none 0 0)).run P w = .ok A.isNone w := by
    unfold Op.equalIn
    cases A <;> simp [run_underlying ht]
  rw [e1]
  simp only [Sem.run_bind, h, Result.andThen, Sem.run_pure]
set_option maxRecDepth 100000 in
set_option maxHeartbeats 1000000 in
theorem clone_gives (w : World) (A : Option Addr) (c : Nat) (l : List UInt8) (h : InB w w.heap.size A c l) (hl : l.length ≤ 100000000000) : Calls Try.prog 133 #[.slice A l.length c] w (GivesB w l) := by
  have hle := h.le
  rcases A with _ | ad
  · have hc := h.nil rfl
    subst hc
    obtain rfl : l = [] := List.eq_nil_of_length_eq_zero (by omega)
    have hq := fun W => run_eq_nil (P := Try.prog) W 30 5 none 0 0 Try.underlying30
    go_enter Try.func133, Try.ntmps133
    go_wp2
    go_ret
    exact ⟨_, rfl, OwnB.nil _ _, Below.refl _ _⟩
  · have e0 : OwnB (w.alloc (.cells #[] 5)) w.heap.size (.slice (some ⟨w.heap.size, 0, none⟩) 0 0) [] := World.ownsRow_lit w #[] 0 (Nat.le_refl _) (by unfold maxLen; omega) rfl
    have hB0 : Below w.heap.size w (w.alloc (.cells #[] 5)) := (Below.refl _ w).alloc (Nat.le_refl _) _
    have h1 := h.below hB0
    have hq := fun W => run_eq_nil (P := Try.prog) W 30 5 (some ad) l.length c Try.underlying30
    go_enter Try.func133, Try.ntmps133
    go_wp2_with (at_builtin; refine wp_appB rfl (.tmp 5) (.tmp 6) rfl w.heap.size (.slice (some ⟨w.heap.size, 0, none⟩) 0 0) [] rfl e0 _ (some ad) c l rfl h1 (by simp; omega) (by simp) ?_; intro v1 w1 own1 hg1)
    go_ret
    rw [List.nil_append] at own1
    exact ⟨_, rfl, own1, hB0.trans (grown_below hg1 hB0.size e0.ownGe)⟩

/-- What a frame's bytes are read as. -/
def fdE (b : List UInt8) : Nat := rfix (b.take 8)
def fdI (b : List UInt8) : Nat := rfix ((b.drop 8).take 4)
def fdP (b : List UInt8) : Nat := rfix ((b.drop 12).take 4)
def fdF (b : List UInt8) : Bool := b.getD 16 0 == 1
def fdZ (b : List UInt8) : Nat := rfix ((b.drop 17).take 4)
def fdL (b : List UInt8) : Nat := rfix ((b.drop 21).take 4)
def isFrame (b : List UInt8) : Bool := decide (b.length = 576) && (frOk 512 (fdI b) (fdP b) (fdF b) (fdZ b) && (sectB (partB (fdE b) (fdI b) (fdP b) (fdF b) (fdZ b) (fdL b)) (b.drop 64) == b.take 64))
def zeroFr : Array Value := #[.int .u64 0, .int .i64 0, .int .i64 0, .bool false, .int .i64 0, .int .u32 0, .slice none 0 0]
/-- What Decode gives of bytes. -/
def GivesFr (w0 : World) (l : List UInt8) (x : Ending) (w' : World) : Prop :=
  Below w0.heap.size w0 w' ∧ if isFrame l then ∃ A k, x = .returned (.tuple #[.agg (frCells (fdE l) (fdI l) (fdP l) (fdF l) (fdZ l) (fdL l) A 512 k), .int .i64 0]) ∧ InB w' w'.heap.size A k (l.drop 64) else x = .returned (.tuple #[.agg zeroFr, .int .i64 150])
theorem zeroFr_one : ∀ v ∈ zeroFr.toList, v.oneCell' = true := by
  intro v hv
  simp [zeroFr] at hv
  rcases hv with rfl | rfl | rfl | rfl | rfl | rfl <;> rfl
theorem frCells_one (e : Nat) (i p : Int) (f : Bool) (z : Int) (n : Nat) (A : Option Addr) (len k : Nat) : ∀ v ∈ (frCells e i p f z n A len k).toList, v.oneCell' = true := by
  intro v hv
  simp [frCells] at hv
  rcases hv with rfl | rfl | rfl | rfl | rfl | rfl | rfl <;> rfl

set_option maxRecDepth 100000 in
set_option maxHeartbeats 4000000 in
theorem decode_len (w : World) (A : Option Addr) (c : Nat) (l : List UInt8) (h : InB w w.heap.size A c l) (hl : l.length ≠ 576) :
    Calls Try.prog 76 #[.slice A l.length c] w (GivesFr w l) := by
  have hb0 := BlkIs.new w 120 zeroFr
  have hB0 : Below w.heap.size w (w.alloc (.cells zeroFr 120)) := (Below.refl _ w).alloc (Nat.le_refl _) _
  have hle := h.le
  have hmx := h.max
  have hno : isFrame l = false := by simp [isFrame, hl]
  have hG : ∀ x w', Below w.heap.size w w' → x = .returned (.tuple #[.agg zeroFr, .int .i64 150]) → GivesFr w l x w' := fun x w' hB hx => ⟨hB, by rw [hno]; exact hx⟩
  have hq : ((l.length : Int) == 576) = false := by simp; omega
  have hq2 : ((l.length : Int) != 576) = true := by simp; omega
  have hz1 := zeroFr_one
  clear hno hl
  unfold zeroFr at *
  go_enter Try.func76, Try.ntmps76
  go_wp2_with (first
    | (refine wp_loadW rfl 120 (.tmp 2) rfl w.heap.size rfl rowFrame hb0 (by rfl) ?_)
    | (refine wp_storeW rfl 120 (.tmp 2) (.tmp 8) rfl w.heap.size rfl rfl rowFrame hb0 (by rfl) (by rfl) hz1 ?_))
  exact bodyPost_ret_by (results_cellW_tmp 2 3 rfl rfl rfl rowFrame (hb0.setRow _) (by rfl)) rfl (hG _ _ (below_setRow hB0 (Nat.le_refl _) _) rfl)
end Go.Proofs.Ytlelckdcmlpmdaa
namespace Go.Proofs.Ytlelckdcmlpmdaa
open Go Go.RowKit Lou

theorem RdrAt.other {w : World} {g g' B : Nat} {A : Option Addr} {c : Nat} {l : List UInt8} (h : RdrAt w g A c l) (hin : InB w B A c l) (hB : B ≤ g') (hg : g' < g) (j : Nat) (u : Value) : RdrAt (w.setCell ⟨g', j, none⟩ u) g A c l :=
  ⟨h.blk.other (by simp; omega) u, (hin.keep fun p hp => World.cell?_setCell_other w _ _ _ (fun e => by subst e; simp at hp; omega)).more (by omega)⟩
theorem cut_toN {ρ : Operand → Value} {w : World} {o : Oper} {x y : Operand} {A : Option Addr} {n m c : Nat} (ho : o.op = .slice 30 x none (some y) none) (h1 : ρ x = .slice A n c) (h2 : ρ y = .int .i64 (m : Int)) (hm : m ≤ c) :
    (execOp ρ o).run Try.prog w = .ok (.value (.slice A m c)) w := by
  have ht : Try.prog.underlying 30 = some (.slice (Try.prog.elem 30)) := by kernel_rfl
  simp [execOp, ho, h1, h2, go_sem, run_sliceAt_slice _ _ _ _ _ _ ht, Result.andThen, hm]
namespace Reg
variable {L : List (Nat × Fact)} {ops : Array Oper} {w0 : World} {o : Oper} {P : Program}
theorem l_not (x : Operand) (v : Bool) {T : TypeId} (ho : o.op = .unOp .not T x) (hx : Has ops (FSof L) o x (.bool v)) (hd : FD L o.dst = .val (.bool !v)) : RunOk P ops (FSof L) w0 o :=
  run1 x hx (fun ρ w h => by simp [execOp, ho, h, go_sem, Result.andThen]) fun _ => fsd hd rfl
theorem l_neArr (x y : Operand) (T : TypeId) (xs ys : List UInt8) (hx1 : xs.length = 64) (hy1 : ys.length = 64) (ho : o.op = .binOp .neq 236 x y T) (hx : Has ops (FSof L) o x (.agg (xs.map b8).toArray)) (hy : Has ops (FSof L) o y (.agg (ys.map b8).toArray)) (hd : FD L o.dst = .val (.bool (xs != ys))) : RunOk Try.prog ops (FSof L) w0 o := by
  refine run2 x y hx hy (fun ρ w h1 h2 => ?_) fun _ => fsd hd rfl
  have he := run_equalIn_bytes (P := Try.prog) w 9998 236 5 64 Try.underlying236 Try.underlying5 (fun w => by simp [go_sem]) xs ys hx1 hy1
  have hr : (binOp .neq 236 (.agg (xs.map b8).toArray) (.agg (ys.map b8).toArray)).run Try.prog w = .ok (.bool (xs != ys)) w := by
    rw [run_neq_struct]
    have e : (Op.equalIn 10000 236 (.agg (xs.map b8).toArray) (.agg (ys.map b8).toArray)).run Try.prog w = .ok (xs == ys) w := he
    rw [e]
    rfl
  have hm : Try.prog.eqGuardType Try.prog.depth 236 = false := by kernel_rfl
  simp only [execOp, ho, h1, h2, Sem.run_bind, run_eqGuard_agg w .neq 236 x y _ _ hm, Result.andThen_ok, hr, Sem.run_pure]
end Reg
theorem setCell_grownBy (w : World) (p : Addr) (u : Value) : w.grownBy (w.setCell p u) (some p.block) := ⟨rfl, rfl, rfl, by simp, fun k _ hk => Below.heap_setCell w p u k (fun e => hk (by rw [e]))⟩
theorem OwnB.apart {w w' : World} {base : Nat} {v : Value} {l : List UInt8} (h : OwnB w base v l) {r : Nat} (hg : w.grownBy w' (some r)) (hr : r < base) : OwnB w' base v l :=
  World.ownsRow.kept h hg (by
    cases hb : v.ownBlock with
    | none => exact .inl rfl
    | some b => exact .inr (fun e => by injection e with e; have := h.ownGe b hb; omega))
theorem cutA_lt {b o c n : Nat} (h : n < c) : cutA (some ⟨b, o, none⟩) c n = some ⟨b, o + n, none⟩ := by
  unfold cutA
  rw [if_neg (by omega)]
  cases n <;> simp [Addr.add]
set_option maxRecDepth 100000 in
set_option maxHeartbeats 8000000 in
theorem decode_576 (w : World) (A : Option Addr) (c : Nat) (l : List UInt8) (h : InB w w.heap.size A c l) (hl : l.length = 576) :
    Calls Try.prog 76 #[.slice A 576 c] w (GivesFr w l) := by
  have hIn := h
  have hle := h.le
  have hmx := h.max
  rw [hl] at hle
  have hle' : (576 : Int) ≤ (c : Int) := by omega
  obtain ⟨b, o, rfl, hbs, hcs⟩ := h.lies (by omega)
  have hb0 := (BlkIs.new w 120 zeroFr).alloc (.cells #[.slice (some ⟨b, o, none⟩) 576 c] 242)
  have hB0 : Below w.heap.size w ((w.alloc (.cells zeroFr 120)).alloc (.cells #[.slice (some ⟨b, o, none⟩) 576 c] 242)) := ((Below.refl _ w).alloc (Nat.le_refl _) _).alloc (by simp) _
  have hr0 : RdrAt ((w.alloc (.cells zeroFr 120)).alloc (.cells #[.slice (some ⟨b, o, none⟩) 576 c] 242)) (w.heap.size + 1) (some ⟨b, o, none⟩) c l := by
    refine ⟨?_, (h.below hB0).more (by omega)⟩
    have := BlkIs.new (w.alloc (.cells zeroFr 120)) 242 #[.slice (some ⟨b, o, none⟩) 576 c]
    rw [World.size_alloc] at this
    rw [hl]
    exact this
  have HL := Lib.hid hl
  have hc16 : l.getD 16 0 = l[16]'(by rw [HL.out]; omega) := by simp [List.getD, List.getElem?_eq_getElem (show 16 < l.length by rw [HL.out]; omega)]
  clear hl
  unfold zeroFr at *
  go_enter Try.func76, Try.ntmps76
  go_wp2_with fail
  generalize (w.alloc (.cells #[.int .u64 0, .int .i64 0, .int .i64 0, .bool false, .int .i64 0, .int .u32 0, .slice none 0 0] 120)).alloc (.cells #[.slice (some ⟨b, o, none⟩) 576 c] 242) = W1 at *
  refine (number64_gives W1 _ _ c l hr0 (by have := HL.out; omega)).mono ?_
  rintro x W2 ⟨rfl, hr2, hb12⟩
  have hf2 := hb0.below hb12 (by omega)
  have hB2 : Below w.heap.size w W2 := hB0.trans (hb12.mono (by omega))
  clear hb0 hr0 hb12 hB0
  have hcl2 : W2.cell? ⟨w.heap.size, 0, none⟩ = some (.int .u64 0) := by rw [hf2.cell]; rfl
  have hfr2 := hf2.free 0
  have hdr : ∀ n, n ≤ 576 → n < c → ∀ W, Below w.heap.size w W → InB W w.heap.size (some ⟨b, o + n, none⟩) (c - n) (l.drop n) := fun n hn hc W hB => (h.below hB).dropAt n (by rw [HL.out]; exact hn) hc
  rw [cutA_lt (by omega)] at hr2
  have hr3 := hr2.other (hdr 8 (by omega) (by omega) _ hB2) (Nat.le_refl _) (by omega) 0 (.int .u64 (rfix (l.take 8) : Int))
  have hf3 := hf2.set 0 (.int .u64 (rfix (l.take 8) : Int))
  have hB3 : Below w.heap.size w (W2.setCell ⟨w.heap.size, 0, none⟩ (.int .u64 (rfix (l.take 8) : Int))) := hB2.setCell (p := ⟨w.heap.size, 0, none⟩) (Nat.le_refl _) _
  clear hf2 hB2 hr2
  go_wp2_with fail
  generalize W2.setCell ⟨w.heap.size, 0, none⟩ (.int .u64 (rfix (l.take 8) : Int)) = W3 at *
  have ez : (#[.int .u64 0, .int .i64 0, .int .i64 0, .bool false, .int .i64 0, .int .u32 0, .slice none 0 0] : Array Value).setIfInBounds 0 (.int .u64 (rfix (l.take 8) : Int)) = #[.int .u64 (rfix (l.take 8) : Int), .int .i64 0, .int .i64 0, .bool false, .int .i64 0, .int .u32 0, .slice none 0 0] := rfl
  rw [ez] at hf3
  clear ez hcl2 hfr2
  refine (number32_gives W3 _ _ _ _ hr3 (by rw [List.length_drop, HL.out]; omega)).mono ?_
  rintro x W4 ⟨rfl, hr4, hb34⟩
  rw [List.drop_drop, cutA_lt (by omega)] at hr4
  have hf4 := hf3.below hb34 (by omega)
  have hB4 : Below w.heap.size w W4 := hB3.trans (hb34.mono (by omega))
  have hi4 := rfix_take4 (l.drop 8)
  have hiw : IntKind.i64.wrap (rfix ((l.drop 8).take 4) : Int) = (rfix ((l.drop 8).take 4) : Int) := wrap_i64_fr _ (by omega) (by omega)
  clear hf3 hr3 hb34 hB3
  go_wp2_with fail
  refine (number32_gives W4 _ _ _ _ hr4 (by rw [List.length_drop, HL.out]; omega)).mono ?_
  rintro x W5 ⟨rfl, hr5, hb45⟩
  rw [List.drop_drop, cutA_lt (by omega)] at hr5
  have hf5 := hf4.below hb45 (by omega)
  have hB5 : Below w.heap.size w W5 := hB4.trans (hb45.mono (by omega))
  have hp4 := rfix_take4 (l.drop (8 + 4))
  have hpw : IntKind.i64.wrap (rfix ((l.drop (8 + 4)).take 4) : Int) = (rfix ((l.drop (8 + 4)).take 4) : Int) := wrap_i64_fr _ (by omega) (by omega)
  have hpw2 : IntKind.i64.wrap (rfix ((l.drop 12).take 4) : Int) = (rfix ((l.drop 12).take 4) : Int) := hpw
  clear hf4 hr4 hb45 hB4
  have hcl1 : W5.cell? ⟨w.heap.size, 1, none⟩ = some (.int .i64 0) := by rw [hf5.cell]; rfl
  have hcl2 : W5.cell? ⟨w.heap.size, 2, none⟩ = some (.int .i64 0) := by rw [hf5.cell]; rfl
  have hfr1 := hf5.free 1
  have hfr2 := hf5.free 2
  go_wp2_with fail
  have hf6 : BlkIs ((W5.setCell ⟨w.heap.size, 1, none⟩ (.int .i64 (rfix ((l.drop 8).take 4) : Int))).setCell ⟨w.heap.size, 2, none⟩ (.int .i64 (rfix ((l.drop 12).take 4) : Int))) w.heap.size 120 #[.int .u64 (rfix (l.take 8) : Int), .int .i64 (rfix ((l.drop 8).take 4) : Int), .int .i64 (rfix ((l.drop 12).take 4) : Int), .bool false, .int .i64 0, .int .u32 0, .slice none 0 0] := (hf5.set 1 _).set 2 _
  have hB5' : Below w.heap.size w (W5.setCell ⟨w.heap.size, 1, none⟩ (.int .i64 (rfix ((l.drop 8).take 4) : Int))) := hB5.setCell (p := ⟨w.heap.size, 1, none⟩) (Nat.le_refl _) _
  have hB6 : Below w.heap.size w ((W5.setCell ⟨w.heap.size, 1, none⟩ (.int .i64 (rfix ((l.drop 8).take 4) : Int))).setCell ⟨w.heap.size, 2, none⟩ (.int .i64 (rfix ((l.drop 12).take 4) : Int))) := hB5'.setCell (p := ⟨w.heap.size, 2, none⟩) (Nat.le_refl _) _
  have hd5 := hdr 16 (by omega) (by omega)
  have ea : ∀ m, m + 8 = 16 → True := fun _ _ => trivial
  have hr6 := (hr5.other (hd5 _ hB5) (Nat.le_refl _) (by omega) 1 (.int .i64 (rfix ((l.drop 8).take 4) : Int))).other (hd5 _ hB5') (Nat.le_refl _) (by omega) 2 (.int .i64 (rfix ((l.drop 12).take 4) : Int))
  clear hf5 hr5 hB5 hB5' hcl1 hcl2 hfr1 hfr2 ea
  generalize ((W5.setCell ⟨w.heap.size, 1, none⟩ (.int .i64 (rfix ((l.drop 8).take 4) : Int))).setCell ⟨w.heap.size, 2, none⟩ (.int .i64 (rfix ((l.drop 12).take 4) : Int))) = W6 at *
  simp only [Nat.add_assoc, Nat.reduceAdd, Nat.sub_sub] at hr6
  have hl16 : (l.drop 16).length = 560 := by rw [List.length_drop, HL.out]
  have T := ftake_gives W6 (w.heap.size + 1) 0 (some ⟨b, o + 16, none⟩) 560 (c - 16) 1 (by omega) (by omega) (by omega) (by rw [hr6.blk.cell, hl16]; rfl) (hr6.blk.free 0)
  have hr7 := hr6.cut 1 (by rw [hl16]; omega)
  rw [hl16, List.drop_drop] at hr7
  have hf7 := hf6.other (p := ⟨w.heap.size + 1, 0, none⟩) (by simp) (.slice (cutA (some ⟨b, o + 16, none⟩) (c - 16) 1) (560 - 1) (c - 16 - 1))
  have hB7 : Below w.heap.size w (W6.setCell ⟨w.heap.size + 1, 0, none⟩ (.slice (cutA (some ⟨b, o + 16, none⟩) (c - 16) 1) (560 - 1) (c - 16 - 1))) := hB6.setCell (p := ⟨w.heap.size + 1, 0, none⟩) (by simp) _
  refine T.mono ?_
  rintro x w' ⟨rfl, rfl⟩
  clear T hf6 hB6 hr6 hl16
  generalize W6.setCell ⟨w.heap.size + 1, 0, none⟩ (.slice (cutA (some ⟨b, o + 16, none⟩) (c - 16) 1) (560 - 1) (c - 16 - 1)) = W7 at *
  rw [cutA_lt (by omega)] at hr7
  simp only [Nat.add_assoc, Nat.reduceAdd, Nat.sub_sub] at hr7
  have hcl3 : W7.cell? ⟨w.heap.size, 3, none⟩ = some (.bool false) := by rw [hf7.cell]; rfl
  have hfr3 := hf7.free 3
  have hcb : W7.cell? ⟨b, o + 16, none⟩ = some (.int .u8 ((l.getD 16 0).toNat : Int)) := by
    rw [hB7.cell (p := ⟨b, o + 16, none⟩) hbs, hcs 16 (by rw [HL.out]; omega), hc16]
  have hq : (((l.getD 16 0).toNat : Int) == 1) = fdF l := by
    unfold fdF
    rw [Bool.eq_iff_iff]
    simp only [beq_iff_eq]
    constructor
    · intro e
      exact UInt8.toNat_inj.1 (by rw [show (1 : UInt8).toNat = 1 from rfl]; omega)
    · intro e
      rw [e]
      rfl
  generalize l.getD 16 0 = c16 at *
  clear hc16
  obtain ⟨fl, hfl⟩ : ∃ fl, fdF l = fl := ⟨_, rfl⟩
  rw [hfl] at hq
  have hflq := Lib.hid hfl
  clear hfl
  go_wp2_with fail
  have hf8 : BlkIs (W7.setCell ⟨w.heap.size, 3, none⟩ (.bool fl)) w.heap.size 120 #[.int .u64 (rfix (l.take 8) : Int), .int .i64 (rfix ((l.drop 8).take 4) : Int), .int .i64 (rfix ((l.drop 12).take 4) : Int), .bool fl, .int .i64 0, .int .u32 0, .slice none 0 0] := hf7.set 3 _
  have hB8 : Below w.heap.size w (W7.setCell ⟨w.heap.size, 3, none⟩ (.bool fl)) := hB7.setCell (p := ⟨w.heap.size, 3, none⟩) (Nat.le_refl _) _
  have hr8 := hr7.other (hdr 17 (by omega) (by omega) _ hB7) (Nat.le_refl _) (by omega) 3 (.bool fl)
  generalize W7.setCell ⟨w.heap.size, 3, none⟩ (.bool fl) = W8 at *
  clear hf7 hB7 hr7 hcl3 hfr3 hcb hq
  have h17 : (l.drop 17).length = 559 := by rw [List.length_drop, HL.out]
  have hz4 := rfix_take4 (l.drop 17)
  have hzw : IntKind.i64.wrap (rfix ((l.drop 17).take 4) : Int) = (rfix ((l.drop 17).take 4) : Int) := wrap_i64_fr _ (by omega) (by omega)
  have N1 := number32_gives W8.drew (w.heap.size + 1) _ _ _ ⟨hr8.blk.drew, hr8.inb.drew⟩ (by rw [h17]; omega)
  have hl64 : (l.drop 64).length = 512 := by rw [List.length_drop, HL.out]
  have HL64 := Lib.hid hl64
  have s8 := hB8.size
  clear hl64 h17 hr8
  go_region_held3 (fun _ => True) (trivial) (first
    | (go_at_call 139; first
      | ((with_reducible refine N1.mono ?_); rintro x W9 ⟨rfl, hr9, hb9⟩; have hf9 := hf8.drew.below hb9 (by omega); have hB9 : Below w.heap.size w W9 := hB8.drew.trans (hb9.mono (by omega)); rw [List.drop_drop, cutA_lt (by omega)] at hr9; simp only [Nat.add_assoc, Nat.reduceAdd, Nat.sub_sub] at hr9)
      | (revert hr9; intro hr9; refine (number32_gives W9 _ _ _ _ hr9 (by rw [List.length_drop, HL.out]; omega)).mono ?_; rintro x W10 ⟨rfl, hr10, hb10⟩; have hf10 := hf9.below hb10 (by omega); have hB10 : Below w.heap.size w W10 := hB9.trans (hb10.mono (by omega)); have C10 := clone_gives W10 _ _ _ ((hdr 64 (by omega) (by omega) W10 hB10).more hB10.size) (by rw [HL64.out]; omega); rw [HL64.out] at C10))
    | (go_at_call 133; refine C10.mono ?_; rintro x W11 ⟨v11, rfl, own11, hB⟩; have hf11 := hf10.below hB hf10.lt; have hB11 := hB10.trans (hB.mono hB10.size); have hc4 : W11.cell? ⟨w.heap.size, 4, none⟩ = some (.int .i64 0) := (by rw [hf11.cell]; rfl); have hc5 : W11.cell? ⟨w.heap.size, 5, none⟩ = some (.int .u32 0) := (by rw [hf11.cell]; rfl); have hc6 : W11.cell? ⟨w.heap.size, 6, none⟩ = some (.slice none 0 0) := (by rw [hf11.cell]; rfl); have hg4 := hf11.free 4; have hg5 := hf11.free 5; have hg6 := hf11.free 6; obtain ⟨A11, c11, rfl, hin11⟩ := own11.inB; rw [HL64.out] at own11 ⊢))
  have s10 := hB10.size
  have hwlt : w.heap.size < W10.heap.size := hf10.lt
  have hf12 : BlkIs (((W11.setCell ⟨w.heap.size, 4, none⟩ (.int .i64 (rfix ((l.drop 17).take 4) : Int))).setCell ⟨w.heap.size, 5, none⟩ (.int .u32 (rfix ((l.drop 21).take 4) : Int))).setCell ⟨w.heap.size, 6, none⟩ (.slice A11 512 c11)) w.heap.size 120 #[.int .u64 (rfix (l.take 8) : Int), .int .i64 (rfix ((l.drop 8).take 4) : Int), .int .i64 (rfix ((l.drop 12).take 4) : Int), .bool fl, .int .i64 (rfix ((l.drop 17).take 4) : Int), .int .u32 (rfix ((l.drop 21).take 4) : Int), .slice A11 512 c11] := ((hf11.set 4 _).set 5 _).set 6 _
  have hB12 : Below w.heap.size w (((W11.setCell ⟨w.heap.size, 4, none⟩ (.int .i64 (rfix ((l.drop 17).take 4) : Int))).setCell ⟨w.heap.size, 5, none⟩ (.int .u32 (rfix ((l.drop 21).take 4) : Int))).setCell ⟨w.heap.size, 6, none⟩ (.slice A11 512 c11)) := ((hB11.setCell (p := ⟨w.heap.size, 4, none⟩) (Nat.le_refl _) _).setCell (p := ⟨w.heap.size, 5, none⟩) (Nat.le_refl _) _).setCell (p := ⟨w.heap.size, 6, none⟩) (Nat.le_refl _) _
  have own12 : OwnB (((W11.setCell ⟨w.heap.size, 4, none⟩ (.int .i64 (rfix ((l.drop 17).take 4) : Int))).setCell ⟨w.heap.size, 5, none⟩ (.int .u32 (rfix ((l.drop 21).take 4) : Int))).setCell ⟨w.heap.size, 6, none⟩ (.slice A11 512 c11)) W10.heap.size (.slice A11 512 c11) (l.drop 64) := ((own11.apart (setCell_grownBy W11 ⟨w.heap.size, 4, none⟩ _) hwlt).apart (setCell_grownBy _ ⟨w.heap.size, 5, none⟩ _) hwlt).apart (setCell_grownBy _ ⟨w.heap.size, 6, none⟩ _) hwlt
  generalize (((W11.setCell ⟨w.heap.size, 4, none⟩ (.int .i64 (rfix ((l.drop 17).take 4) : Int))).setCell ⟨w.heap.size, 5, none⟩ (.int .u32 (rfix ((l.drop 21).take 4) : Int))).setCell ⟨w.heap.size, 6, none⟩ (.slice A11 512 c11)) = W12 at *
  clear hf11 hB11 own11 hc4 hc5 hc6 hg4 hg5 hg6 hin11 hB C10 hf10 hB10 hr10 hb10 hf9 hB9 hr9 hb9 N1 hf8 hB8 s8 hzw hz4 hpw hpw2 hp4 hiw hi4 s10 hwlt
  go_wp2_with fail
  have hin12 : InB W12 W12.heap.size A11 c11 (l.drop 64) := by
    obtain ⟨A', c', e1, hh⟩ := own12.inB
    rw [HL64.out] at e1
    injection e1 with e2 e3 e4
    subst e2 e4
    exact hh
  have hT64 : (l.take 64).length = 64 := by rw [List.length_take, HL.out]; rfl
  have hGF : ∀ x w', Below w.heap.size w w' → (if isFrame l then ∃ A k, x = .returned (.tuple #[.agg (frCells (fdE l) (fdI l) (fdP l) (fdF l) (fdZ l) (fdL l) A 512 k), .int .i64 0]) ∧ InB w' w'.heap.size A k (l.drop 64) else x = .returned (.tuple #[.agg zeroFr, .int .i64 150])) → GivesFr w l x w' := fun x w' h1 h2 => ⟨h1, h2⟩
  have hFi : isFrame l = (frOk 512 (fdI l) (fdP l) (fdF l) (fdZ l) && (sectB (partB (fdE l) (fdI l) (fdP l) (fdF l) (fdZ l) (fdL l)) (l.drop 64) == l.take 64)) := by unfold isFrame; rw [HL.out]; rfl
  have eE : rfix (l.take 8) = fdE l := rfl
  have eI : rfix ((l.drop 8).take 4) = fdI l := rfl
  have eP : rfix ((l.drop 12).take 4) = fdP l := rfl
  have eZ : rfix ((l.drop 17).take 4) = fdZ l := rfl
  have eL : rfix ((l.drop 21).take 4) = fdL l := rfl
  rw [eE, eI, eP, eZ, eL] at hf12
  rw [eE, eI, eP, eZ, eL]
  clear eE eI eP eZ eL
  rw [hflq.out] at hFi hGF
  generalize fdE l = e at *
  generalize fdI l = i at *
  generalize fdP l = p at *
  generalize fdZ l = z at *
  generalize fdL l = n at *
  have HGF := Lib.hid hGF
  have HFi := Lib.hid hFi
  clear hGF hFi
  have s12 := hB12.size
  have hbs12 : b < W12.heap.size := by omega
  have hl2 : ∀ w', Grow W12 w' → (loadVar 120 ⟨w.heap.size, 0, none⟩).run Try.prog w' = .ok (.agg #[.int .u64 (e : Int), .int .i64 (i : Int), .int .i64 (p : Int), .bool fl, .int .i64 (z : Int), .int .u32 (n : Int), .slice A11 512 c11]) w' := fun w' hG => run_loadW rowFrame (hf12.below hG hf12.lt)
  have hin0 : InB W12 w.heap.size (some ⟨b, o, none⟩) c l := hIn.below hB12
  have hlb : ∀ w', Grow W12 w' → (loadVar 236 ⟨b, o, none⟩).run Try.prog w' = .ok (.agg ((l.take 64).map b8).toArray) w' := fun w' hG => by
    have hi := ((hin0.more s12).below hG).take 64 c (by rw [HL.out]; omega) (by omega) (Nat.le_refl _)
    refine run_loadVar_mid (P := Try.prog) w' b o 236 ((l.take 64).map b8) _ ?_ Try.underlying236 rfl (by simp only [List.length_map]; rw [hT64]; kernel_rfl)
    intro j v hj
    have hj2 : j < (l.take 64).length := by
      have := (List.getElem?_eq_some_iff.1 hj).1
      simpa using this
    obtain ⟨g', o', e1, _, hc⟩ := hi.lies (by omega)
    injection e1 with e1
    injection e1 with e1 e2
    subst e1 e2
    rw [hc j hj2]
    rw [List.getElem?_map, List.getElem?_eq_getElem hj2] at hj
    simpa [b8] using hj
  have hright0 := right_gives e i p fl z n A11 512 c11
  have hfront0 := front_gives e i p z n fl A11 c11 (l.drop 64)
  have hz1 := zeroFr_one
  have hfc := frCells_one e i p fl z n A11 512 c11
  unfold frCells at hright0 hfront0 HGF hfc
  unfold zeroFr at hz1 HGF
  cases hk : frOk 512 i p fl z with
  | false =>
    have hright := hright0
    rw [hk] at hright
    have hno : isFrame l = false := by rw [HFi.out, hk]; rfl
    open Reg in
    refine region_acts (by kernel_rfl) (by kernel_rfl) 57 rfl (by kernel_rfl) [43, 44, 45, 46, 47, 48, 49, 50, 51, 52, 53, 54] (by kernel_rfl)
      [(2, .val (.pointer (some ⟨w.heap.size, 0, none⟩))), (0, .val (.slice (some ⟨b, o, none⟩) 576 c))]
      [(43, .val (.agg #[.int .u64 (e : Int), .int .i64 (i : Int), .int .i64 (p : Int), .bool fl, .int .i64 (z : Int), .int .u32 (n : Int), .slice A11 512 c11])), (44, .val (.bool false)), (45, .val (.bool true)), (46, .val (.bool true)), (47, .any), (48, .any), (49, .any), (50, .any), (51, .any), (52, .any), (53, .any), (54, .val (.bool true))]
      ⟨rfl, rfl, trivial⟩ (by kernel_rfl)
      (allOk_cons (ok_none rfl (l_loadV (.tmp 2) (⟨w.heap.size, 0, none⟩) 120 (.agg #[.int .u64 (e : Int), .int .i64 (i : Int), .int .i64 (p : Int), .bool fl, .int .i64 (z : Int), .int .u32 (n : Int), .slice A11 512 c11]) rfl (hs 2 (.pointer (some ⟨w.heap.size, 0, none⟩)) (by kernel_rfl) (by kernel_rfl)) (fun w hg => hl2 w hg) (by kernel_rfl)))
      <| allOk_cons (ok_none rfl (l_call 140 _ _ rfl (enters_of Try.func140 (by kernel_rfl) rfl) #[.agg #[.int .u64 (e : Int), .int .i64 (i : Int), .int .i64 (p : Int), .bool fl, .int .i64 (z : Int), .int .u32 (n : Int), .slice A11 512 c11]] (.val (.bool false)) (args1 (hs 43 (.agg #[.int .u64 (e : Int), .int .i64 (i : Int), .int .i64 (p : Int), .bool fl, .int .i64 (z : Int), .int .u32 (n : Int), .slice A11 512 c11]) (by kernel_rfl) (by kernel_rfl))) (fun w hg => gives_grow (hright w)) (by kernel_rfl)))
      <| allOk_cons (ok_none rfl (l_not (.tmp 44) false rfl (hs 44 _ (by kernel_rfl) (by kernel_rfl)) (by kernel_rfl)))
      <| allOk_cons (ok_none rfl (l_mvF 45 (.val (.bool true)) (.inl rfl) (by kernel_rfl) (by kernel_rfl) (by kernel_rfl)))
      <| allOk_cons (okg_not 3 false 46 rfl (by kernel_rfl) (by kernel_rfl) (by kernel_rfl) (by kernel_rfl))
      <| allOk_cons (okg_not 3 false 46 rfl (by kernel_rfl) (by kernel_rfl) (by kernel_rfl) (by kernel_rfl))
      <| allOk_cons (okg_not 3 false 46 rfl (by kernel_rfl) (by kernel_rfl) (by kernel_rfl) (by kernel_rfl))
      <| allOk_cons (okg_not 3 false 46 rfl (by kernel_rfl) (by kernel_rfl) (by kernel_rfl) (by kernel_rfl))
      <| allOk_cons (okg_not 3 false 46 rfl (by kernel_rfl) (by kernel_rfl) (by kernel_rfl) (by kernel_rfl))
      <| allOk_cons (okg_not 3 false 46 rfl (by kernel_rfl) (by kernel_rfl) (by kernel_rfl) (by kernel_rfl))
      <| allOk_cons (okg_not 3 false 46 rfl (by kernel_rfl) (by kernel_rfl) (by kernel_rfl) (by kernel_rfl))
      <| allOk_cons (ok_none rfl (l_pickT (.tmp 46) (.const (.bool true)) (.tmp 53) (.bool true) rfl (hs 46 _ (by kernel_rfl) (by kernel_rfl)) (hc _) (by kernel_rfl)))
      <| allOk_nil) ?_
    intro a W13 hsz hdef hGW13 hF hU
    have e54 : a.eval (.tmp 54) = .bool true := hF 54
    have ha := Reg.acts_eq [43, 44, 45, 46, 47, 48, 49, 50, 51, 52, 53, 54] hsz hdef hU
    clear hF hU hdef
    simp only [List.foldl_cons, List.foldl_nil, e54] at ha
    clear e54 hsz
    generalize a.eval (.tmp 43) = v43 at *
    generalize a.eval (.tmp 44) = v44 at *
    generalize a.eval (.tmp 45) = v45 at *
    generalize a.eval (.tmp 46) = v46 at *
    generalize a.eval (.tmp 47) = v47 at *
    generalize a.eval (.tmp 48) = v48 at *
    generalize a.eval (.tmp 49) = v49 at *
    generalize a.eval (.tmp 50) = v50 at *
    generalize a.eval (.tmp 51) = v51 at *
    generalize a.eval (.tmp 52) = v52 at *
    generalize a.eval (.tmp 53) = v53 at *
    simp only [Act.put, List.setIfInBounds_toArray, List.set_cons_succ, List.set_cons_zero] at ha
    subst ha
    simp only [Exit.then]
    refine ‹∀ (a : Act) (w : World), Code.wp Try.prog _ _ a w → _› _ W13 ?_
    have hf13 := hf12.below hGW13 hf12.lt
    have hB13 : Below w.heap.size w W13 := hB12.trans (hGW13.mono s12)
    clear hright hright0 hfront0 hl2 hlb hfc
    go_wp2_with (refine wp_storeW rfl 120 (.tmp 2) (.tmp 55) rfl w.heap.size rfl rfl rowFrame hf13 (by rfl) (by rfl) hz1 ?_)
    refine bodyPost_ret_by (results_cellW_tmp 2 3 rfl rfl rfl rowFrame (hf13.setRow _) (by rfl)) rfl (HGF.out _ _ (below_setRow hB13 (Nat.le_refl _) _) ?_)
    rw [hno]
    rfl
  | true =>
    obtain ⟨_, ⟨_, hi1⟩, ⟨_, hp1⟩, ⟨_, hz2⟩, _⟩ := (frOk_iff _ _ _ _ _).1 hk
    have hright := hright0
    rw [hk] at hright
    have hfront := fun w' (hG : Grow W12 w') => hfront0 w' (by omega) (by omega) (by omega) ((hin12.below hG).more hG.size) HL64.out
    rw [HL64.out] at hfront
    have hyes : isFrame l = (sectB (partB e i p fl z n) (l.drop 64) == l.take 64) := by rw [HFi.out, hk]; rfl
    have hFS : (sectB (partB e i p fl z n) (l.drop 64)).length = 64 := by rw [sectB_length, partB_length]
    generalize sectB (partB e i p fl z n) (l.drop 64) = FS at *
    generalize l.take 64 = T64 at *
    have HY := Lib.hid hyes
    have hc64 : 64 ≤ c := by omega
    clear hyes hk
    open Reg in
    refine region_acts (by kernel_rfl) (by kernel_rfl) 57 rfl (by kernel_rfl) [43, 44, 45, 46, 47, 48, 49, 50, 51, 52, 53, 54] (by kernel_rfl)
      [(2, .val (.pointer (some ⟨w.heap.size, 0, none⟩))), (0, .val (.slice (some ⟨b, o, none⟩) 576 c))]
      [(43, .val (.agg #[.int .u64 (e : Int), .int .i64 (i : Int), .int .i64 (p : Int), .bool fl, .int .i64 (z : Int), .int .u32 (n : Int), .slice A11 512 c11])), (44, .val (.bool true)), (45, .val (.bool false)), (46, .val (.bool false)), (47, .val (.agg #[.int .u64 (e : Int), .int .i64 (i : Int), .int .i64 (p : Int), .bool fl, .int .i64 (z : Int), .int .u32 (n : Int), .slice A11 512 c11])), (48, .val (.agg (FS.map b8).toArray)), (49, .val (.slice (some ⟨b, o, none⟩) 576 c)), (50, .val (.slice (some ⟨b, o, none⟩) 64 c)), (51, .val (.pointer (some ⟨b, o, none⟩))), (52, .val (.agg (T64.map b8).toArray)), (53, .val (.bool (FS != T64))), (54, .val (.bool (FS != T64)))]
      ⟨rfl, rfl, trivial⟩ (by kernel_rfl)
      (allOk_cons (ok_none rfl (l_loadV (.tmp 2) (⟨w.heap.size, 0, none⟩) 120 (.agg #[.int .u64 (e : Int), .int .i64 (i : Int), .int .i64 (p : Int), .bool fl, .int .i64 (z : Int), .int .u32 (n : Int), .slice A11 512 c11]) rfl (hs 2 (.pointer (some ⟨w.heap.size, 0, none⟩)) (by kernel_rfl) (by kernel_rfl)) (fun w hg => hl2 w hg) (by kernel_rfl)))
      <| allOk_cons (ok_none rfl (l_call 140 _ _ rfl (enters_of Try.func140 (by kernel_rfl) rfl) #[.agg #[.int .u64 (e : Int), .int .i64 (i : Int), .int .i64 (p : Int), .bool fl, .int .i64 (z : Int), .int .u32 (n : Int), .slice A11 512 c11]] (.val (.bool true)) (args1 (hs 43 (.agg #[.int .u64 (e : Int), .int .i64 (i : Int), .int .i64 (p : Int), .bool fl, .int .i64 (z : Int), .int .u32 (n : Int), .slice A11 512 c11]) (by kernel_rfl) (by kernel_rfl))) (fun w hg => gives_grow (hright w)) (by kernel_rfl)))
      <| allOk_cons (ok_none rfl (l_not (.tmp 44) true rfl (hs 44 _ (by kernel_rfl) (by kernel_rfl)) (by kernel_rfl)))
      <| allOk_cons (ok_none rfl (l_mvF 45 (.val (.bool false)) (.inl rfl) (by kernel_rfl) (by kernel_rfl) (by kernel_rfl)))
      <| allOk_cons (okg 3 false 46 rfl (by kernel_rfl) (by kernel_rfl) (by kernel_rfl) (l_loadV (.tmp 2) (⟨w.heap.size, 0, none⟩) 120 (.agg #[.int .u64 (e : Int), .int .i64 (i : Int), .int .i64 (p : Int), .bool fl, .int .i64 (z : Int), .int .u32 (n : Int), .slice A11 512 c11]) rfl (hs 2 (.pointer (some ⟨w.heap.size, 0, none⟩)) (by kernel_rfl) (by kernel_rfl)) (fun w hg => hl2 w hg) (by kernel_rfl)))
      <| allOk_cons (okg 3 false 46 rfl (by kernel_rfl) (by kernel_rfl) (by kernel_rfl) (l_call 141 _ _ rfl (enters_of Try.func141 (by kernel_rfl) rfl) #[.agg #[.int .u64 (e : Int), .int .i64 (i : Int), .int .i64 (p : Int), .bool fl, .int .i64 (z : Int), .int .u32 (n : Int), .slice A11 512 c11]] (.val (.agg (FS.map b8).toArray)) (args1 (hs 47 (.agg #[.int .u64 (e : Int), .int .i64 (i : Int), .int .i64 (p : Int), .bool fl, .int .i64 (z : Int), .int .u32 (n : Int), .slice A11 512 c11]) (by kernel_rfl) (by kernel_rfl))) (fun w hg => gives_grow (hfront w hg)) (by kernel_rfl)))
      <| allOk_cons (okg 3 false 46 rfl (by kernel_rfl) (by kernel_rfl) (by kernel_rfl) (l_mvF 0 (.val (.slice (some ⟨b, o, none⟩) 576 c)) (.inl rfl) (by kernel_rfl) (by kernel_rfl) (by kernel_rfl)))
      <| allOk_cons (okg 3 false 46 rfl (by kernel_rfl) (by kernel_rfl) (by kernel_rfl) (l_run2W (.tmp 49) (.const (.int .i64 64)) (.val (.slice (some ⟨b, o, none⟩) 64 c)) (.slice (some ⟨b, o, none⟩) 576 c) (.int .i64 ((64 : Nat) : Int)) (hs 49 _ (by kernel_rfl) (by kernel_rfl)) (hc _) (fun ρ w hg h1 h2 => ⟨_, w, cut_toN rfl h1 h2 hc64, Grow.refl _, rfl⟩) (by kernel_rfl)))
      <| allOk_cons (okg 3 false 46 rfl (by kernel_rfl) (by kernel_rfl) (by kernel_rfl) (l_s2a (.tmp 50) b o 64 c (by decide) rfl (hs 50 _ (by kernel_rfl) (by kernel_rfl)) (by kernel_rfl)))
      <| allOk_cons (okg 3 false 46 rfl (by kernel_rfl) (by kernel_rfl) (by kernel_rfl) (l_loadV (.tmp 51) (⟨b, o, none⟩) 236 (.agg (T64.map b8).toArray) rfl (hs 51 (.pointer (some ⟨b, o, none⟩)) (by kernel_rfl) (by kernel_rfl)) (fun w hg => hlb w hg) (by kernel_rfl)))
      <| allOk_cons (okg 3 false 46 rfl (by kernel_rfl) (by kernel_rfl) (by kernel_rfl) (l_neArr (.tmp 48) (.tmp 52) _ FS T64 hFS hT64 rfl (hs 48 _ (by kernel_rfl) (by kernel_rfl)) (hs 52 _ (by kernel_rfl) (by kernel_rfl)) (by kernel_rfl)))
      <| allOk_cons (ok_none rfl (l_pickF (.tmp 46) (.const (.bool true)) (.tmp 53) (.bool (FS != T64)) rfl (hs 46 _ (by kernel_rfl) (by kernel_rfl)) (hs 53 _ (by kernel_rfl) (by kernel_rfl)) (by kernel_rfl)))
      <| allOk_nil) ?_
    intro a W13 hsz hdef hGW13 hF hU
    have e54 : a.eval (.tmp 54) = .bool (FS != T64) := hF 54
    have ha := Reg.acts_eq [43, 44, 45, 46, 47, 48, 49, 50, 51, 52, 53, 54] hsz hdef hU
    clear hF hU hdef
    simp only [List.foldl_cons, List.foldl_nil, e54] at ha
    clear e54 hsz
    generalize a.eval (.tmp 43) = v43 at *
    generalize a.eval (.tmp 44) = v44 at *
    generalize a.eval (.tmp 45) = v45 at *
    generalize a.eval (.tmp 46) = v46 at *
    generalize a.eval (.tmp 47) = v47 at *
    generalize a.eval (.tmp 48) = v48 at *
    generalize a.eval (.tmp 49) = v49 at *
    generalize a.eval (.tmp 50) = v50 at *
    generalize a.eval (.tmp 51) = v51 at *
    generalize a.eval (.tmp 52) = v52 at *
    generalize a.eval (.tmp 53) = v53 at *
    simp only [Act.put, List.setIfInBounds_toArray, List.set_cons_succ, List.set_cons_zero] at ha
    subst ha
    simp only [Exit.then]
    refine ‹∀ (a : Act) (w : World), Code.wp Try.prog _ _ a w → _› _ W13 ?_
    have hf13 := hf12.below hGW13 hf12.lt
    have hB13 : Below w.heap.size w W13 := hB12.trans (hGW13.mono s12)
    have hin13 := (hin12.below hGW13).more hGW13.size
    clear hright hright0 hfront0 hfront hl2 hlb hT64 hFS
    have hbne : (FS != T64) = !(FS == T64) := rfl
    rw [hbne]
    cases hq : (FS == T64) with
    | false =>
      simp only [Bool.not_false]
      go_wp2_with (refine wp_storeW rfl 120 (.tmp 2) (.tmp 55) rfl w.heap.size rfl rfl rowFrame hf13 (by rfl) (by rfl) hz1 ?_)
      refine bodyPost_ret_by (results_cellW_tmp 2 3 rfl rfl rfl rowFrame (hf13.setRow _) (by rfl)) rfl (HGF.out _ _ (below_setRow hB13 (Nat.le_refl _) _) ?_)
      rw [HY.out, hq]
      rfl
    | true =>
      simp only [Bool.not_true]
      go_wp2_with (first
        | (refine wp_loadW rfl 120 (.tmp 2) rfl w.heap.size rfl rowFrame hf13 (by rfl) ?_)
        | (refine wp_storeW rfl 120 (.tmp 2) (.tmp 56) rfl w.heap.size rfl rfl rowFrame hf13 (by rfl) (by rfl) hfc ?_))
      have hself : W13.setRow w.heap.size #[.int .u64 (e : Int), .int .i64 (i : Int), .int .i64 (p : Int), .bool fl, .int .i64 (z : Int), .int .u32 (n : Int), .slice A11 512 c11] = W13 := setRow_self W13 _ _ _ _ hf13
      rw [hself]
      refine bodyPost_ret_by (results_cellW_tmp 2 3 rfl rfl rfl rowFrame hf13 (by rfl)) rfl (HGF.out _ _ hB13 ?_)
      rw [HY.out, hq]
      exact ⟨A11, c11, rfl, hin13⟩
theorem decode_gives (w : World) (A : Option Addr) (c : Nat) (l : List UInt8) (h : InB w w.heap.size A c l) :
    Calls Try.prog 76 #[.slice A l.length c] w (GivesFr w l) := by
  by_cases hl : l.length = 576
  · rw [hl]
    exact decode_576 w A c l h hl
  · exact decode_len w A c l h hl
end Go.Proofs.Ytlelckdcmlpmdaa
/- octet.Numbers: what its function goes through. -/
namespace Lou
/-- The numbers read in order from the start, and where the next would stand. -/
inductive Run (l : List UInt8) : List (Nat × Nat) → Nat → Prop
  | nil : Run l [] 0
  | snoc {pre : List (Nat × Nat)} {p v u : Nat} : Run l pre p → rd (l.drop p) = some (v, u) → Run l (pre ++ [(p, v)]) (p + u)
theorem Run.le {l : List UInt8} {pre : List (Nat × Nat)} {p : Nat} (h : Run l pre p) : pre.length ≤ p ∧ p ≤ l.length := by
  induction h with
  | nil => simp
  | snoc _ hr ih =>
    have := rd_bound hr
    simp at this ⊢
    omega
theorem Run.inv {l : List UInt8} {r : List (Nat × Nat)} {q : Nat} (h : Run l r q) : (r = [] ∧ q = 0) ∨ ∃ pre p v u, r = pre ++ [(p, v)] ∧ q = p + u ∧ Run l pre p ∧ rd (l.drop p) = some (v, u) := by
  cases h with
  | nil => exact .inl ⟨rfl, rfl⟩
  | snoc h hr => exact .inr ⟨_, _, _, _, rfl, rfl, h, hr⟩
theorem Run.det {l : List UInt8} {pre : List (Nat × Nat)} {p : Nat} (h : Run l pre p) : ∀ {q}, Run l pre q → p = q := by
  induction h with
  | nil =>
    intro q hq
    rcases hq.inv with ⟨_, e⟩ | ⟨pre, p, v, u, e, _⟩
    · exact e.symm
    · simp at e
  | snoc h hr ih =>
    intro q hq
    rcases hq.inv with ⟨e, _⟩ | ⟨pre', p', v', u', e, rfl, h', hr'⟩
    · simp at e
    · have e1 := List.append_inj' e rfl
      obtain ⟨rfl, e2⟩ := e1
      simp only [List.cons.injEq, Prod.mk.injEq, and_true] at e2
      obtain ⟨rfl, rfl⟩ := e2
      rw [hr] at hr'
      injection hr' with e3
      injection e3 with _ e4
      rw [e4]
/-- What stands next is the only one that goes on. -/
theorem Run.next {l : List UInt8} {pre : List (Nat × Nat)} {p : Nat} (h : Run l pre p) {x : Nat × Nat} {q : Nat} (h' : Run l (pre ++ [x]) q) : ∃ u, x.1 = p ∧ rd (l.drop p) = some (x.2, u) ∧ q = p + u := by
  rcases h'.inv with ⟨e, _⟩ | ⟨pre', p', v', u', e, rfl, h2, hr'⟩
  · simp at e
  · have e1 := List.append_inj' e rfl
    obtain ⟨rfl, e2⟩ := e1
    simp only [List.cons.injEq, and_true] at e2
    subst e2
    have := h.det h2
    subst this
    exact ⟨u', rfl, hr', rfl⟩
end Lou
namespace Go.Proofs.Ytlelckdcmlpmdaa
open Go Go.RowKit Lou Go.Shelf
attribute [local go_sem] Oper.semAt_some

theorem wrap_i64_id' (n : Int) (h0 : -9223372036854775808 ≤ n) (h1 : n < 9223372036854775808) : IntKind.i64.wrap n = n := by
  simp [IntKind.wrap, IntKind.bits, IntKind.signed]
  split <;> omega
theorem rdV_some' {l : List UInt8} {n k : Nat} (h : rd l = some (n, k)) : rdV l = .tuple #[.int .u64 n, .int .i64 k, .int .i64 0] := rdV_some h
theorem rdV_none' {l : List UInt8} (h : rd l = none) : ∃ e : Int, e ≠ 0 ∧ rdV l = .tuple #[.int .u64 0, .int .i64 0, .int .i64 e] := ⟨130, by decide, rdV_none h⟩

theorem wpIn_scope_wide {P : Program} {n : Nat} {c : Code} {Q : Exit → Act → World → Prop} {a : Act} {w : World} (h : c.wpIn Fence.wide n P (Exit.noGoto Q) a w) : (Code.scope c).wpIn Fence.wide n P Q a w := wpIn_wide.2 (wp_scope_straight (wpIn_wide.1 h))
section
variable {w0 : World} {n₀ : Nat}

set_option maxRecDepth 100000 in
set_option maxHeartbeats 2000000 in
theorem numbers1_in (n : Nat) (hn2 : 2 ≤ n) (l Bs : Nat) (A : Option Addr) (c : Nat) (b : List UInt8) (J Jx : List (Nat × Nat) → World → Prop)
    (hY : ∀ pre x W, J pre W → pre.length < b.length → YieldAt Fence.wide (n - 1) Try.prog l #[.int .i64 (x.1 : Int), .int .u64 (x.2 : Int)] W fun e W' =>
      (e = .returned (.bool true) ∧ J (pre ++ [x]) W' ∧ Below n₀ W W') ∨ (e = .returned (.bool false) ∧ Jx (pre ++ [x]) W'))
    (W : World) (hBn : Bs < n₀) (hBs : W.cell? ⟨Bs, 0, none⟩ = some (.slice A b.length c)) (hin : InB W n₀ A c b) (h0 : J [] W) :
    CallsIn Fence.wide n Try.prog 101 #[.func (.yield l) #[] #[], .pointer (some ⟨Bs, 0, none⟩)] W fun e W' => (∃ v, e = .returned v) ∧
      ((∃ ys, (∃ p, Run b ys p ∧ (p < b.length → rd (b.drop p) = none)) ∧ J ys W') ∨ (∃ pre, (∃ p, Run b pre p) ∧ Jx pre W')) := by
  have hle := hin.le
  have hmax := hin.max
  have h1 : 1 ≤ n := by omega
  refine callsIn_of_wp Try.func101 rfl trivial ?_ rfl
  simp only [Try.ntmps101, List.size_toArray, List.length_cons, List.length_nil, Nat.reduceAdd, Nat.reduceSub, Array.replicate_succ, Array.replicate_zero, List.push_toArray, List.append_toArray, List.nil_append, List.cons_append]
  refine wpIn_scope_wide ?_
  gi_wp2
  refine wpIn_label ?_
  gi_wp2
  gi_loopw [3] (fun i wr => ∃ (p : Nat) (pre : List (Nat × Nat)), p ≤ b.length ∧ i = .int .i64 p ∧ Run b pre p ∧ J pre wr ∧ Below n₀ W wr)
    (fun i _ => b.length - (intOf i).toNat)
  case atStart => exact ⟨0, [], Nat.zero_le _, rfl, .nil, h0, Below.refl _ _⟩
  case round =>
    obtain ⟨p, pre, hp, rfl, hrun, hJs, hnx⟩ := hrel
    have hcx : wr.cell? ⟨Bs, 0, none⟩ = some (.slice A b.length c) := (hnx.cell (p := ⟨Bs, 0, none⟩) hBn).trans hBs
    by_cases hlt : p < b.length
    · have hcm : cutA A c p = Option.map (fun x => x.add p) A := if_neg (by omega)
      have hind := (hin.below hnx).drop p hp
      have hpl := hrun.le.1
      rw [hcm] at hind
      clear hcm
      rcases hrd : rd (b.drop p) with _ | ⟨v, u⟩
      · obtain ⟨e, he, hv⟩ := rdV_none' hrd
        have H := readNumber_gives wr n₀ _ (c - p) (b.drop p) hind
        rw [hv, List.length_drop] at H
        gi_wp2_with (refine ⟨trivial, ?_⟩; gi_at_call 38; refine (callsIn_wide.2 H).mono ?_; rintro e' w' ⟨rfl, rfl⟩)
        refine ⟨fun _ h => (by cases h), ?_⟩
        gi_wp2
        simp only [Exit.noGoto]
        go_end0
        exact ⟨⟨_, rfl⟩, .inl ⟨pre, ⟨p, hrun, fun _ => hrd⟩, hJs⟩⟩
      · have hbd := rd_bound hrd
        have hbl : (b.drop p).length = b.length - p := List.length_drop
        have H := readNumber_gives wr n₀ _ (c - p) (b.drop p) hind
        rw [rdV_some' hrd, List.length_drop] at H
        obtain ⟨fn, tmps, assign, body, hy, hR⟩ := hY pre (p, v) wr hJs (by omega)
        have hwr : IntKind.i64.wrap ((p : Int) + (u : Int)) = (p : Int) + (u : Int) := wrap_i64_id' _ (by omega) (by omega)
        gi_wp2_with (first | (refine ⟨trivial, ?_⟩; gi_at_call 38; refine (callsIn_wide.2 H).mono ?_; rintro e' w' ⟨rfl, rfl⟩))
        refine hR.mono ?_
        rintro e W3 (⟨rfl, hJ3, hk3⟩ | ⟨rfl, hJx3⟩)
        · gi_wp2
          go_roundw
          case rel => exact ⟨p + u, pre ++ [(p, v)], by omega, by simp, .snoc hrun hrd, hJ3, hnx.trans hk3⟩
          case measure => simp [intOf]; omega
        · gi_wp2
          simp only [Exit.noGoto]
          go_end0
          exact ⟨⟨_, rfl⟩, .inr ⟨_, ⟨_, .snoc hrun hrd⟩, hJx3⟩⟩
    · obtain rfl : p = b.length := by omega
      gi_wp2
      simp only [Exit.noGoto]
      go_end0
      exact ⟨⟨_, rfl⟩, .inl ⟨pre, ⟨_, hrun, fun h => by omega⟩, hJs⟩⟩

theorem numbers_stops (n : Nat) (hn2 : 2 ≤ n) (Bs : Nat) (A : Option Addr) (c : Nat) (b : List UInt8) (hin : InB w0 n₀ A c b) (w : World) (hb0 : Below n₀ w0 w) (hBs : Bs < n₀) (hn₀ : n₀ ≤ w.heap.size)
    (hc : w.cell? ⟨Bs, 0, none⟩ = some (.slice A b.length c)) :
    SeqStopsK Fence.wide n Try.prog 101 #[.pointer (some ⟨Bs, 0, none⟩)] (fun x : Nat × Nat => #[.int .i64 (x.1 : Int), .int .u64 (x.2 : Int)]) (Below n₀)
      (fun ys => ∃ p, Run b ys p ∧ (p < b.length → rd (b.drop p) = none)) (fun pre => ∃ p, Run b pre p) b.length w := fun l J Jx W hW _ _ hY h0 =>
  numbers1_in n hn2 l Bs A c b J Jx hY W hBs ((hW.cell (p := ⟨Bs, 0, none⟩) (by simp; omega)).trans hc) (hin.below (hb0.trans (hW.mono hn₀))) h0
end
set_option maxHeartbeats 1000000 in
theorem numbers_in (n : Nat) (a : Option Addr) (len cap : Nat) (w : World) :
    CallsIn Fence.wide n Try.prog 30 #[.slice a len cap] w fun e w' => e = .returned (.func (.func 101) #[] #[.pointer (some ⟨w.heap.size, 0, none⟩)]) ∧ w.alloc (.cells #[.slice a len cap] 30) = w' := by
  refine callsIn_of_wp Try.func30 rfl trivial ?_ rfl
  simp only [Try.ntmps30, List.size_toArray, List.length_cons, List.length_nil, Nat.reduceAdd, Nat.reduceSub, Array.replicate_succ, Array.replicate_zero, List.push_toArray, List.append_toArray, List.nil_append, List.cons_append]
  gi_wp2
  go_ret
  exact ⟨rfl, rfl⟩
theorem wpIn_by_stop {F : Fence} {n : Nat} {P : Program} {C : Code} {Q : Exit → Act → World → Prop} {a0 : Act} {w0 : World} (S : Act → Act → World → Prop) (h1 : ∀ Q', (∀ a w, S a0 a w → Q' .normal a w) → C.wpIn F n P Q' a0 w0) (h2 : ∀ a w, S a0 a w → Q .normal a w) : C.wpIn F n P Q a0 w0 := h1 Q h2
end Go.Proofs.Ytlelckdcmlpmdaa
/- slices.Chunk over bytes; frame.Cut: what its function goes through. -/
namespace Go.Proofs.Ytlelckdcmlpmdaa
open Go Go.RowKit Lou Go.Shelf
attribute [local go_sem] Oper.semAt_some

/-- How long a chunk is; how many there are. -/
def chLen (L k : Nat) : Nat := min 64 (L - 64 * k)
def chAll (L : Nat) : Nat := (L + 63) / 64
theorem addr_add (g o m : Nat) : (⟨g, o, none⟩ : Addr).add m = ⟨g, o + m, none⟩ := by cases m <;> simp [Addr.add]

/-- Two boxes hold what they held. -/
def Keep2 (Bs Bn : Nat) (W W' : World) : Prop := W'.cell? ⟨Bs, 0, none⟩ = W.cell? ⟨Bs, 0, none⟩ ∧ W'.cell? ⟨Bn, 0, none⟩ = W.cell? ⟨Bn, 0, none⟩
theorem Keep2.trans {Bs Bn : Nat} {X Y Z : World} (h : Keep2 Bs Bn X Y) (k : Keep2 Bs Bn Y Z) : Keep2 Bs Bn X Z := ⟨k.1.trans h.1, k.2.trans h.2⟩
set_option maxRecDepth 100000 in
set_option maxHeartbeats 4000000 in
theorem chunk1_in (n : Nat) (hn2 : 2 ≤ n) (l Bs Bn g o c L : Nat) (A : Option Addr) (hA : 0 < L → A = some ⟨g, o, none⟩) (hLc : L ≤ c) (hL : L ≤ 1000000) (hcm : c ≤ 9223372036854775807) (J Jx : List Nat → World → Prop) (Mu : Nat → Prop) (hMs : ¬ Mu Bs) (hMn : ¬ Mu Bn) (BE : Nat)
    (hY : ∀ pre k W, J pre W → (k = pre.length ∧ 64 * k < L) → YieldAt Fence.wide (n - 1) Try.prog l #[.slice (some ⟨g, o + 64 * k, none⟩) (chLen L k) (chLen L k)] W fun e W' =>
      (e = .returned (.bool true) ∧ J (pre ++ [k]) W' ∧ KeepOut Mu BE W W') ∨ (e = .returned (.bool false) ∧ Jx (pre ++ [k]) W' ∧ KeepOut (fun _ => True) BE W W'))
    (W : World) (hJA : AbNew W.heap.size J) (hcs : W.cell? ⟨Bs, 0, none⟩ = some (.slice A L c)) (hcn : W.cell? ⟨Bn, 0, none⟩ = some (.int .i64 64)) (h0 : J [] W) :
    CallsIn Fence.wide n Try.prog 180 #[.func (.yield l) #[] #[], .pointer (some ⟨Bs, 0, none⟩), .pointer (some ⟨Bn, 0, none⟩)] W fun e W' => (∃ v, e = .returned v) ∧
      ((∃ ys, ys.length = chAll L ∧ J ys W') ∨ (∃ pre, pre.length ≤ chAll L ∧ Jx pre W')) := by
  have h1 : 1 ≤ n := by omega
  refine callsIn_of_wp Try.func180 rfl trivial ?_ rfl
  simp only [Try.ntmps180, List.size_toArray, List.length_cons, List.length_nil, Nat.reduceAdd, Nat.reduceSub, Array.replicate_succ, Array.replicate_zero, List.push_toArray, List.append_toArray, List.nil_append, List.cons_append]
  gi_wp2
  gi_loopw [4] (fun i wr => ∃ (q : Nat) (pre : List Nat), i = .int .i64 q ∧ q = 64 * pre.length ∧ q < L + 64 ∧ J pre wr ∧ Keep2 Bs Bn W wr)
    (fun i _ => L + 64 - (intOf i).toNat)
  case atStart => exact ⟨0, [], rfl, rfl, by omega, h0, rfl, rfl⟩
  case round =>
    obtain ⟨q, pre, rfl, hq, hb, hJs, hnx⟩ := hrel
    have hc1 : wr.cell? ⟨Bs, 0, none⟩ = some (.slice A L c) := hnx.1.trans hcs
    have hc2 : wr.cell? ⟨Bn, 0, none⟩ = some (.int .i64 64) := hnx.2.trans hcn
    by_cases hlt : q < L
    · obtain rfl := hA (by omega)
      obtain ⟨m, hm2⟩ : ∃ m, m = chLen L pre.length := ⟨_, rfl⟩
      have hm : (if ((L - q : Nat) : Int) < 64 then ((L - q : Nat) : Int) else 64) = (m : Int) := by
        rw [hm2]
        unfold chLen
        rw [← hq]
        split <;> omega
      have hm0 : 0 < m := by rw [hm2]; unfold chLen; omega
      have hm3 : q + m ≤ L := by rw [hm2]; unfold chLen; omega
      have hm64 : m ≤ 64 := by rw [hm2]; unfold chLen; omega
      have hJd : J pre wr.drew := hJA.drew hJs
      obtain ⟨fn, tmps, assign, body, hy, hR⟩ := hY pre pre.length wr.drew hJd ⟨rfl, by omega⟩
      rw [← hm2, ← hq] at hy
      have hwm : IntKind.i64.wrap ((q : Int) + (m : Int)) = (q : Int) + (m : Int) := wrap_i64_id' _ (by omega) (by omega)
      have hw64 : IntKind.i64.wrap ((q : Int) + 64) = (q : Int) + 64 := wrap_i64_id' _ (by omega) (by omega)
      have HQ := Lib.hid hq
      have HM := Lib.hid hm2
      clear hq hm2
      gi_wp2
      gi_region
      gi_wp2
      refine hR.mono ?_
      have hQ := HQ.out
      rintro e W3 (⟨rfl, hJ3, hk3⟩ | ⟨rfl, hJx3, _⟩)
      · have hc2' : W3.cell? ⟨Bn, 0, none⟩ = some (.int .i64 64) := hk3.cell (p := ⟨Bn, 0, none⟩) hc2 (fun _ => hMn)
        have hnx3 : Keep2 Bs Bn W W3 := ⟨(hk3.cell (p := ⟨Bs, 0, none⟩) hc1 (fun _ => hMs)).trans hcs.symm, hc2'.trans hcn.symm⟩
        clear hQ
        gi_wp2
        go_roundw
        case rel => exact ⟨q + 64, pre ++ [pre.length], rfl, by simp; have := HQ.out; omega, by omega, hJ3, hnx3⟩
        case measure => simp [intOf]; omega
      · have hl : (pre ++ [pre.length]).length ≤ chAll L := by simp; unfold chAll; omega
        clear hQ
        gi_wp2
        exact bodyPost_ret (results_none rfl _ _ _) rfl ⟨⟨_, rfl⟩, .inr ⟨_, hl, hJx3⟩⟩
    · obtain ⟨hs⟩ : Nonempty (pre.length = chAll L) := ⟨by unfold chAll; omega⟩
      gi_wp2
      go_end0
      exact ⟨⟨_, rfl⟩, .inl ⟨pre, hs, hJs⟩⟩
theorem chunk1_seq (n : Nat) (hn2 : 2 ≤ n) (Bs Bn g o c L : Nat) (A : Option Addr) (hA : 0 < L → A = some ⟨g, o, none⟩) (hLc : L ≤ c) (hL : L ≤ 1000000) (hcm : c ≤ 9223372036854775807) (Mu : Nat → Prop) (hMs : ¬ Mu Bs) (hMn : ¬ Mu Bn) (w : World) (hBs : Bs < w.heap.size) (hBn : Bn < w.heap.size)
    (hcs : w.cell? ⟨Bs, 0, none⟩ = some (.slice A L c)) (hcn : w.cell? ⟨Bn, 0, none⟩ = some (.int .i64 64)) :
    SeqR Fence.wide n Try.prog 180 #[.pointer (some ⟨Bs, 0, none⟩), .pointer (some ⟨Bn, 0, none⟩)] (fun k : Nat => #[.slice (some ⟨g, o + 64 * k, none⟩) (chLen L k) (chLen L k)]) Mu
      (fun pre k _ => k = pre.length ∧ 64 * k < L) (fun ys => ys.length = chAll L) (fun pre => pre.length ≤ chAll L) w := fun l J Jx W hW hJ _ hY h0 =>
  chunk1_in n hn2 l Bs Bn g o c L A hA hLc hL hcm J Jx Mu hMs hMn W.heap.size hY W hJ ((hW.cell (p := ⟨Bs, 0, none⟩) hBs).trans hcs) ((hW.cell (p := ⟨Bn, 0, none⟩) hBn).trans hcn) h0
set_option maxHeartbeats 1000000 in
theorem chunk_in (n : Nat) (A : Option Addr) (len cap : Nat) (w : World) :
    CallsIn Fence.wide n Try.prog 135 #[.slice A len cap, .int .i64 64] w fun e w' => e = .returned (.func (.func 180) #[] #[.pointer (some ⟨w.heap.size, 0, none⟩), .pointer (some ⟨w.heap.size + 1, 0, none⟩)]) ∧ (w.alloc (.cells #[.slice A len cap] 30)).alloc (.cells #[.int .i64 64] 3) = w' := by
  refine callsIn_of_wp Try.func135 rfl trivial ?_ rfl
  simp only [Try.ntmps135, List.size_toArray, List.length_cons, List.length_nil, Nat.reduceAdd, Nat.reduceSub, Array.replicate_succ, Array.replicate_zero, List.push_toArray, List.append_toArray, List.nil_append, List.cons_append]
  gi_wp2
  go_ret
  exact ⟨rfl, rfl⟩

/-- frame.Cut: it keeps a copy of the bytes in a block. -/
theorem cut_gives (w : World) (A : Option Addr) (c : Nat) (b : List UInt8) (h : InB w w.heap.size A c b) (hl : b.length ≤ 1000000) :
    Calls Try.prog 69 #[.slice A b.length c] w fun e w' => ∃ g A2 c2, e = .returned (.func (.func 134) #[] #[.pointer (some ⟨g, 0, none⟩)]) ∧ BlkIs w' g 30 #[.slice A2 b.length c2] ∧ InB w' w'.heap.size A2 c2 b ∧ Below w.heap.size w w' := by
  go_enter Try.func69, Try.ntmps69
  go_wp2_with (go_at_call 133; refine (clone_gives w A c b h (by omega)).mono ?_; rintro x w1 ⟨v, rfl, own, hB⟩; obtain ⟨A2, c2, rfl, hin⟩ := own.inB)
  go_ret
  have ha := (Below.refl w1.heap.size w1).alloc (Nat.le_refl _) (.cells #[.slice A2 b.length c2] 30)
  exact ⟨_, A2, c2, rfl, BlkIs.new _ _ _, (hin.below ha).more ha.size, hB.trans (ha.mono hB.size)⟩

/-- A chunk's bytes. -/
def chunkB (b : List UInt8) (k : Nat) : List UInt8 := (b.drop (64 * k)).take 64
theorem chunkB_length (b : List UInt8) (k : Nat) : (chunkB b k).length = chLen b.length k := by simp [chunkB, chLen]
theorem BlkIs.abNew {B g : Nat} {t : TypeId} {cs : Array Value} (hg : g < B) {W W' : World} {row : Option Nat} (h : BlkIs W g t cs) (hgr : W.grownBy W' row) (hr : ∀ r, row = some r → B ≤ r) : BlkIs W' g t cs :=
  h.grown hgr (fun e => by have := hr g e.symm; omega)
theorem below_abNew {B n₀ : Nat} {w : World} (hB : n₀ ≤ B) {W W' : World} {row : Option Nat} (hw : n₀ ≤ W.heap.size) (h : Below n₀ w W) (hgr : W.grownBy W' row) (hr : ∀ r, row = some r → B ≤ r) : Below n₀ w W' :=
  h.trans (grown_below hgr hw (fun r e => Nat.le_trans hB (hr r e)))
theorem RoundIn.anyRound {n m l l' : Nat} {P : Program} {f : FuncId} {tmps : Array Value} {assign body : Code} {w : World} {R : Ending → World → Prop} (h : RoundIn Fence.wide n P l f tmps assign body w R) : RoundIn (Fence.wide.inRound l') m P l f tmps assign body w R :=
  ⟨h.1, fun c cs _ => h.2 c cs (room_wide _)⟩

theorem chunk_inB {W : World} {B g o c k : Nat} {b : List UInt8} (h : InB W B (some ⟨g, o, none⟩) c b) (hk : 64 * k < b.length) : InB W B (some ⟨g, o + 64 * k, none⟩) (chLen b.length k) (chunkB b k) := by
  have hl := chunkB_length b k
  refine ⟨by omega, by unfold chLen; omega, (fun h => by cases h), fun _ => ?_⟩
  obtain ⟨g', o', e, hg, hc⟩ := h.lies (by omega)
  injection e with e
  injection e with e1 e2
  subst e1 e2
  refine ⟨g, o + 64 * k, rfl, hg, fun j hj => ?_⟩
  have hj2 : 64 * k + j < b.length := by rw [hl] at hj; unfold chLen at hj; omega
  have := hc (64 * k + j) hj2
  rw [Nat.add_assoc, this]
  simp [chunkB]

theorem yield_out {e : Ending} {p q : Prop} (h : (e = .returned (.bool true) ∧ p) ∨ (e = .returned (.bool false) ∧ q)) : ∃ r, e = .returned (.bool r) ∧ ((r = true ∧ p) ∨ (r = false ∧ q)) := by
  rcases h with ⟨rfl, h⟩ | ⟨rfl, h⟩
  · exact ⟨true, rfl, .inl ⟨rfl, h⟩⟩
  · exact ⟨false, rfl, .inr ⟨rfl, h⟩⟩
section
variable {n₀ : Nat}
set_option maxRecDepth 100000 in
set_option maxHeartbeats 4000000 in
theorem cut1_in (n : Nat) (hn5 : 6 ≤ n) (l gB : Nat) (A : Option Addr) (c : Nat) (b : List UInt8) (hb : b.length ≤ 1000000) (J Jx : List (Nat × (Option Addr × Nat)) → World → Prop) (W : World)
    (Mu : Nat → Prop) (hMu : ∀ g, g < n₀ → ¬ Mu g) (hJA : AbNew W.heap.size J) (hJxA : AbNew W.heap.size Jx)
    (hY : ∀ pre (x : Nat × (Option Addr × Nat)) W1, J pre W1 → (x.1 = pre.length ∧ 64 * x.1 < b.length ∧ InB W1 W1.heap.size x.2.1 x.2.2 (chunkB b x.1)) → YieldAt Fence.wide (n - 1) Try.prog l #[.int .i64 (x.1 : Int), .slice x.2.1 (chLen b.length x.1) x.2.2] W1 fun e W' =>
      (e = .returned (.bool true) ∧ J (pre ++ [x]) W' ∧ KeepOut Mu W.heap.size W1 W') ∨ (e = .returned (.bool false) ∧ Jx (pre ++ [x]) W' ∧ KeepOut (fun _ => True) W.heap.size W1 W'))
    (hg : gB < n₀) (hn0 : n₀ ≤ W.heap.size) (hcg : W.cell? ⟨gB, 0, none⟩ = some (.slice A b.length c)) (hin : InB W n₀ A c b) (h0 : J [] W) :
    CallsIn Fence.wide n Try.prog 134 #[.func (.yield l) #[] #[], .pointer (some ⟨gB, 0, none⟩)] W fun e W' => (∃ v, e = .returned v) ∧
      ((∃ ys, ys.length = chAll b.length ∧ J ys W') ∨ (∃ pre, pre.length ≤ chAll b.length ∧ Jx pre W')) := by
  have hle := hin.le
  have hmax := hin.max
  have h1 : 1 ≤ n := by omega
  refine callsIn_of_wp_marks Try.func134 rfl trivial ?_ rfl
  simp only [Try.ntmps134, List.size_toArray, List.length_cons, List.length_nil, Nat.reduceAdd, Nat.reduceSub, Array.replicate_succ, Array.replicate_zero, List.push_toArray, List.append_toArray, List.nil_append, List.cons_append]
  gi_wp2
  refine wpIn_scope_wide ?_
  gi_wp2
  refine wpIn_label ?_
  have hB0 : Below n₀ W ((W.alloc (.cells #[.func (.yield l) #[] #[]] 233)).alloc (.cells #[.int .i64 0] 3)) := ((Below.refl _ W).alloc hn0 _).alloc (by simp; omega) _
  have hcg2 := (hB0.cell (p := ⟨gB, 0, none⟩) hg).trans hcg
  gi_wp2_with (refine ⟨trivial, ?_⟩; gi_at_call 135; refine (chunk_in (n - 1) _ _ _ _).mono ?_; rintro e w' ⟨rfl, rfl⟩)
  obtain ⟨W2, hW2⟩ : ∃ W2, W2 = (W.alloc (.cells #[.func (.yield l) #[] #[]] 233)).alloc (.cells #[.int .i64 0] 3) := ⟨_, rfl⟩
  have s2 : W2.heap.size = W.heap.size + 1 + 1 := by rw [hW2]; simp
  have hy2 : BlkIs W2 W.heap.size 233 #[.func (.yield l) #[] #[]] := by rw [hW2]; exact (BlkIs.new W _ _).alloc _
  have hn2 : BlkIs W2 (W.heap.size + 1) 3 #[.int .i64 ((0 : Nat) : Int)] := by
    have := BlkIs.new (W.alloc (.cells #[.func (.yield l) #[] #[]] 233)) 3 #[.int .i64 ((0 : Nat) : Int)]
    rw [World.size_alloc] at this
    rw [hW2]
    exact this
  have hJ2 : J [] W2 := by rw [hW2]; exact hJA.alloc _ (hJA.alloc _ h0)
  rw [← hW2] at hB0 ⊢
  clear hW2 hcg2
  obtain ⟨W4, hW4⟩ : ∃ W4, W4 = (W2.alloc (.cells #[.slice A b.length c] 30)).alloc (.cells #[.int .i64 64] 3) := ⟨_, rfl⟩
  have s4 : W4.heap.size = W.heap.size + 4 := by rw [hW4]; simp; omega
  have hy4 : BlkIs W4 W.heap.size 233 #[.func (.yield l) #[] #[]] := by rw [hW4]; exact (hy2.alloc _).alloc _
  have hn4 : BlkIs W4 (W.heap.size + 1) 3 #[.int .i64 ((0 : Nat) : Int)] := by rw [hW4]; exact (hn2.alloc _).alloc _
  have hJ4 : J [] W4 := by rw [hW4]; exact hJA.alloc _ (hJA.alloc _ hJ2)
  have hB4 : Below n₀ W W4 := by rw [hW4]; exact (hB0.alloc (by omega) _).alloc (by simp; omega) _
  have hcs4 : W4.cell? ⟨W.heap.size + 1 + 1, 0, none⟩ = some (.slice A b.length c) := by rw [hW4, ← s2]; exact ((BlkIs.new W2 30 #[.slice A b.length c]).alloc _).boxed
  have hcn4 : W4.cell? ⟨W.heap.size + 1 + 1 + 1, 0, none⟩ = some (.int .i64 64) := by
    have := (BlkIs.new (W2.alloc (.cells #[.slice A b.length c] 30)) 3 #[.int .i64 64]).boxed
    rw [World.size_alloc, s2] at this
    rw [hW4]
    exact this
  rw [← hW4]
  clear hW4 hy2 hn2 hJ2 hB0
  obtain ⟨g, o, hA⟩ : ∃ g o, 0 < b.length → A = some ⟨g, o, none⟩ := by
    by_cases hb0 : 0 < b.length
    · obtain ⟨g, o, e, _⟩ := hin.lies hb0
      exact ⟨g, o, fun _ => e⟩
    · exact ⟨0, 0, fun h => absurd h hb0⟩
  refine wpIn_rangeFunc_R rfl h1 (gf := 180) (lb := #[.pointer (some ⟨W.heap.size + 1 + 1, 0, none⟩), .pointer (some ⟨W.heap.size + 1 + 1 + 1, 0, none⟩)]) rfl trivial (enters_of Try.func180 (by kernel_rfl) rfl)
    (chunk1_seq (n - 1) (by omega) (W.heap.size + 1 + 1) (W.heap.size + 1 + 1 + 1) g o c b.length A hA hle hb hmax (fun k => (k < W.heap.size ∧ Mu k) ∨ k = W.heap.size + 1) (by omega) (by omega) W4 (by omega) (by omega) hcs4 hcn4) (Below.refl _ _) (fun _ => rfl)
    (fun pre V => (∃ xs : List (Nat × (Option Addr × Nat)), xs.length = pre.length ∧ J xs V) ∧ BlkIs V W.heap.size 233 #[.func (.yield l) #[] #[]] ∧ BlkIs V (W.heap.size + 1) 3 #[.int .i64 (pre.length : Int)] ∧ InB V n₀ A c b ∧ W.heap.size ≤ V.heap.size)
    (fun cd pre V => cd = .exit 0 ∧ ∃ xs : List (Nat × (Option Addr × Nat)), xs.length = pre.length ∧ Jx xs V)
    ?own ?own2 ?ownR ⟨⟨[], rfl, hJ4⟩, hy4, hn4, hin.below hB4, by omega⟩ ?act ?assign ?body ?done ?stop
  case own =>
    rintro pre X Y row ⟨⟨xs, hx, hJ⟩, h1, h2, h3, h4⟩ hgr hr
    exact ⟨⟨xs, hx, hJA xs X Y row hJ hgr (fun r e => by have := hr r e; omega)⟩, h1.abNew (by omega) hgr hr, h2.abNew (by omega) hgr hr, h3.grown (by omega) hgr (fun r e => by have := hr r e; omega), Nat.le_trans h4 hgr.size⟩
  case own2 =>
    rintro cd pre X Y row ⟨e, xs, hx, hJ⟩ hgr hr
    exact ⟨e, xs, hx, hJxA xs X Y row hJ hgr (fun r e => by have := hr r e; omega)⟩
  case ownR => exact fun pre x => ownFrom_pure _ _
  case assign =>
    intro l1 x V K hK
    gi_wp2
    exact hK
  case body =>
    rintro l1 pre k V ⟨⟨xs, hxs, hJ⟩, hy, hnb, hB, hWV⟩ ⟨rfl, hkl⟩
    have hcy := hy.boxed
    have hcn := hnb.boxed
    have hfn := hnb.free 0
    have h11 : 1 ≤ n - 1 - 1 := by omega
    obtain rfl := hA (by omega)
    have hinV := chunk_inB hB hkl
    have hC := clone_gives V.drew _ _ _ ((hinV.drew).more (show n₀ ≤ V.drew.heap.size by show n₀ ≤ V.heap.size; omega)) (by rw [chunkB_length]; unfold chLen; omega)
    rw [chunkB_length] at hC
    gi_wp2
    gi_region_with (first
      | (refine ⟨trivial, ?_⟩; gi_at_call 133; refine (CallsIn.inRound l1 (callsIn_wide.2 hC)).mono ?_; rintro e W6 ⟨v6, rfl, own6, hB6⟩; obtain ⟨A6, c6, rfl, hin6⟩ := own6.inB; rw [chunkB_length]; have hBV : Below V.heap.size V W6 := (Below.refl _ V).drew.trans hB6; have hJ6 : J xs W6 := hJA.grow hJ hBV; have hxs' : pre.length = xs.length := hxs.symm; obtain ⟨fn, tmps, assign, body, hyy, hR⟩ := hY xs (pre.length, (A6, c6)) W6 hJ6 ⟨hxs', hkl, hin6⟩; have hy6 := hy.below hBV hy.lt; have hn6 := hnb.below hBV hnb.lt; have hcy6 := hy6.boxed; have hcn6 := hn6.boxed; have hBB6 := hB.below (hBV.mono (show n₀ ≤ V.heap.size by omega)); simp only at hyy; clear hxs')
      | (refine (RoundIn.anyRound hR).mono ?_; rintro e W7 hout; obtain ⟨r, rfl, hr⟩ := yield_out hout; clear hout))
    all_goals
      have s6 := hBV.size
      have k6 := KeepOut.grow (fun k => (k < W.heap.size ∧ Mu k) ∨ k = W.heap.size + 1) W4.heap.size hBV
      have hwk : IntKind.i64.wrap ((pre.length : Int) + 1) = (pre.length : Int) + 1 := wrap_i64_id' _ (by omega) (by omega)
      rcases hr with ⟨rfl, hJ7, hk7⟩ | ⟨rfl, hJx7, hk7⟩
      · have hy7 := hk7.blk hy6 (fun h => by omega)
        have hn7 := hk7.blk hn6 (fun h => by omega)
        have hb7 := hk7.inB hBB6 hMu
        have hcn7 := hn7.boxed
        have hfn7 := hn7.free 0
        gi_wp2
        refine ⟨(k6.trans ⟨hk7.1, fun k o hk hm => hk7.2 k o hk (fun h hmu => hm (by omega) (.inl ⟨h, hmu⟩))⟩).trans (KeepOut.setCell _ ⟨W.heap.size + 1, 0, none⟩ _ (by simp; omega) (.inr rfl)), ⟨xs ++ [(pre.length, A6, c6)], by simp [hxs], hJA.setCell _ hJ7 (by simp)⟩, hy7.other (by simp) _, ?_, hb7.keep (fun p hp => World.cell?_setCell_other _ _ _ _ (fun e => by subst e; simp at hp; omega)), ?_⟩
        · have := hn7.set 0 (.int .i64 ((pre.length : Int) + 1))
          simpa using this
        · have := hk7.1
          simp
          omega
      · gi_wp2
        exact ⟨k6.any.trans ⟨hk7.1, fun k o hk hm => hk7.2 k o hk (fun h => hm (by omega))⟩, rfl, xs ++ [(pre.length, A6, c6)], by simp [hxs], hJx7⟩
  case done =>
    rintro D ys V hD hS ⟨⟨xs, hx, hJ⟩, _⟩ hK
    gi_wp2
    simp only [Exit.noGoto]
    refine ⟨by simp, .inl ⟨_, _, rfl, run_takeDeferred hK, ?_⟩⟩
    exact ⟨_, results_none rfl _ _ _, ⟨_, rfl⟩, .inl ⟨xs, by rw [hx, hS], hJA.putObj _ hJ (by omega)⟩⟩
  case stop =>
    rintro D cd pre V hD hS ⟨rfl, xs, hx, hJ⟩ hK
    gi_wp2
    simp only [Exit.noGoto]
    refine ⟨by simp, .inl ⟨_, _, rfl, run_takeDeferred hK, ?_⟩⟩
    exact ⟨_, results_none rfl _ _ _, ⟨_, rfl⟩, .inr ⟨xs, by rw [hx]; exact hS, hJxA.putObj _ hJ (by omega)⟩⟩
/-- What Cut's function hands over: a chunk's number, and where its bytes lie. -/
def cutEnc (L : Nat) (x : Nat × (Option Addr × Nat)) : Array Value := #[.int .i64 (x.1 : Int), .slice x.2.1 (chLen L x.1) x.2.2]
def CutRd (b : List UInt8) (pre : List (Nat × (Option Addr × Nat))) (x : Nat × (Option Addr × Nat)) (W : World) : Prop := x.1 = pre.length ∧ 64 * x.1 < b.length ∧ InB W W.heap.size x.2.1 x.2.2 (chunkB b x.1)
theorem cut1_seq (n : Nat) (hn5 : 6 ≤ n) (gB : Nat) (A : Option Addr) (c : Nat) (b : List UInt8) (hb : b.length ≤ 1000000) (Mu : Nat → Prop) (hMu : ∀ g, g < n₀ → ¬ Mu g) (w : World) (hg : gB < n₀) (hn0 : n₀ ≤ w.heap.size)
    (hcg : w.cell? ⟨gB, 0, none⟩ = some (.slice A b.length c)) (hin : InB w n₀ A c b) :
    SeqR Fence.wide n Try.prog 134 #[.pointer (some ⟨gB, 0, none⟩)] (cutEnc b.length) Mu (CutRd b) (fun ys => ys.length = chAll b.length) (fun pre => pre.length ≤ chAll b.length) w := fun l J Jx W hW hJ hJx hY h0 =>
  cut1_in n hn5 l gB A c b hb J Jx W Mu hMu hJ hJx hY hg (Nat.le_trans hn0 hW.size) ((hW.cell (p := ⟨gB, 0, none⟩) (by simp; omega)).trans hcg) (hin.below (hW.mono hn0)) h0
end
end Go.Proofs.Ytlelckdcmlpmdaa
/- Regions that draw their order, in a round of a range over a function. -/
namespace Go.Proofs.Ytlelckdcmlpmdaa
open Go Go.RowKit Lou

/-- Q, but that nothing outgrows. -/
def NoOut (Q : Exit → Act → World → Prop) : Exit → Act → World → Prop
  | .outgrown, _, _ => False
  | e, a, w => Q e a w
theorem NoOut.imp {Q : Exit → Act → World → Prop} : ∀ (e : Exit) (a : Act) (w : World), NoOut Q e a w → Q e a w := fun e a w h => by
  cases e <;> first | exact h | exact (h : False).elim
theorem NoOut.stays {Q : Exit → Act → World → Prop} : ¬ LetsOut (NoOut Q) := fun ⟨_, _, h⟩ => h
/-- No operation defers. -/
def noDefer (ops : Array Oper) : Bool := ops.toList.all fun o => match o.op with | .defer _ => false | _ => true
section
variable {P : Program} {ops : Array Oper} {Q : Exit → Act → World → Prop} {n l : Nat}
theorem oper_inRound {o : Oper} {a : Act} {w : World} {K K' : Act → World → Prop} (hd : ∀ c, o.op ≠ .defer c) (hK : ∀ a w, K a w → K' a w) (h : o.wp P a w K (NoOut Q)) : o.wpIn (Fence.wide.inRound l) n P a w K' (NoOut Q) := by
  refine ⟨fun _ _ => trivial, ?_⟩
  have e : o.semAt (Fence.wide.inRound l).round a.eval = execOp a.eval o := Oper.semAt_some l _ o hd
  rw [e]
  unfold Oper.wp at h
  generalize (execOp a.eval o).run P w = r at *
  have nd : ∀ {p : Prop}, ((Fence.wide.inRound l).depth.isSome = true → p) := fun h => by cases h
  cases r with
  | ok x w' =>
    cases x <;> simp only [Oper.upon, Oper.uponIn] at h ⊢ <;>
      first
        | exact hK _ _ h
        | (refine ⟨nd, CallsIn.inRound l ((callsIn_wide.2 h).mono fun e w'' he => ?_)⟩; cases e <;> first | exact hK _ _ he | exact he)
        | exact ⟨nd, fun c cs _ => let ⟨v, w'', r, s⟩ := h c cs; ⟨v, w'', hK _ _ r, stepsIn_wide.2 s⟩⟩
        | exact h.elim
  | halt x w' => cases x <;> simp only [Oper.upon, Oper.uponIn] at h ⊢ <;> first | exact h | exact h.elim
theorem noDefer_spec (h : noDefer ops = true) {i : Nat} {o : Oper} (ho : ops[i]? = some o) : ∀ c, o.op ≠ .defer c := by
  intro c hc
  unfold noDefer at h
  rw [List.all_eq_true] at h
  have hm : o ∈ ops.toList := by
    obtain ⟨h1, h2⟩ := Array.getElem?_eq_some_iff.1 ho
    subst h2
    simp
  have := h o hm
  rw [hc] at this
  cases this
theorem wpAny_inRound (hd : noDefer ops = true) : ∀ (fuel : Nat) (listed : Array Bool) (a : Act) (w : World), wpAny P .any ops (NoOut Q) fuel listed a w → wpAnyIn (Fence.wide.inRound l) n P .any ops (NoOut Q) fuel listed a w := by
  intro fuel
  induction fuel with
  | zero => exact fun listed a w h => h
  | succ fuel ih =>
    intro listed a w h
    refine ⟨h.1, fun i hi => ?_⟩
    have hs := h.2 i hi
    unfold wpOp at hs
    unfold wpOpIn
    split
    · rename_i ho
      rw [ho] at hs
      exact ih _ _ _ hs
    · rename_i o ho
      rw [ho] at hs
      simp only at hs
      by_cases hw : Region.wanted o (yielded ops a.tmps) = true
      · rw [if_pos hw] at hs ⊢
        rcases hs with h1 | ⟨_, h2⟩
        · exact oper_inRound (noDefer_spec hd ho) (fun a w => ih _ a w) h1
        · exact (NoOut.stays h2).elim
      · rw [if_neg hw] at hs ⊢
        exact ⟨fun _ _ => trivial, ih _ _ _ hs⟩
end
namespace Reg
/-- As region_acts, in a round. -/
theorem region_actsR {P : Program} {ops : Array Oper} (hm : P.follows .mixedOrders = true) (hcov : covered ops = true) (hdf : noDefer ops = true) {id : Nat} {a0 : Act} {w0 : World} {Q : Exit → Act → World → Prop} {l m : Nat} (n : Nat) (hn : a0.tmps.size = n)
    (hdst : dstsIn ops n = true) (D : List Nat) (hD : dstsAre ops D = true) (V W : List (Nat × Fact)) (hV : StartOk a0 w0 V) (hW : (W.all fun p => written ops p.1) = true)
    (hok : AllOk P ops (FSof (V ++ W)) w0 ops.toList)
    (hend : ∀ a w, a.tmps.size = n → a.defers = a0.defers → Grow w0 w → (∀ t, FSof (V ++ W) t (a.eval (.tmp t)) w) → (∀ t, D.contains t = false → a.eval (.tmp t) = a0.eval (.tmp t)) → Q .normal a w) :
    (Code.region id ops true).wpIn (Fence.wide.inRound l) m P Q a0 w0 := by
  have hD' : ∀ o ∈ ops.toList, ∀ d, o.dst = some d → D.contains d = true := by
    intro o ho d hd
    unfold dstsAre at hD
    rw [List.all_eq_true] at hD
    have := hD o ho
    simpa [hd] using this
  refine wpIn_mono (Q := NoOut Q) (wpIn_region_any hm (wpAny_inRound hdf _ _ _ _ (region_wpAny hm hcov n hn ?_ (fun t v w => FSof (V ++ W) t v w ∧ (D.contains t = false → v = a0.eval (.tmp t))) (fun t v w w' h hg => ⟨FSof.stable _ _ _ _ _ h.1 hg, h.2⟩) (fun t ht => ⟨start_fact V W hV hW t ht, fun _ => rfl⟩)
    (AllOk.mono (fun _ _ _ h => h.1) (fun o ho d v w hd h => ⟨h, fun hn => by rw [hD' o ho d hd] at hn; cases hn⟩) hok) ?_))) NoOut.imp
  · intro o ho d hd
    unfold dstsIn at hdst
    rw [List.all_eq_true] at hdst
    have := hdst o ho
    simpa [hd] using this
  · intro a w h1 h2 h3 h4
    exact hend a w h1 h2 h3 (fun t => (h4 t).1) (fun t => (h4 t).2)
end Reg
end Go.Proofs.Ytlelckdcmlpmdaa
