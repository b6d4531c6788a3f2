/- Texts that the proof of FrameBytes leans on, part 8. -/
import Derived.Test.YtlelckdcmlpmdaaFrameBytesB7
/- frame.Decode, of so many bytes as a frame has. -/
namespace Go.Proofs.Ytlelckdcmlpmdaa
open Go Go.RowKit Lou

theorem run_eq_nil {P : Program} (w : World) (t e : TypeId) (A : Option Addr) (n c : Nat) (ht : P.underlying t = some (.slice e)) : (binOp .eql t (.slice A n c) (.slice none 0 0)).run P w = .ok (.bool A.isNone) w := by
  have e1 : binOp .eql t (.slice A n c) (.slice none 0 0) = (do pure (.bool (← Op.equalIn (9999 + 1) t (.slice A n c) (.slice none 0 0)))) := rfl
  have h : (Op.equalIn (9999 + 1) t (.slice A n c) (.slice none 0 0)).run P w = .ok A.isNone w := by
    unfold Op.equalIn
    cases A <;> simp [run_underlying ht]
  rw [e1]
  simp only [Sem.run_bind, h, Result.andThen, Sem.run_pure]
set_option maxRecDepth 100000 in
set_option maxHeartbeats 1000000 in
theorem clone_gives (w : World) (A : Option Addr) (c : Nat) (l : List UInt8) (h : InB w w.heap.size A c l) (hl : l.length ≤ 100000000000) : Calls Try.prog 133 #[.slice A l.length c] w (GivesB w l) := by
  have hle := h.le
  rcases A with _ | ad
  · have hc := h.nil rfl
    subst hc
    obtain rfl : l = [] := List.eq_nil_of_length_eq_zero (by omega)
    have hq := fun W => run_eq_nil (P := Try.prog) W 30 5 none 0 0 Try.underlying30
    go_enter Try.func133, Try.ntmps133
    go_wp2
    go_ret
    exact ⟨_, rfl, OwnB.nil _ _, Below.refl _ _⟩
  · have e0 : OwnB (w.alloc (.cells #[] 5)) w.heap.size (.slice (some ⟨w.heap.size, 0, none⟩) 0 0) [] := World.ownsRow_lit w #[] 0 (Nat.le_refl _) (by unfold maxLen; omega) rfl
    have hB0 : Below w.heap.size w (w.alloc (.cells #[] 5)) := (Below.refl _ w).alloc (Nat.le_refl _) _
    have h1 := h.below hB0
    have hq := fun W => run_eq_nil (P := Try.prog) W 30 5 (some ad) l.length c Try.underlying30
    go_enter Try.func133, Try.ntmps133
    go_wp2_with (at_builtin; refine wp_appB rfl (.tmp 5) (.tmp 6) rfl w.heap.size (.slice (some ⟨w.heap.size, 0, none⟩) 0 0) [] rfl e0 _ (some ad) c l rfl h1 (by simp; omega) (by simp) ?_; intro v1 w1 own1 hg1)
    go_ret
    rw [List.nil_append] at own1
    exact ⟨_, rfl, own1, hB0.trans (grown_below hg1 hB0.size e0.ownGe)⟩

/-- What a frame's bytes are read as. -/
def fdE (b : List UInt8) : Nat := rfix (b.take 8)
def fdI (b : List UInt8) : Nat := rfix ((b.drop 8).take 4)
def fdP (b : List UInt8) : Nat := rfix ((b.drop 12).take 4)
def fdF (b : List UInt8) : Bool := b.getD 16 0 == 1
def fdZ (b : List UInt8) : Nat := rfix ((b.drop 17).take 4)
def fdL (b : List UInt8) : Nat := rfix ((b.drop 21).take 4)
def isFrame (b : List UInt8) : Bool := decide (b.length = 576) && (frOk 512 (fdI b) (fdP b) (fdF b) (fdZ b) && (sectB (partB (fdE b) (fdI b) (fdP b) (fdF b) (fdZ b) (fdL b)) (b.drop 64) == b.take 64))
def zeroFr : Array Value := #[.int .u64 0, .int .i64 0, .int .i64 0, .bool false, .int .i64 0, .int .u32 0, .slice none 0 0]
/-- What Decode gives of bytes. -/
def GivesFr (w0 : World) (l : List UInt8) (x : Ending) (w' : World) : Prop :=
  Below w0.heap.size w0 w' ∧ if isFrame l then ∃ A k, x = .returned (.tuple #[.agg (frCells (fdE l) (fdI l) (fdP l) (fdF l) (fdZ l) (fdL l) A 512 k), .int .i64 0]) ∧ InB w' w'.heap.size A k (l.drop 64) else x = .returned (.tuple #[.agg zeroFr, .int .i64 150])
theorem zeroFr_one : ∀ v ∈ zeroFr.toList, v.oneCell' = true := by
  intro v hv
  simp [zeroFr] at hv
  rcases hv with rfl | rfl | rfl | rfl | rfl | rfl <;> rfl
theorem frCells_one (e : Nat) (i p : Int) (f : Bool) (z : Int) (n : Nat) (A : Option Addr) (len k : Nat) : ∀ v ∈ (frCells e i p f z n A len k).toList, v.oneCell' = true := by
  intro v hv
  simp [frCells] at hv
  rcases hv with rfl | rfl | rfl | rfl | rfl | rfl | rfl <;> rfl

set_option maxRecDepth 100000 in
set_option maxHeartbeats 4000000 in
theorem decode_len (w : World) (A : Option Addr) (c : Nat) (l : List UInt8) (h : InB w w.heap.size A c l) (hl : l.length ≠ 576) :
    Calls Try.prog 76 #[.slice A l.length c] w (GivesFr w l) := by
  have hb0 := BlkIs.new w 120 zeroFr
  have hB0 : Below w.heap.size w (w.alloc (.cells zeroFr 120)) := (Below.refl _ w).alloc (Nat.le_refl _) _
  have hle := h.le
  have hmx := h.max
  have hno : isFrame l = false := by simp [isFrame, hl]
  have hG : ∀ x w', Below w.heap.size w w' → x = .returned (.tuple #[.agg zeroFr, .int .i64 150]) → GivesFr w l x w' := fun x w' hB hx => ⟨hB, by rw [hno]; exact hx⟩
  have hq : ((l.length : Int) == 576) = false := by simp; omega
  have hq2 : ((l.length : Int) != 576) = true := by simp; omega
  have hz1 := zeroFr_one
  clear hno hl
  unfold zeroFr at *
  go_enter Try.func76, Try.ntmps76
  go_wp2_with (first
    | (refine wp_loadW rfl 120 (.tmp 2) rfl w.heap.size rfl rowFrame hb0 (by rfl) ?_)
    | (refine wp_storeW rfl 120 (.tmp 2) (.tmp 8) rfl w.heap.size rfl rfl rowFrame hb0 (by rfl) (by rfl) hz1 ?_))
  exact bodyPost_ret_by (results_cellW_tmp 2 3 rfl rfl rfl rowFrame (hb0.setRow _) (by rfl)) rfl (hG _ _ (below_setRow hB0 (Nat.le_refl _) _) rfl)
end Go.Proofs.Ytlelckdcmlpmdaa
namespace Go.Proofs.Ytlelckdcmlpmdaa
open Go Go.RowKit Lou

theorem RdrAt.other {w : World} {g g' B : Nat} {A : Option Addr} {c : Nat} {l : List UInt8} (h : RdrAt w g A c l) (hin : InB w B A c l) (hB : B ≤ g') (hg : g' < g) (j : Nat) (u : Value) : RdrAt (w.setCell ⟨g', j, none⟩ u) g A c l :=
  ⟨h.blk.other (by simp; omega) u, (hin.keep fun p hp => World.cell?_setCell_other w _ _ _ (fun e => by subst e; simp at hp; omega)).more (by omega)⟩
theorem cut_toN {ρ : Operand → Value} {w : World} {o : Oper} {x y : Operand} {A : Option Addr} {n m c : Nat} (ho : o.op = .slice 30 x none (some y) none) (h1 : ρ x = .slice A n c) (h2 : ρ y = .int .i64 (m : Int)) (hm : m ≤ c) :
    (execOp ρ o).run Try.prog w = .ok (.value (.slice A m c)) w := by
  have ht : Try.prog.underlying 30 = some (.slice (Try.prog.elem 30)) := by kernel_rfl
  simp [execOp, ho, h1, h2, go_sem, run_sliceAt_slice _ _ _ _ _ _ ht, Result.andThen, hm]
namespace Reg
variable {L : List (Nat × Fact)} {ops : Array Oper} {w0 : World} {o : Oper} {P : Program}
theorem l_not (x : Operand) (v : Bool) {T : TypeId} (ho : o.op = .unOp .not T x) (hx : Has ops (FSof L) o x (.bool v)) (hd : FD L o.dst = .val (.bool !v)) : RunOk P ops (FSof L) w0 o :=
  run1 x hx (fun ρ w h => by simp [execOp, ho, h, go_sem, Result.andThen]) fun _ => fsd hd rfl
theorem l_neArr (x y : Operand) (T : TypeId) (xs ys : List UInt8) (hx1 : xs.length = 64) (hy1 : ys.length = 64) (ho : o.op = .binOp .neq 236 x y T) (hx : Has ops (FSof L) o x (.agg (xs.map b8).toArray)) (hy : Has ops (FSof L) o y (.agg (ys.map b8).toArray)) (hd : FD L o.dst = .val (.bool (xs != ys))) : RunOk Try.prog ops (FSof L) w0 o := by
  refine run2 x y hx hy (fun ρ w h1 h2 => ?_) fun _ => fsd hd rfl
  have he := run_equalIn_bytes (P := Try.prog) w 9998 236 5 64 Try.underlying236 Try.underlying5 (fun w => by simp [go_sem]) xs ys hx1 hy1
  have hr : (binOp .neq 236 (.agg (xs.map b8).toArray) (.agg (ys.map b8).toArray)).run Try.prog w = .ok (.bool (xs != ys)) w := by
    rw [run_neq_struct]
    have e : (Op.equalIn 10000 236 (.agg (xs.map b8).toArray) (.agg (ys.map b8).toArray)).run Try.prog w = .ok (xs == ys) w := he
    rw [e]
    rfl
  have hm : Try.prog.eqGuardType Try.prog.depth 236 = false := by kernel_rfl
  simp only [execOp, ho, h1, h2, Sem.run_bind, run_eqGuard_agg w .neq 236 x y _ _ hm, Result.andThen_ok, hr, Sem.run_pure]
end Reg
theorem setCell_grownBy (w : World) (p : Addr) (u : Value) : w.grownBy (w.setCell p u) (some p.block) := ⟨rfl, rfl, rfl, by simp, fun k _ hk => Below.heap_setCell w p u k (fun e => hk (by rw [e]))⟩
theorem OwnB.apart {w w' : World} {base : Nat} {v : Value} {l : List UInt8} (h : OwnB w base v l) {r : Nat} (hg : w.grownBy w' (some r)) (hr : r < base) : OwnB w' base v l :=
  World.ownsRow.kept h hg (by
    cases hb : v.ownBlock with
    | none => exact .inl rfl
    | some b => exact .inr (fun e => by injection e with e; have := h.ownGe b hb; omega))
theorem cutA_lt {b o c n : Nat} (h : n < c) : cutA (some ⟨b, o, none⟩) c n = some ⟨b, o + n, none⟩ := by
  unfold cutA
  rw [if_neg (by omega)]
  cases n <;> simp [Addr.add]
set_option maxRecDepth 100000 in
set_option maxHeartbeats 8000000 in
theorem decode_576 (w : World) (A : Option Addr) (c : Nat) (l : List UInt8) (h : InB w w.heap.size A c l) (hl : l.length = 576) :
    Calls Try.prog 76 #[.slice A 576 c] w (GivesFr w l) := by
  have hIn := h
  have hle := h.le
  have hmx := h.max
  rw [hl] at hle
  have hle' : (576 : Int) ≤ (c : Int) := by omega
  obtain ⟨b, o, rfl, hbs, hcs⟩ := h.lies (by omega)
  have hb0 := (BlkIs.new w 120 zeroFr).alloc (.cells #[.slice (some ⟨b, o, none⟩) 576 c] 242)
  have hB0 : Below w.heap.size w ((w.alloc (.cells zeroFr 120)).alloc (.cells #[.slice (some ⟨b, o, none⟩) 576 c] 242)) := ((Below.refl _ w).alloc (Nat.le_refl _) _).alloc (by simp) _
  have hr0 : RdrAt ((w.alloc (.cells zeroFr 120)).alloc (.cells #[.slice (some ⟨b, o, none⟩) 576 c] 242)) (w.heap.size + 1) (some ⟨b, o, none⟩) c l := by
    refine ⟨?_, (h.below hB0).more (by omega)⟩
    have := BlkIs.new (w.alloc (.cells zeroFr 120)) 242 #[.slice (some ⟨b, o, none⟩) 576 c]
    rw [World.size_alloc] at this
    rw [hl]
    exact this
  have HL := Lib.hid hl
  have hc16 : l.getD 16 0 = l[16]'(by rw [HL.out]; omega) := by simp [List.getD, List.getElem?_eq_getElem (show 16 < l.length by rw [HL.out]; omega)]
  clear hl
  unfold zeroFr at *
  go_enter Try.func76, Try.ntmps76
  go_wp2_with fail
  generalize (w.alloc (.cells #[.int .u64 0, .int .i64 0, .int .i64 0, .bool false, .int .i64 0, .int .u32 0, .slice none 0 0] 120)).alloc (.cells #[.slice (some ⟨b, o, none⟩) 576 c] 242) = W1 at *
  refine (number64_gives W1 _ _ c l hr0 (by have := HL.out; omega)).mono ?_
  rintro x W2 ⟨rfl, hr2, hb12⟩
  have hf2 := hb0.below hb12 (by omega)
  have hB2 : Below w.heap.size w W2 := hB0.trans (hb12.mono (by omega))
  clear hb0 hr0 hb12 hB0
  have hcl2 : W2.cell? ⟨w.heap.size, 0, none⟩ = some (.int .u64 0) := by rw [hf2.cell]; rfl
  have hfr2 := hf2.free 0
  have hdr : ∀ n, n ≤ 576 → n < c → ∀ W, Below w.heap.size w W → InB W w.heap.size (some ⟨b, o + n, none⟩) (c - n) (l.drop n) := fun n hn hc W hB => (h.below hB).dropAt n (by rw [HL.out]; exact hn) hc
  rw [cutA_lt (by omega)] at hr2
  have hr3 := hr2.other (hdr 8 (by omega) (by omega) _ hB2) (Nat.le_refl _) (by omega) 0 (.int .u64 (rfix (l.take 8) : Int))
  have hf3 := hf2.set 0 (.int .u64 (rfix (l.take 8) : Int))
  have hB3 : Below w.heap.size w (W2.setCell ⟨w.heap.size, 0, none⟩ (.int .u64 (rfix (l.take 8) : Int))) := hB2.setCell (p := ⟨w.heap.size, 0, none⟩) (Nat.le_refl _) _
  clear hf2 hB2 hr2
  go_wp2_with fail
  generalize W2.setCell ⟨w.heap.size, 0, none⟩ (.int .u64 (rfix (l.take 8) : Int)) = W3 at *
  have ez : (#[.int .u64 0, .int .i64 0, .int .i64 0, .bool false, .int .i64 0, .int .u32 0, .slice none 0 0] : Array Value).setIfInBounds 0 (.int .u64 (rfix (l.take 8) : Int)) = #[.int .u64 (rfix (l.take 8) : Int), .int .i64 0, .int .i64 0, .bool false, .int .i64 0, .int .u32 0, .slice none 0 0] := rfl
  rw [ez] at hf3
  clear ez hcl2 hfr2
  refine (number32_gives W3 _ _ _ _ hr3 (by rw [List.length_drop, HL.out]; omega)).mono ?_
  rintro x W4 ⟨rfl, hr4, hb34⟩
  rw [List.drop_drop, cutA_lt (by omega)] at hr4
  have hf4 := hf3.below hb34 (by omega)
  have hB4 : Below w.heap.size w W4 := hB3.trans (hb34.mono (by omega))
  have hi4 := rfix_take4 (l.drop 8)
  have hiw : IntKind.i64.wrap (rfix ((l.drop 8).take 4) : Int) = (rfix ((l.drop 8).take 4) : Int) := wrap_i64_fr _ (by omega) (by omega)
  clear hf3 hr3 hb34 hB3
  go_wp2_with fail
  refine (number32_gives W4 _ _ _ _ hr4 (by rw [List.length_drop, HL.out]; omega)).mono ?_
  rintro x W5 ⟨rfl, hr5, hb45⟩
  rw [List.drop_drop, cutA_lt (by omega)] at hr5
  have hf5 := hf4.below hb45 (by omega)
  have hB5 : Below w.heap.size w W5 := hB4.trans (hb45.mono (by omega))
  have hp4 := rfix_take4 (l.drop (8 + 4))
  have hpw : IntKind.i64.wrap (rfix ((l.drop (8 + 4)).take 4) : Int) = (rfix ((l.drop (8 + 4)).take 4) : Int) := wrap_i64_fr _ (by omega) (by omega)
  have hpw2 : IntKind.i64.wrap (rfix ((l.drop 12).take 4) : Int) = (rfix ((l.drop 12).take 4) : Int) := hpw
  clear hf4 hr4 hb45 hB4
  have hcl1 : W5.cell? ⟨w.heap.size, 1, none⟩ = some (.int .i64 0) := by rw [hf5.cell]; rfl
  have hcl2 : W5.cell? ⟨w.heap.size, 2, none⟩ = some (.int .i64 0) := by rw [hf5.cell]; rfl
  have hfr1 := hf5.free 1
  have hfr2 := hf5.free 2
  go_wp2_with fail
  have hf6 : BlkIs ((W5.setCell ⟨w.heap.size, 1, none⟩ (.int .i64 (rfix ((l.drop 8).take 4) : Int))).setCell ⟨w.heap.size, 2, none⟩ (.int .i64 (rfix ((l.drop 12).take 4) : Int))) w.heap.size 120 #[.int .u64 (rfix (l.take 8) : Int), .int .i64 (rfix ((l.drop 8).take 4) : Int), .int .i64 (rfix ((l.drop 12).take 4) : Int), .bool false, .int .i64 0, .int .u32 0, .slice none 0 0] := (hf5.set 1 _).set 2 _
  have hB5' : Below w.heap.size w (W5.setCell ⟨w.heap.size, 1, none⟩ (.int .i64 (rfix ((l.drop 8).take 4) : Int))) := hB5.setCell (p := ⟨w.heap.size, 1, none⟩) (Nat.le_refl _) _
  have hB6 : Below w.heap.size w ((W5.setCell ⟨w.heap.size, 1, none⟩ (.int .i64 (rfix ((l.drop 8).take 4) : Int))).setCell ⟨w.heap.size, 2, none⟩ (.int .i64 (rfix ((l.drop 12).take 4) : Int))) := hB5'.setCell (p := ⟨w.heap.size, 2, none⟩) (Nat.le_refl _) _
  have hd5 := hdr 16 (by omega) (by omega)
  have ea : ∀ m, m + 8 = 16 → True := fun _ _ => trivial
  have hr6 := (hr5.other (hd5 _ hB5) (Nat.le_refl _) (by omega) 1 (.int .i64 (rfix ((l.drop 8).take 4) : Int))).other (hd5 _ hB5') (Nat.le_refl _) (by omega) 2 (.int .i64 (rfix ((l.drop 12).take 4) : Int))
  clear hf5 hr5 hB5 hB5' hcl1 hcl2 hfr1 hfr2 ea
  generalize ((W5.setCell ⟨w.heap.size, 1, none⟩ (.int .i64 (rfix ((l.drop 8).take 4) : Int))).setCell ⟨w.heap.size, 2, none⟩ (.int .i64 (rfix ((l.drop 12).take 4) : Int))) = W6 at *
  simp only [Nat.add_assoc, Nat.reduceAdd, Nat.sub_sub] at hr6
  have hl16 : (l.drop 16).length = 560 := by rw [List.length_drop, HL.out]
  have T := ftake_gives W6 (w.heap.size + 1) 0 (some ⟨b, o + 16, none⟩) 560 (c - 16) 1 (by omega) (by omega) (by omega) (by rw [hr6.blk.cell, hl16]; rfl) (hr6.blk.free 0)
  have hr7 := hr6.cut 1 (by rw [hl16]; omega)
  rw [hl16, List.drop_drop] at hr7
  have hf7 := hf6.other (p := ⟨w.heap.size + 1, 0, none⟩) (by simp) (.slice (cutA (some ⟨b, o + 16, none⟩) (c - 16) 1) (560 - 1) (c - 16 - 1))
  have hB7 : Below w.heap.size w (W6.setCell ⟨w.heap.size + 1, 0, none⟩ (.slice (cutA (some ⟨b, o + 16, none⟩) (c - 16) 1) (560 - 1) (c - 16 - 1))) := hB6.setCell (p := ⟨w.heap.size + 1, 0, none⟩) (by simp) _
  refine T.mono ?_
  rintro x w' ⟨rfl, rfl⟩
  clear T hf6 hB6 hr6 hl16
  generalize W6.setCell ⟨w.heap.size + 1, 0, none⟩ (.slice (cutA (some ⟨b, o + 16, none⟩) (c - 16) 1) (560 - 1) (c - 16 - 1)) = W7 at *
  rw [cutA_lt (by omega)] at hr7
  simp only [Nat.add_assoc, Nat.reduceAdd, Nat.sub_sub] at hr7
  have hcl3 : W7.cell? ⟨w.heap.size, 3, none⟩ = some (.bool false) := by rw [hf7.cell]; rfl
  have hfr3 := hf7.free 3
  have hcb : W7.cell? ⟨b, o + 16, none⟩ = some (.int .u8 ((l.getD 16 0).toNat : Int)) := by
    rw [hB7.cell (p := ⟨b, o + 16, none⟩) hbs, hcs 16 (by rw [HL.out]; omega), hc16]
  have hq : (((l.getD 16 0).toNat : Int) == 1) = fdF l := by
    unfold fdF
    rw [Bool.eq_iff_iff]
    simp only [beq_iff_eq]
    constructor
    · intro e
      exact UInt8.toNat_inj.1 (by rw [show (1 : UInt8).toNat = 1 from rfl]; omega)
    · intro e
      rw [e]
      rfl
  generalize l.getD 16 0 = c16 at *
  clear hc16
  obtain ⟨fl, hfl⟩ : ∃ fl, fdF l = fl := ⟨_, rfl⟩
  rw [hfl] at hq
  have hflq := Lib.hid hfl
  clear hfl
  go_wp2_with fail
  have hf8 : BlkIs (W7.setCell ⟨w.heap.size, 3, none⟩ (.bool fl)) w.heap.size 120 #[.int .u64 (rfix (l.take 8) : Int), .int .i64 (rfix ((l.drop 8).take 4) : Int), .int .i64 (rfix ((l.drop 12).take 4) : Int), .bool fl, .int .i64 0, .int .u32 0, .slice none 0 0] := hf7.set 3 _
  have hB8 : Below w.heap.size w (W7.setCell ⟨w.heap.size, 3, none⟩ (.bool fl)) := hB7.setCell (p := ⟨w.heap.size, 3, none⟩) (Nat.le_refl _) _
  have hr8 := hr7.other (hdr 17 (by omega) (by omega) _ hB7) (Nat.le_refl _) (by omega) 3 (.bool fl)
  generalize W7.setCell ⟨w.heap.size, 3, none⟩ (.bool fl) = W8 at *
  clear hf7 hB7 hr7 hcl3 hfr3 hcb hq
  have h17 : (l.drop 17).length = 559 := by rw [List.length_drop, HL.out]
  have hz4 := rfix_take4 (l.drop 17)
  have hzw : IntKind.i64.wrap (rfix ((l.drop 17).take 4) : Int) = (rfix ((l.drop 17).take 4) : Int) := wrap_i64_fr _ (by omega) (by omega)
  have N1 := number32_gives W8.drew (w.heap.size + 1) _ _ _ ⟨hr8.blk.drew, hr8.inb.drew⟩ (by rw [h17]; omega)
  have hl64 : (l.drop 64).length = 512 := by rw [List.length_drop, HL.out]
  have HL64 := Lib.hid hl64
  have s8 := hB8.size
  clear hl64 h17 hr8
  go_region_held3 (fun _ => True) (trivial) (first
    | (go_at_call 139; first
      | ((with_reducible refine N1.mono ?_); rintro x W9 ⟨rfl, hr9, hb9⟩; have hf9 := hf8.drew.below hb9 (by omega); have hB9 : Below w.heap.size w W9 := hB8.drew.trans (hb9.mono (by omega)); rw [List.drop_drop, cutA_lt (by omega)] at hr9; simp only [Nat.add_assoc, Nat.reduceAdd, Nat.sub_sub] at hr9)
      | (revert hr9; intro hr9; refine (number32_gives W9 _ _ _ _ hr9 (by rw [List.length_drop, HL.out]; omega)).mono ?_; rintro x W10 ⟨rfl, hr10, hb10⟩; have hf10 := hf9.below hb10 (by omega); have hB10 : Below w.heap.size w W10 := hB9.trans (hb10.mono (by omega)); have C10 := clone_gives W10 _ _ _ ((hdr 64 (by omega) (by omega) W10 hB10).more hB10.size) (by rw [HL64.out]; omega); rw [HL64.out] at C10))
    | (go_at_call 133; refine C10.mono ?_; rintro x W11 ⟨v11, rfl, own11, hB⟩; have hf11 := hf10.below hB hf10.lt; have hB11 := hB10.trans (hB.mono hB10.size); have hc4 : W11.cell? ⟨w.heap.size, 4, none⟩ = some (.int .i64 0) := (by rw [hf11.cell]; rfl); have hc5 : W11.cell? ⟨w.heap.size, 5, none⟩ = some (.int .u32 0) := (by rw [hf11.cell]; rfl); have hc6 : W11.cell? ⟨w.heap.size, 6, none⟩ = some (.slice none 0 0) := (by rw [hf11.cell]; rfl); have hg4 := hf11.free 4; have hg5 := hf11.free 5; have hg6 := hf11.free 6; obtain ⟨A11, c11, rfl, hin11⟩ := own11.inB; rw [HL64.out] at own11 ⊢))
  have s10 := hB10.size
  have hwlt : w.heap.size < W10.heap.size := hf10.lt
  have hf12 : BlkIs (((W11.setCell ⟨w.heap.size, 4, none⟩ (.int .i64 (rfix ((l.drop 17).take 4) : Int))).setCell ⟨w.heap.size, 5, none⟩ (.int .u32 (rfix ((l.drop 21).take 4) : Int))).setCell ⟨w.heap.size, 6, none⟩ (.slice A11 512 c11)) w.heap.size 120 #[.int .u64 (rfix (l.take 8) : Int), .int .i64 (rfix ((l.drop 8).take 4) : Int), .int .i64 (rfix ((l.drop 12).take 4) : Int), .bool fl, .int .i64 (rfix ((l.drop 17).take 4) : Int), .int .u32 (rfix ((l.drop 21).take 4) : Int), .slice A11 512 c11] := ((hf11.set 4 _).set 5 _).set 6 _
  have hB12 : Below w.heap.size w (((W11.setCell ⟨w.heap.size, 4, none⟩ (.int .i64 (rfix ((l.drop 17).take 4) : Int))).setCell ⟨w.heap.size, 5, none⟩ (.int .u32 (rfix ((l.drop 21).take 4) : Int))).setCell ⟨w.heap.size, 6, none⟩ (.slice A11 512 c11)) := ((hB11.setCell (p := ⟨w.heap.size, 4, none⟩) (Nat.le_refl _) _).setCell (p := ⟨w.heap.size, 5, none⟩) (Nat.le_refl _) _).setCell (p := ⟨w.heap.size, 6, none⟩) (Nat.le_refl _) _
  have own12 : OwnB (((W11.setCell ⟨w.heap.size, 4, none⟩ (.int .i64 (rfix ((l.drop 17).take 4) : Int))).setCell ⟨w.heap.size, 5, none⟩ (.int .u32 (rfix ((l.drop 21).take 4) : Int))).setCell ⟨w.heap.size, 6, none⟩ (.slice A11 512 c11)) W10.heap.size (.slice A11 512 c11) (l.drop 64) := ((own11.apart (setCell_grownBy W11 ⟨w.heap.size, 4, none⟩ _) hwlt).apart (setCell_grownBy _ ⟨w.heap.size, 5, none⟩ _) hwlt).apart (setCell_grownBy _ ⟨w.heap.size, 6, none⟩ _) hwlt
  generalize (((W11.setCell ⟨w.heap.size, 4, none⟩ (.int .i64 (rfix ((l.drop 17).take 4) : Int))).setCell ⟨w.heap.size, 5, none⟩ (.int .u32 (rfix ((l.drop 21).take 4) : Int))).setCell ⟨w.heap.size, 6, none⟩ (.slice A11 512 c11)) = W12 at *
  clear hf11 hB11 own11 hc4 hc5 hc6 hg4 hg5 hg6 hin11 hB C10 hf10 hB10 hr10 hb10 hf9 hB9 hr9 hb9 N1 hf8 hB8 s8 hzw hz4 hpw hpw2 hp4 hiw hi4 s10 hwlt
  go_wp2_with fail
  have hin12 : InB W12 W12.heap.size A11 c11 (l.drop 64) := by
    obtain ⟨A', c', e1, hh⟩ := own12.inB
    rw [HL64.out] at e1
    injection e1 with e2 e3 e4
    subst e2 e4
    exact hh
  have hT64 : (l.take 64).length = 64 := by rw [List.length_take, HL.out]; rfl
  have hGF : ∀ x w', Below w.heap.size w w' → (if isFrame l then ∃ A k, x = .returned (.tuple #[.agg (frCells (fdE l) (fdI l) (fdP l) (fdF l) (fdZ l) (fdL l) A 512 k), .int .i64 0]) ∧ InB w' w'.heap.size A k (l.drop 64) else x = .returned (.tuple #[.agg zeroFr, .int .i64 150])) → GivesFr w l x w' := fun x w' h1 h2 => ⟨h1, h2⟩
  have hFi : isFrame l = (frOk 512 (fdI l) (fdP l) (fdF l) (fdZ l) && (sectB (partB (fdE l) (fdI l) (fdP l) (fdF l) (fdZ l) (fdL l)) (l.drop 64) == l.take 64)) := by unfold isFrame; rw [HL.out]; rfl
  have eE : rfix (l.take 8) = fdE l := rfl
  have eI : rfix ((l.drop 8).take 4) = fdI l := rfl
  have eP : rfix ((l.drop 12).take 4) = fdP l := rfl
  have eZ : rfix ((l.drop 17).take 4) = fdZ l := rfl
  have eL : rfix ((l.drop 21).take 4) = fdL l := rfl
  rw [eE, eI, eP, eZ, eL] at hf12
  rw [eE, eI, eP, eZ, eL]
  clear eE eI eP eZ eL
  rw [hflq.out] at hFi hGF
  generalize fdE l = e at *
  generalize fdI l = i at *
  generalize fdP l = p at *
  generalize fdZ l = z at *
  generalize fdL l = n at *
  have HGF := Lib.hid hGF
  have HFi := Lib.hid hFi
  clear hGF hFi
  have s12 := hB12.size
  have hbs12 : b < W12.heap.size := by omega
  have hl2 : ∀ w', Grow W12 w' → (loadVar 120 ⟨w.heap.size, 0, none⟩).run Try.prog w' = .ok (.agg #[.int .u64 (e : Int), .int .i64 (i : Int), .int .i64 (p : Int), .bool fl, .int .i64 (z : Int), .int .u32 (n : Int), .slice A11 512 c11]) w' := fun w' hG => run_loadW rowFrame (hf12.below hG hf12.lt)
  have hin0 : InB W12 w.heap.size (some ⟨b, o, none⟩) c l := hIn.below hB12
  have hlb : ∀ w', Grow W12 w' → (loadVar 236 ⟨b, o, none⟩).run Try.prog w' = .ok (.agg ((l.take 64).map b8).toArray) w' := fun w' hG => by
    have hi := ((hin0.more s12).below hG).take 64 c (by rw [HL.out]; omega) (by omega) (Nat.le_refl _)
    refine run_loadVar_mid (P := Try.prog) w' b o 236 ((l.take 64).map b8) _ ?_ Try.underlying236 rfl (by simp only [List.length_map]; rw [hT64]; kernel_rfl)
    intro j v hj
    have hj2 : j < (l.take 64).length := by
      have := (List.getElem?_eq_some_iff.1 hj).1
      simpa using this
    obtain ⟨g', o', e1, _, hc⟩ := hi.lies (by omega)
    injection e1 with e1
    injection e1 with e1 e2
    subst e1 e2
    rw [hc j hj2]
    rw [List.getElem?_map, List.getElem?_eq_getElem hj2] at hj
    simpa [b8] using hj
  have hright0 := right_gives e i p fl z n A11 512 c11
  have hfront0 := front_gives e i p z n fl A11 c11 (l.drop 64)
  have hz1 := zeroFr_one
  have hfc := frCells_one e i p fl z n A11 512 c11
  unfold frCells at hright0 hfront0 HGF hfc
  unfold zeroFr at hz1 HGF
  cases hk : frOk 512 i p fl z with
  | false =>
    have hright := hright0
    rw [hk] at hright
    have hno : isFrame l = false := by rw [HFi.out, hk]; rfl
    open Reg in
    refine region_acts (by kernel_rfl) (by kernel_rfl) 57 rfl (by kernel_rfl) [43, 44, 45, 46, 47, 48, 49, 50, 51, 52, 53, 54] (by kernel_rfl)
      [(2, .val (.pointer (some ⟨w.heap.size, 0, none⟩))), (0, .val (.slice (some ⟨b, o, none⟩) 576 c))]
      [(43, .val (.agg #[.int .u64 (e : Int), .int .i64 (i : Int), .int .i64 (p : Int), .bool fl, .int .i64 (z : Int), .int .u32 (n : Int), .slice A11 512 c11])), (44, .val (.bool false)), (45, .val (.bool true)), (46, .val (.bool true)), (47, .any), (48, .any), (49, .any), (50, .any), (51, .any), (52, .any), (53, .any), (54, .val (.bool true))]
      ⟨rfl, rfl, trivial⟩ (by kernel_rfl)
      (allOk_cons (ok_none rfl (l_loadV (.tmp 2) (⟨w.heap.size, 0, none⟩) 120 (.agg #[.int .u64 (e : Int), .int .i64 (i : Int), .int .i64 (p : Int), .bool fl, .int .i64 (z : Int), .int .u32 (n : Int), .slice A11 512 c11]) rfl (hs 2 (.pointer (some ⟨w.heap.size, 0, none⟩)) (by kernel_rfl) (by kernel_rfl)) (fun w hg => hl2 w hg) (by kernel_rfl)))
      <| allOk_cons (ok_none rfl (l_call 140 _ _ rfl (enters_of Try.func140 (by kernel_rfl) rfl) #[.agg #[.int .u64 (e : Int), .int .i64 (i : Int), .int .i64 (p : Int), .bool fl, .int .i64 (z : Int), .int .u32 (n : Int), .slice A11 512 c11]] (.val (.bool false)) (args1 (hs 43 (.agg #[.int .u64 (e : Int), .int .i64 (i : Int), .int .i64 (p : Int), .bool fl, .int .i64 (z : Int), .int .u32 (n : Int), .slice A11 512 c11]) (by kernel_rfl) (by kernel_rfl))) (fun w hg => gives_grow (hright w)) (by kernel_rfl)))
      <| allOk_cons (ok_none rfl (l_not (.tmp 44) false rfl (hs 44 _ (by kernel_rfl) (by kernel_rfl)) (by kernel_rfl)))
      <| allOk_cons (ok_none rfl (l_mvF 45 (.val (.bool true)) (.inl rfl) (by kernel_rfl) (by kernel_rfl) (by kernel_rfl)))
      <| allOk_cons (okg_not 3 false 46 rfl (by kernel_rfl) (by kernel_rfl) (by kernel_rfl) (by kernel_rfl))
      <| allOk_cons (okg_not 3 false 46 rfl (by kernel_rfl) (by kernel_rfl) (by kernel_rfl) (by kernel_rfl))
      <| allOk_cons (okg_not 3 false 46 rfl (by kernel_rfl) (by kernel_rfl) (by kernel_rfl) (by kernel_rfl))
      <| allOk_cons (okg_not 3 false 46 rfl (by kernel_rfl) (by kernel_rfl) (by kernel_rfl) (by kernel_rfl))
      <| allOk_cons (okg_not 3 false 46 rfl (by kernel_rfl) (by kernel_rfl) (by kernel_rfl) (by kernel_rfl))
      <| allOk_cons (okg_not 3 false 46 rfl (by kernel_rfl) (by kernel_rfl) (by kernel_rfl) (by kernel_rfl))
      <| allOk_cons (okg_not 3 false 46 rfl (by kernel_rfl) (by kernel_rfl) (by kernel_rfl) (by kernel_rfl))
      <| allOk_cons (ok_none rfl (l_pickT (.tmp 46) (.const (.bool true)) (.tmp 53) (.bool true) rfl (hs 46 _ (by kernel_rfl) (by kernel_rfl)) (hc _) (by kernel_rfl)))
      <| allOk_nil) ?_
    intro a W13 hsz hdef hGW13 hF hU
    have e54 : a.eval (.tmp 54) = .bool true := hF 54
    have ha := Reg.acts_eq [43, 44, 45, 46, 47, 48, 49, 50, 51, 52, 53, 54] hsz hdef hU
    clear hF hU hdef
    simp only [List.foldl_cons, List.foldl_nil, e54] at ha
    clear e54 hsz
    generalize a.eval (.tmp 43) = v43 at *
    generalize a.eval (.tmp 44) = v44 at *
    generalize a.eval (.tmp 45) = v45 at *
    generalize a.eval (.tmp 46) = v46 at *
    generalize a.eval (.tmp 47) = v47 at *
    generalize a.eval (.tmp 48) = v48 at *
    generalize a.eval (.tmp 49) = v49 at *
    generalize a.eval (.tmp 50) = v50 at *
    generalize a.eval (.tmp 51) = v51 at *
    generalize a.eval (.tmp 52) = v52 at *
    generalize a.eval (.tmp 53) = v53 at *
    simp only [Act.put, List.setIfInBounds_toArray, List.set_cons_succ, List.set_cons_zero] at ha
    subst ha
    simp only [Exit.then]
    refine ‹∀ (a : Act) (w : World), Code.wp Try.prog _ _ a w → _› _ W13 ?_
    have hf13 := hf12.below hGW13 hf12.lt
    have hB13 : Below w.heap.size w W13 := hB12.trans (hGW13.mono s12)
    clear hright hright0 hfront0 hl2 hlb hfc
    go_wp2_with (refine wp_storeW rfl 120 (.tmp 2) (.tmp 55) rfl w.heap.size rfl rfl rowFrame hf13 (by rfl) (by rfl) hz1 ?_)
    refine bodyPost_ret_by (results_cellW_tmp 2 3 rfl rfl rfl rowFrame (hf13.setRow _) (by rfl)) rfl (HGF.out _ _ (below_setRow hB13 (Nat.le_refl _) _) ?_)
    rw [hno]
    rfl
  | true =>
    obtain ⟨_, ⟨_, hi1⟩, ⟨_, hp1⟩, ⟨_, hz2⟩, _⟩ := (frOk_iff _ _ _ _ _).1 hk
    have hright := hright0
    rw [hk] at hright
    have hfront := fun w' (hG : Grow W12 w') => hfront0 w' (by omega) (by omega) (by omega) ((hin12.below hG).more hG.size) HL64.out
    rw [HL64.out] at hfront
    have hyes : isFrame l = (sectB (partB e i p fl z n) (l.drop 64) == l.take 64) := by rw [HFi.out, hk]; rfl
    have hFS : (sectB (partB e i p fl z n) (l.drop 64)).length = 64 := by rw [sectB_length, partB_length]
    generalize sectB (partB e i p fl z n) (l.drop 64) = FS at *
    generalize l.take 64 = T64 at *
    have HY := Lib.hid hyes
    have hc64 : 64 ≤ c := by omega
    clear hyes hk
    open Reg in
    refine region_acts (by kernel_rfl) (by kernel_rfl) 57 rfl (by kernel_rfl) [43, 44, 45, 46, 47, 48, 49, 50, 51, 52, 53, 54] (by kernel_rfl)
      [(2, .val (.pointer (some ⟨w.heap.size, 0, none⟩))), (0, .val (.slice (some ⟨b, o, none⟩) 576 c))]
      [(43, .val (.agg #[.int .u64 (e : Int), .int .i64 (i : Int), .int .i64 (p : Int), .bool fl, .int .i64 (z : Int), .int .u32 (n : Int), .slice A11 512 c11])), (44, .val (.bool true)), (45, .val (.bool false)), (46, .val (.bool false)), (47, .val (.agg #[.int .u64 (e : Int), .int .i64 (i : Int), .int .i64 (p : Int), .bool fl, .int .i64 (z : Int), .int .u32 (n : Int), .slice A11 512 c11])), (48, .val (.agg (FS.map b8).toArray)), (49, .val (.slice (some ⟨b, o, none⟩) 576 c)), (50, .val (.slice (some ⟨b, o, none⟩) 64 c)), (51, .val (.pointer (some ⟨b, o, none⟩))), (52, .val (.agg (T64.map b8).toArray)), (53, .val (.bool (FS != T64))), (54, .val (.bool (FS != T64)))]
      ⟨rfl, rfl, trivial⟩ (by kernel_rfl)
      (allOk_cons (ok_none rfl (l_loadV (.tmp 2) (⟨w.heap.size, 0, none⟩) 120 (.agg #[.int .u64 (e : Int), .int .i64 (i : Int), .int .i64 (p : Int), .bool fl, .int .i64 (z : Int), .int .u32 (n : Int), .slice A11 512 c11]) rfl (hs 2 (.pointer (some ⟨w.heap.size, 0, none⟩)) (by kernel_rfl) (by kernel_rfl)) (fun w hg => hl2 w hg) (by kernel_rfl)))
      <| allOk_cons (ok_none rfl (l_call 140 _ _ rfl (enters_of Try.func140 (by kernel_rfl) rfl) #[.agg #[.int .u64 (e : Int), .int .i64 (i : Int), .int .i64 (p : Int), .bool fl, .int .i64 (z : Int), .int .u32 (n : Int), .slice A11 512 c11]] (.val (.bool true)) (args1 (hs 43 (.agg #[.int .u64 (e : Int), .int .i64 (i : Int), .int .i64 (p : Int), .bool fl, .int .i64 (z : Int), .int .u32 (n : Int), .slice A11 512 c11]) (by kernel_rfl) (by kernel_rfl))) (fun w hg => gives_grow (hright w)) (by kernel_rfl)))
      <| allOk_cons (ok_none rfl (l_not (.tmp 44) true rfl (hs 44 _ (by kernel_rfl) (by kernel_rfl)) (by kernel_rfl)))
      <| allOk_cons (ok_none rfl (l_mvF 45 (.val (.bool false)) (.inl rfl) (by kernel_rfl) (by kernel_rfl) (by kernel_rfl)))
      <| allOk_cons (okg 3 false 46 rfl (by kernel_rfl) (by kernel_rfl) (by kernel_rfl) (l_loadV (.tmp 2) (⟨w.heap.size, 0, none⟩) 120 (.agg #[.int .u64 (e : Int), .int .i64 (i : Int), .int .i64 (p : Int), .bool fl, .int .i64 (z : Int), .int .u32 (n : Int), .slice A11 512 c11]) rfl (hs 2 (.pointer (some ⟨w.heap.size, 0, none⟩)) (by kernel_rfl) (by kernel_rfl)) (fun w hg => hl2 w hg) (by kernel_rfl)))
      <| allOk_cons (okg 3 false 46 rfl (by kernel_rfl) (by kernel_rfl) (by kernel_rfl) (l_call 141 _ _ rfl (enters_of Try.func141 (by kernel_rfl) rfl) #[.agg #[.int .u64 (e : Int), .int .i64 (i : Int), .int .i64 (p : Int), .bool fl, .int .i64 (z : Int), .int .u32 (n : Int), .slice A11 512 c11]] (.val (.agg (FS.map b8).toArray)) (args1 (hs 47 (.agg #[.int .u64 (e : Int), .int .i64 (i : Int), .int .i64 (p : Int), .bool fl, .int .i64 (z : Int), .int .u32 (n : Int), .slice A11 512 c11]) (by kernel_rfl) (by kernel_rfl))) (fun w hg => gives_grow (hfront w hg)) (by kernel_rfl)))
      <| allOk_cons (okg 3 false 46 rfl (by kernel_rfl) (by kernel_rfl) (by kernel_rfl) (l_mvF 0 (.val (.slice (some ⟨b, o, none⟩) 576 c)) (.inl rfl) (by kernel_rfl) (by kernel_rfl) (by kernel_rfl)))
      <| allOk_cons (okg 3 false 46 rfl (by kernel_rfl) (by kernel_rfl) (by kernel_rfl) (l_run2W (.tmp 49) (.const (.int .i64 64)) (.val (.slice (some ⟨b, o, none⟩) 64 c)) (.slice (some ⟨b, o, none⟩) 576 c) (.int .i64 ((64 : Nat) : Int)) (hs 49 _ (by kernel_rfl) (by kernel_rfl)) (hc _) (fun ρ w hg h1 h2 => ⟨_, w, cut_toN rfl h1 h2 hc64, Grow.refl _, rfl⟩) (by kernel_rfl)))
      <| allOk_cons (okg 3 false 46 rfl (by kernel_rfl) (by kernel_rfl) (by kernel_rfl) (l_s2a (.tmp 50) b o 64 c (by decide) rfl (hs 50 _ (by kernel_rfl) (by kernel_rfl)) (by kernel_rfl)))
      <| allOk_cons (okg 3 false 46 rfl (by kernel_rfl) (by kernel_rfl) (by kernel_rfl) (l_loadV (.tmp 51) (⟨b, o, none⟩) 236 (.agg (T64.map b8).toArray) rfl (hs 51 (.pointer (some ⟨b, o, none⟩)) (by kernel_rfl) (by kernel_rfl)) (fun w hg => hlb w hg) (by kernel_rfl)))
      <| allOk_cons (okg 3 false 46 rfl (by kernel_rfl) (by kernel_rfl) (by kernel_rfl) (l_neArr (.tmp 48) (.tmp 52) _ FS T64 hFS hT64 rfl (hs 48 _ (by kernel_rfl) (by kernel_rfl)) (hs 52 _ (by kernel_rfl) (by kernel_rfl)) (by kernel_rfl)))
      <| allOk_cons (ok_none rfl (l_pickF (.tmp 46) (.const (.bool true)) (.tmp 53) (.bool (FS != T64)) rfl (hs 46 _ (by kernel_rfl) (by kernel_rfl)) (hs 53 _ (by kernel_rfl) (by kernel_rfl)) (by kernel_rfl)))
      <| allOk_nil) ?_
    intro a W13 hsz hdef hGW13 hF hU
    have e54 : a.eval (.tmp 54) = .bool (FS != T64) := hF 54
    have ha := Reg.acts_eq [43, 44, 45, 46, 47, 48, 49, 50, 51, 52, 53, 54] hsz hdef hU
    clear hF hU hdef
    simp only [List.foldl_cons, List.foldl_nil, e54] at ha
    clear e54 hsz
    generalize a.eval (.tmp 43) = v43 at *
    generalize a.eval (.tmp 44) = v44 at *
    generalize a.eval (.tmp 45) = v45 at *
    generalize a.eval (.tmp 46) = v46 at *
    generalize a.eval (.tmp 47) = v47 at *
    generalize a.eval (.tmp 48) = v48 at *
    generalize a.eval (.tmp 49) = v49 at *
    generalize a.eval (.tmp 50) = v50 at *
    generalize a.eval (.tmp 51) = v51 at *
    generalize a.eval (.tmp 52) = v52 at *
    generalize a.eval (.tmp 53) = v53 at *
    simp only [Act.put, List.setIfInBounds_toArray, List.set_cons_succ, List.set_cons_zero] at ha
    subst ha
    simp only [Exit.then]
    refine ‹∀ (a : Act) (w : World), Code.wp Try.prog _ _ a w → _› _ W13 ?_
    have hf13 := hf12.below hGW13 hf12.lt
    have hB13 : Below w.heap.size w W13 := hB12.trans (hGW13.mono s12)
    have hin13 := (hin12.below hGW13).more hGW13.size
    clear hright hright0 hfront0 hfront hl2 hlb hT64 hFS
    have hbne : (FS != T64) = !(FS == T64) := rfl
    rw [hbne]
    cases hq : (FS == T64) with
    | false =>
      simp only [Bool.not_false]
      go_wp2_with (refine wp_storeW rfl 120 (.tmp 2) (.tmp 55) rfl w.heap.size rfl rfl rowFrame hf13 (by rfl) (by rfl) hz1 ?_)
      refine bodyPost_ret_by (results_cellW_tmp 2 3 rfl rfl rfl rowFrame (hf13.setRow _) (by rfl)) rfl (HGF.out _ _ (below_setRow hB13 (Nat.le_refl _) _) ?_)
      rw [HY.out, hq]
      rfl
    | true =>
      simp only [Bool.not_true]
      go_wp2_with (first
        | (refine wp_loadW rfl 120 (.tmp 2) rfl w.heap.size rfl rowFrame hf13 (by rfl) ?_)
        | (refine wp_storeW rfl 120 (.tmp 2) (.tmp 56) rfl w.heap.size rfl rfl rowFrame hf13 (by rfl) (by rfl) hfc ?_))
      have hself : W13.setRow w.heap.size #[.int .u64 (e : Int), .int .i64 (i : Int), .int .i64 (p : Int), .bool fl, .int .i64 (z : Int), .int .u32 (n : Int), .slice A11 512 c11] = W13 := setRow_self W13 _ _ _ _ hf13
      rw [hself]
      refine bodyPost_ret_by (results_cellW_tmp 2 3 rfl rfl rfl rowFrame hf13 (by rfl)) rfl (HGF.out _ _ hB13 ?_)
      rw [HY.out, hq]
      exact ⟨A11, c11, rfl, hin13⟩
theorem decode_gives (w : World) (A : Option Addr) (c : Nat) (l : List UInt8) (h : InB w w.heap.size A c l) :
    Calls Try.prog 76 #[.slice A l.length c] w (GivesFr w l) := by
  by_cases hl : l.length = 576
  · rw [hl]
    exact decode_576 w A c l h hl
  · exact decode_len w A c l h hl
end Go.Proofs.Ytlelckdcmlpmdaa
/- frame: Sectors, FrameAt, PageAt; the reference's; Right. -/
namespace Go.Proofs.Ytlelckdcmlpmdaa
open Go Go.RowKit Lou

section
variable (fr pg n : Int)
set_option maxRecDepth 100000 in
set_option maxHeartbeats 1000000 in
theorem sectors1_gives (W : World) (g : Nat) (hb : BlkIs W g 90 #[.int .i64 fr, .int .i64 pg]) (h1 : 1 ≤ fr ∧ fr ≤ 2000) (h2 : 1 ≤ pg ∧ pg ≤ 2000) :
    Calls Try.prog 123 #[.pointer (some ⟨g, 0, none⟩)] W fun e w' => e = .returned (.int .i64 (2 + 9 * fr + 8 * pg)) ∧ W = w' := by
  have hc0 : W.cell? ⟨g, 0, none⟩ = some (.int .i64 fr) := by rw [hb.cell]; rfl
  have hc1 : W.cell? ⟨g, 1, none⟩ = some (.int .i64 pg) := by rw [hb.cell]; rfl
  have e1 : IntKind.i64.wrap (9 * fr) = 9 * fr := wrap_i64_fr _ (by omega) (by omega)
  have e2 : IntKind.i64.wrap (2 + 9 * fr) = 2 + 9 * fr := wrap_i64_fr _ (by omega) (by omega)
  have e3 : IntKind.i64.wrap (8 * pg) = 8 * pg := wrap_i64_fr _ (by omega) (by omega)
  have e4 : IntKind.i64.wrap (2 + 9 * fr + 8 * pg) = 2 + 9 * fr + 8 * pg := wrap_i64_fr _ (by omega) (by omega)
  go_enter Try.func123, Try.ntmps123
  go_wp2
  go_ret
  exact ⟨rfl, rfl⟩
set_option maxRecDepth 100000 in
set_option maxHeartbeats 1000000 in
theorem frameAt1_gives (W : World) (g : Nat) (hb : BlkIs W g 3 #[.int .i64 n]) (h1 : 0 ≤ n ∧ n < 2000) :
    Calls Try.prog 124 #[.pointer (some ⟨g, 0, none⟩)] W fun e w' => e = .returned (.int .i64 (2 + 9 * n)) ∧ W = w' := by
  have hc0 : W.cell? ⟨g, 0, none⟩ = some (.int .i64 n) := by rw [hb.cell]; rfl
  have e1 : IntKind.i64.wrap (9 * n) = 9 * n := wrap_i64_fr _ (by omega) (by omega)
  have e2 : IntKind.i64.wrap (2 + 9 * n) = 2 + 9 * n := wrap_i64_fr _ (by omega) (by omega)
  go_enter Try.func124, Try.ntmps124
  go_wp2
  go_ret
  exact ⟨rfl, rfl⟩
set_option maxRecDepth 100000 in
set_option maxHeartbeats 1000000 in
theorem pageAt1_gives (W : World) (g g2 : Nat) (hb : BlkIs W g 90 #[.int .i64 fr, .int .i64 pg]) (hb2 : BlkIs W g2 3 #[.int .i64 n]) (h1 : 1 ≤ fr ∧ fr ≤ 2000) (h2 : 0 ≤ n ∧ n < 2000) :
    Calls Try.prog 125 #[.pointer (some ⟨g, 0, none⟩), .pointer (some ⟨g2, 0, none⟩)] W fun e w' => e = .returned (.int .i64 (2 + 9 * fr + 8 * n)) ∧ W = w' := by
  have hc0 : W.cell? ⟨g, 0, none⟩ = some (.int .i64 fr) := by rw [hb.cell]; rfl
  have hc1 : W.cell? ⟨g2, 0, none⟩ = some (.int .i64 n) := by rw [hb2.cell]; rfl
  have e1 : IntKind.i64.wrap (9 * fr) = 9 * fr := wrap_i64_fr _ (by omega) (by omega)
  have e2 : IntKind.i64.wrap (2 + 9 * fr) = 2 + 9 * fr := wrap_i64_fr _ (by omega) (by omega)
  have e3 : IntKind.i64.wrap (8 * n) = 8 * n := wrap_i64_fr _ (by omega) (by omega)
  have e4 : IntKind.i64.wrap (2 + 9 * fr + 8 * n) = 2 + 9 * fr + 8 * n := wrap_i64_fr _ (by omega) (by omega)
  go_enter Try.func125, Try.ntmps125
  go_wp2
  go_ret
  exact ⟨rfl, rfl⟩

def atV (r e : Int) : Value := .tuple #[.int .i64 (if e = 0 then r else 0), .int .i64 e]
set_option maxRecDepth 100000 in
set_option maxHeartbeats 1000000 in
theorem sectors_gives (w : World) : Calls Try.prog 56 #[.agg #[.int .i64 fr, .int .i64 pg]] w fun e w' => e = .returned (atV (2 + 9 * fr + 8 * pg) (plE (planOk fr pg) 0 1)) ∧ Below w.heap.size w w' := by
  have hB0 : Below w.heap.size w (w.alloc (.cells #[.int .i64 fr, .int .i64 pg] 90)) := (Below.refl _ w).alloc (Nat.le_refl _) _
  have hb := BlkIs.new w 90 #[.int .i64 fr, .int .i64 pg]
  have H := place_gives fr pg 0 1 (2 + 9 * fr + 8 * pg) 123 #[.pointer (some ⟨w.heap.size, 0, none⟩)] (enters_of Try.func123 (by kernel_rfl) rfl) (w.alloc (.cells #[.int .i64 fr, .int .i64 pg] 90))
    (fun hp _ _ W hW => sectors1_gives fr pg W _ (hb.below hW (by simp)) ((planOk_iff fr pg).1 hp).1 ((planOk_iff fr pg).1 hp).2)
  unfold atV
  generalize plE (planOk fr pg) 0 1 = e at *
  generalize (if e = 0 then 2 + 9 * fr + 8 * pg else 0) = v at *
  go_enter Try.func56, Try.ntmps56
  go_wp2_with fail
  refine H.mono ?_
  rintro e w' ⟨rfl, hB⟩
  go_wp2
  refine bodyPost_ret (results_tmp2 rfl _ _ _) rfl ?_
  exact ⟨rfl, hB0.trans (hB.mono (by simp))⟩
set_option maxRecDepth 100000 in
set_option maxHeartbeats 1000000 in
theorem frameAt_gives (w : World) : Calls Try.prog 57 #[.agg #[.int .i64 fr, .int .i64 pg], .int .i64 n] w fun e w' => e = .returned (atV (2 + 9 * n) (plE (planOk fr pg) n fr)) ∧ Below w.heap.size w w' := by
  have hB0 : Below w.heap.size w ((w.alloc (.cells #[.int .i64 fr, .int .i64 pg] 90)).alloc (.cells #[.int .i64 n] 3)) := ((Below.refl _ w).alloc (Nat.le_refl _) _).alloc (by simp) _
  have hb := BlkIs.new (w.alloc (.cells #[.int .i64 fr, .int .i64 pg] 90)) 3 #[.int .i64 n]
  rw [World.size_alloc] at hb
  have H := place_gives fr pg n fr (2 + 9 * n) 124 #[.pointer (some ⟨w.heap.size + 1, 0, none⟩)] (enters_of Try.func124 (by kernel_rfl) rfl) ((w.alloc (.cells #[.int .i64 fr, .int .i64 pg] 90)).alloc (.cells #[.int .i64 n] 3))
    (fun hp h0 hn W hW => frameAt1_gives n W _ (hb.below hW (by simp)) (by have := (planOk_iff fr pg).1 hp; omega))
  unfold atV
  generalize plE (planOk fr pg) n fr = e at *
  generalize (if e = 0 then 2 + 9 * n else 0) = v at *
  go_enter Try.func57, Try.ntmps57
  go_wp2_with fail
  refine H.mono ?_
  rintro e w' ⟨rfl, hB⟩
  go_wp2
  refine bodyPost_ret (results_tmp2 rfl _ _ _) rfl ?_
  exact ⟨rfl, hB0.trans (hB.mono (by simp; omega))⟩
set_option maxRecDepth 100000 in
set_option maxHeartbeats 1000000 in
theorem pageAt_gives (w : World) : Calls Try.prog 58 #[.agg #[.int .i64 fr, .int .i64 pg], .int .i64 n] w fun e w' => e = .returned (atV (2 + 9 * fr + 8 * n) (plE (planOk fr pg) n pg)) ∧ Below w.heap.size w w' := by
  have hB0 : Below w.heap.size w ((w.alloc (.cells #[.int .i64 fr, .int .i64 pg] 90)).alloc (.cells #[.int .i64 n] 3)) := ((Below.refl _ w).alloc (Nat.le_refl _) _).alloc (by simp) _
  have hb := BlkIs.new (w.alloc (.cells #[.int .i64 fr, .int .i64 pg] 90)) 3 #[.int .i64 n]
  have hb0 := (BlkIs.new w 90 #[.int .i64 fr, .int .i64 pg]).alloc (.cells #[.int .i64 n] 3)
  rw [World.size_alloc] at hb
  have H := place_gives fr pg n pg (2 + 9 * fr + 8 * n) 125 #[.pointer (some ⟨w.heap.size, 0, none⟩), .pointer (some ⟨w.heap.size + 1, 0, none⟩)] (enters_of Try.func125 (by kernel_rfl) rfl) ((w.alloc (.cells #[.int .i64 fr, .int .i64 pg] 90)).alloc (.cells #[.int .i64 n] 3))
    (fun hp h0 hn W hW => pageAt1_gives fr pg n W _ _ (hb0.below hW (by simp; omega)) (hb.below hW (by simp)) (by have := (planOk_iff fr pg).1 hp; omega) (by have := (planOk_iff fr pg).1 hp; omega))
  unfold atV
  generalize plE (planOk fr pg) n pg = e at *
  generalize (if e = 0 then 2 + 9 * fr + 8 * n else 0) = v at *
  go_enter Try.func58, Try.ntmps58
  go_wp2_with fail
  refine H.mono ?_
  rintro e w' ⟨rfl, hB⟩
  go_wp2
  refine bodyPost_ret (results_tmp2 rfl _ _ _) rfl ?_
  exact ⟨rfl, hB0.trans (hB.mono (by simp; omega))⟩
set_option maxRecDepth 100000 in
set_option maxHeartbeats 1000000 in
theorem refRight_gives (w : World) : Calls Try.prog 59 #[.agg #[.int .i64 fr, .int .i64 pg]] w fun e w' => e = .returned (.bool (planOk fr pg)) ∧ Below w.heap.size w w' := by
  have hB0 : Below w.heap.size w (w.alloc (.cells #[.int .i64 fr, .int .i64 pg] 90)) := (Below.refl _ w).alloc (Nat.le_refl _) _
  have hk := planOk_iff fr pg
  generalize planOk fr pg = b at *
  by_cases h1 : 1 ≤ fr
  · by_cases h2 : fr ≤ 2000
    · by_cases h3 : 1 ≤ pg
      · by_cases h4 : pg ≤ 2000
        · have e : b = true := hk.2 ⟨⟨h1, h2⟩, h3, h4⟩
          subst e
          clear hk
          go_enter Try.func59, Try.ntmps59
          go_wp2
          go_ret
          exact ⟨by first | rfl | simp [h4], hB0⟩
        · have e : b = false := by cases b; rfl; exact absurd (hk.1 rfl).2.2 h4
          subst e
          clear hk
          go_enter Try.func59, Try.ntmps59
          go_wp2
          go_ret
          exact ⟨by first | rfl | simp [h4], hB0⟩
      · have e : b = false := by cases b; rfl; exact absurd (hk.1 rfl).2.1 h3
        subst e
        clear hk
        go_enter Try.func59, Try.ntmps59
        go_wp2
        go_ret
        exact ⟨by first | rfl | simp [h3], hB0⟩
    · have e : b = false := by cases b; rfl; exact absurd (hk.1 rfl).1.2 h2
      subst e
      clear hk
      go_enter Try.func59, Try.ntmps59
      go_wp2
      go_ret
      exact ⟨by first | rfl | simp [h2], hB0⟩
  · have e : b = false := by cases b; rfl; exact absurd (hk.1 rfl).1.1 h1
    subst e
    clear hk
    go_enter Try.func59, Try.ntmps59
    go_wp2
    go_ret
    exact ⟨by first | rfl | simp [h1], hB0⟩
end
end Go.Proofs.Ytlelckdcmlpmdaa
/- loupelaw05: num, works. -/
namespace Go.Proofs.Ytlelckdcmlpmdaa
open Go Go.RowKit Lou

theorem rowPlan : RowTy Try.prog 90 2 := ⟨⟨_, Try.underlying90, rfl⟩, by kernel_rfl⟩
theorem num5_gives (e : Int) (w : World) : Calls Try.prog 60 #[.int .i64 e] w fun x w' => x = .returned (.int .i64 e) ∧ w = w' := by
  go_enter Try.func60, Try.ntmps60
  go_wp2
  go_ret
  exact ⟨rfl, rfl⟩
theorem Reg.gives_num5 (m : Int) (w : World) : Calls Try.prog 60 #[.int .i64 m] w fun e w' => ∃ v, e = .returned v ∧ Grow w w' ∧ v = .int .i64 m :=
  (num5_gives m w).mono (by rintro e w' ⟨rfl, rfl⟩; exact ⟨_, rfl, Grow.refl _, rfl⟩)
def head12 : List UInt8 := [0, 0, 0, 0, 0, 0, 0, 1, 0, 0, 0, 0, 0, 0, 0, 2, 0, 0, 0, 0, 0, 0, 0, 0]
theorem headB12 : headB 1 2 0 0 = head12 := by decide +kernel
set_option maxRecDepth 100000 in
set_option maxHeartbeats 4000000 in
theorem works5_gives (w : World) : Calls Try.prog 62 #[] w fun e w' => e = .returned (.bool true) ∧ Below w.heap.size w w' := by
  have H1 : ∀ W, Calls Try.prog 56 #[.agg #[.int .i64 3, .int .i64 4]] W fun e w' => e = .returned (.tuple #[.int .i64 61, .int .i64 0]) ∧ Below W.heap.size W w' := fun W => sectors_gives 3 4 W
  have H2 : ∀ W, Calls Try.prog 57 #[.agg #[.int .i64 3, .int .i64 4], .int .i64 2] W fun e w' => e = .returned (.tuple #[.int .i64 20, .int .i64 0]) ∧ Below W.heap.size W w' := fun W => frameAt_gives 3 4 2 W
  have H3 : ∀ W, Calls Try.prog 58 #[.agg #[.int .i64 3, .int .i64 4], .int .i64 0] W fun e w' => e = .returned (.tuple #[.int .i64 29, .int .i64 0]) ∧ Below W.heap.size W w' := fun W => pageAt_gives 3 4 0 W
  have H4 : ∀ W, Calls Try.prog 58 #[.agg #[.int .i64 3, .int .i64 4], .int .i64 4] W fun e w' => e = .returned (.tuple #[.int .i64 0, .int .i64 4]) ∧ Below W.heap.size W w' := fun W => pageAt_gives 3 4 4 W
  have H5 : ∀ W, Calls Try.prog 70 #[.agg #[.int .u64 1, .int .u64 2, .int .i64 0, .int .i64 0]] W (GivesBE W (twiceB head12) 0) := fun W => by
    have h := encodeHead_gives 1 2 0 0 W
    have e1 : hEnc 1 2 0 0 = twiceB head12 := by
      rw [← headB12]
      rfl
    rw [e1] at h
    exact h
  have hb0 := BlkIs.new w 90 #[.int .i64 3, .int .i64 4]
  go_enter Try.func62, Try.ntmps62
  go_wp2_with fail
  refine (H1 _).mono ?_
  rintro x W1 ⟨rfl, hB⟩
  have hB1 : Below w.heap.size w W1 := ((Below.refl _ w).alloc (Nat.le_refl _) _).trans (hB.mono (by simp))
  have hb1 := hb0.below hB hb0.lt
  clear hB hb0 H1
  go_wp2_with (first
    | (refine wp_loadW rfl 90 (.tmp 1) rfl w.heap.size rfl rowPlan (by assumption) (by rfl) ?_)
    | (go_at_call 57; refine (H2 _).mono ?_; rintro x W2 ⟨rfl, hB⟩; have hB2 := hB1.trans (hB.mono hB1.size); have hb2 := hb1.below hB hb1.lt; clear hB)
    | (go_at_call 58; (with_reducible refine (H3 _).mono ?_); rintro x W3 ⟨rfl, hB⟩; have hB3 := hB2.trans (hB.mono hB2.size); have hb3 := hb2.below hB hb2.lt; clear hB)
    | (go_at_call 58; (with_reducible refine (H4 _).mono ?_); rintro x W4 ⟨rfl, hB⟩; have hB4 := hB3.trans (hB.mono hB3.size); clear hB)
    | (go_at_call 70; (with_reducible refine (H5 _).mono ?_); rintro x W5 ⟨A, c, rfl, hin, hB⟩; have hB5 := hB4.trans (hB.mono hB4.size); clear hB))
  have hle := hin.le
  have hd : (twiceB head12).length = 64 := by rw [twiceB_length]; rfl
  have hd7 : ∀ h, ((twiceB head12)[7]'h) = 1 := by decide +kernel
  have hd15 : ∀ h, ((twiceB head12)[15]'h) = 2 := by decide +kernel
  have hd24 : (twiceB head12).take 24 = head12 := twiceB_take head12
  have hd28 : ((twiceB head12).drop 24).take (28 - 24) = fixL 4 (sumL head12) := by decide +kernel
  clear H2 H3 H4 H5 hb1 hb2 hb3 hB1 hB2 hB3 hB4
  generalize twiceB head12 = D at *
  obtain ⟨g, o, rfl, hg, hc⟩ := hin.lies (by omega)
  have hk7 : 7 < D.length := by omega
  have hk15 : 15 < D.length := by omega
  have hk24 : 24 ≤ D.length := by omega
  have hk28 : 28 ≤ D.length := by omega
  have hc7 : ∀ w', Grow W5 w' → w'.cell? ⟨g, o + 7, none⟩ = some (.int .u8 1) := fun w' hG => (hG.cell (p := ⟨g, o + 7, none⟩) hg).trans (by rw [hc 7 hk7, hd7]; rfl)
  have hc15 : ∀ w', Grow W5 w' → w'.cell? ⟨g, o + 15, none⟩ = some (.int .u8 2) := fun w' hG => (hG.cell (p := ⟨g, o + 15, none⟩) hg).trans (by rw [hc 15 hk15, hd15]; rfl)
  have hS32 := sumL_lt head12
  have hsum : ∀ w', Grow W5 w' → Calls Try.prog 37 #[.slice (some ⟨g, o, none⟩) (D.take 24).length c] w' fun e w2 => e = .returned (.int .u32 (sumL head12 : Int)) ∧ w' = w2 := fun w' hG => by
    have h := refSum_gives w' _ _ _ _ ((hin.below hG).take 24 c hk24 (by omega) (Nat.le_refl _))
    rw [hd24] at h ⊢
    exact h
  have hfix : ∀ w', Calls Try.prog 44 #[.int .u64 (sumL head12 : Int), .int .i64 4] w' (GivesB w' (fixL 4 (sumL head12))) := fun w' => refFixed_gives 4 (sumL head12) (by omega) (by omega) w'
  have hstr : ∀ w', Grow W5 w' → (convert 30 9 (.slice (cutA (some ⟨g, o, none⟩) c 24) ((D.drop 24).take (28 - 24)).length (c - 24))).run Try.prog w' = .ok (.string (str (fixL 4 (sumL head12)))) w' := fun w' hG => by
    have h := (((hin.below hG).drop 24 hk24).take (28 - 24) (c - 24) (by simp; omega) (by omega) (Nat.le_refl _)).string
    rw [hd28] at h ⊢
    exact h
  have hlen64 : ∀ {ρ : Operand → Value} {w : World} {o2 : Oper} {t : Tmp} {gg oo : Nat}, o2.op = .call { callee := .builtin .len, args := #[.tmp t], argTypes := #[30] } → ρ (.tmp t) = .slice (some ⟨gg, oo, none⟩) D.length c → (execOp ρ o2).run Try.prog w = .ok (.value (.int .i64 64)) w := fun ho h => by
    have hT : Try.prog.underlying 30 = some (.slice (Try.prog.elem 30)) := by kernel_rfl
    rw [hd] at h
    simp [execOp, ho, h, go_sem, resolve, invoke, run_len_slice _ _ _ _ _ _ hT]
  generalize sumL head12 = S at *
  clear hd hd7 hd15 hd24 hd28 hc
  open Reg in
  refine region_facts (by kernel_rfl) (by kernel_rfl) 96 rfl (by kernel_rfl)
    [(2, .val (.int .i64 61)), (3, .val (.int .i64 0)), (4, .val (.int .i64 20)), (5, .val (.int .i64 0)), (6, .val (.int .i64 29)), (7, .val (.int .i64 0)), (9, .val (.int .i64 4)), (10, .val (.slice (some ⟨g, o, none⟩) D.length c)), (11, .val (.int .i64 0))]
    [(38, .val (.int .i64 0)), (39, .val (.int .i64 0)), (40, .val (.int .i64 0)), (41, .val (.int .i64 0)), (42, .val (.int .i64 0)), (43, .val (.int .i64 0)), (44, .val (.int .i64 0)), (45, .val (.int .i64 0)), (46, .val (.int .i64 0)), (47, .val (.int .i64 0)), (48, .val (.int .i64 0)), (49, .val (.bool true)), (50, .val (.bool true)), (51, .val (.int .i64 61)), (52, .val (.bool true)), (53, .val (.bool true)), (54, .val (.bool true)), (55, .val (.int .i64 20)), (56, .val (.bool true)), (57, .val (.bool true)), (58, .val (.bool true)), (59, .val (.int .i64 29)), (60, .val (.bool true)), (61, .val (.bool true)), (62, .val (.bool true)), (63, .val (.int .i64 4)), (64, .val (.int .i64 4)), (65, .val (.bool true)), (66, .val (.bool true)), (67, .val (.bool true)), (68, .val (.slice (some ⟨g, o, none⟩) D.length c)), (69, .val (.int .i64 64)), (70, .val (.bool true)), (71, .val (.bool true)), (72, .val (.bool true)), (73, .val (.slice (some ⟨g, o, none⟩) D.length c)), (74, .val (.pointer (some ⟨g, o + 7, none⟩))), (75, .val (.int .u8 1)), (76, .val (.bool true)), (77, .val (.bool true)), (78, .val (.bool true)), (79, .val (.slice (some ⟨g, o, none⟩) D.length c)), (80, .val (.pointer (some ⟨g, o + 15, none⟩))), (81, .val (.int .u8 2)), (82, .val (.bool true)), (83, .val (.bool true)), (84, .val (.bool true)), (85, .val (.slice (some ⟨g, o, none⟩) D.length c)), (86, .val (.slice (cutA (some ⟨g, o, none⟩) c 24) ((D.drop 24).take (28 - 24)).length (c - 24))), (87, .val (.string (str (fixL 4 S)))), (88, .val (.slice (some ⟨g, o, none⟩) D.length c)), (89, .val (.slice (some ⟨g, o, none⟩) (D.take 24).length c)), (90, .val (.int .u32 (S : Int))), (91, .val (.int .u64 (S : Int))), (92, .res (fixL 4 S)), (93, .val (.string (str (fixL 4 S)))), (94, .val (.bool true)), (95, .val (.bool true)), (0, .val (.bool true))]
    ⟨rfl, rfl, rfl, rfl, rfl, rfl, rfl, rfl, rfl, trivial⟩ (by kernel_rfl)
    (allOk_cons (ok_none rfl (l_mvF 3 (.val (.int .i64 0)) (.inl rfl) (by kernel_rfl) (by kernel_rfl) (by kernel_rfl)))
    <| allOk_cons (ok_none rfl (l_call 60 _ _ rfl (enters_of Try.func60 (by kernel_rfl) rfl) #[.int .i64 0] (.val (.int .i64 0)) (args1 (hs 38 (.int .i64 0) (by kernel_rfl) (by kernel_rfl))) (fun w hg => gives_num5 _ w) (by kernel_rfl)))
    <| allOk_cons (ok_none rfl (l_mvF 5 (.val (.int .i64 0)) (.inl rfl) (by kernel_rfl) (by kernel_rfl) (by kernel_rfl)))
    <| allOk_cons (ok_none rfl (l_call 60 _ _ rfl (enters_of Try.func60 (by kernel_rfl) rfl) #[.int .i64 0] (.val (.int .i64 0)) (args1 (hs 40 (.int .i64 0) (by kernel_rfl) (by kernel_rfl))) (fun w hg => gives_num5 _ w) (by kernel_rfl)))
    <| allOk_cons (ok_none rfl (l_add (.tmp 39) (.tmp 41) _ _ .i64 0 0 0 rfl Try.underlying3 (hs 39 (.int .i64 0) (by kernel_rfl) (by kernel_rfl)) (hs 41 (.int .i64 0) (by kernel_rfl) (by kernel_rfl)) (by decide) (by kernel_rfl)))
    <| allOk_cons (ok_none rfl (l_mvF 7 (.val (.int .i64 0)) (.inl rfl) (by kernel_rfl) (by kernel_rfl) (by kernel_rfl)))
    <| allOk_cons (ok_none rfl (l_call 60 _ _ rfl (enters_of Try.func60 (by kernel_rfl) rfl) #[.int .i64 0] (.val (.int .i64 0)) (args1 (hs 43 (.int .i64 0) (by kernel_rfl) (by kernel_rfl))) (fun w hg => gives_num5 _ w) (by kernel_rfl)))
    <| allOk_cons (ok_none rfl (l_add (.tmp 42) (.tmp 44) _ _ .i64 0 0 0 rfl Try.underlying3 (hs 42 (.int .i64 0) (by kernel_rfl) (by kernel_rfl)) (hs 44 (.int .i64 0) (by kernel_rfl) (by kernel_rfl)) (by decide) (by kernel_rfl)))
    <| allOk_cons (ok_none rfl (l_mvF 11 (.val (.int .i64 0)) (.inl rfl) (by kernel_rfl) (by kernel_rfl) (by kernel_rfl)))
    <| allOk_cons (ok_none rfl (l_call 60 _ _ rfl (enters_of Try.func60 (by kernel_rfl) rfl) #[.int .i64 0] (.val (.int .i64 0)) (args1 (hs 46 (.int .i64 0) (by kernel_rfl) (by kernel_rfl))) (fun w hg => gives_num5 _ w) (by kernel_rfl)))
    <| allOk_cons (ok_none rfl (l_add (.tmp 45) (.tmp 47) _ _ .i64 0 0 0 rfl Try.underlying3 (hs 45 (.int .i64 0) (by kernel_rfl) (by kernel_rfl)) (hs 47 (.int .i64 0) (by kernel_rfl) (by kernel_rfl)) (by decide) (by kernel_rfl)))
    <| allOk_cons (ok_none rfl (l_eqi (.tmp 48) (.const (Go.Value.int Go.IntKind.i64 0)) _ _ .i64 (0) rfl Try.underlying3 (hs 48 (.int .i64 0) (by kernel_rfl) (by kernel_rfl)) (hc _) (by kernel_rfl)))
    <| allOk_cons (ok_none rfl (l_mvF 49 (.val (.bool true)) (.inl rfl) (by kernel_rfl) (by kernel_rfl) (by kernel_rfl)))
    <| allOk_cons (okg 12 true 50 rfl (by kernel_rfl) (by kernel_rfl) (by kernel_rfl) (l_mvF 2 (.val (.int .i64 61)) (.inl rfl) (by kernel_rfl) (by kernel_rfl) (by kernel_rfl)))
    <| allOk_cons (okg 12 true 50 rfl (by kernel_rfl) (by kernel_rfl) (by kernel_rfl) (l_eqi (.tmp 51) (.const (Go.Value.int Go.IntKind.i64 61)) _ _ .i64 (61) rfl Try.underlying3 (hs 51 (.int .i64 61) (by kernel_rfl) (by kernel_rfl)) (hc _) (by kernel_rfl)))
    <| allOk_cons (ok_none rfl (l_pick (.tmp 50) (.tmp 52) (.bool true) rfl (hs 50 (.bool true) (by kernel_rfl) (by kernel_rfl)) (hs 52 (.bool true) (by kernel_rfl) (by kernel_rfl)) (by kernel_rfl)))
    <| allOk_cons (ok_none rfl (l_mvF 53 (.val (.bool true)) (.inl rfl) (by kernel_rfl) (by kernel_rfl) (by kernel_rfl)))
    <| allOk_cons (okg 16 true 54 rfl (by kernel_rfl) (by kernel_rfl) (by kernel_rfl) (l_mvF 4 (.val (.int .i64 20)) (.inl rfl) (by kernel_rfl) (by kernel_rfl) (by kernel_rfl)))
    <| allOk_cons (okg 16 true 54 rfl (by kernel_rfl) (by kernel_rfl) (by kernel_rfl) (l_eqi (.tmp 55) (.const (Go.Value.int Go.IntKind.i64 20)) _ _ .i64 (20) rfl Try.underlying3 (hs 55 (.int .i64 20) (by kernel_rfl) (by kernel_rfl)) (hc _) (by kernel_rfl)))
    <| allOk_cons (ok_none rfl (l_pick (.tmp 54) (.tmp 56) (.bool true) rfl (hs 54 (.bool true) (by kernel_rfl) (by kernel_rfl)) (hs 56 (.bool true) (by kernel_rfl) (by kernel_rfl)) (by kernel_rfl)))
    <| allOk_cons (ok_none rfl (l_mvF 57 (.val (.bool true)) (.inl rfl) (by kernel_rfl) (by kernel_rfl) (by kernel_rfl)))
    <| allOk_cons (okg 20 true 58 rfl (by kernel_rfl) (by kernel_rfl) (by kernel_rfl) (l_mvF 6 (.val (.int .i64 29)) (.inl rfl) (by kernel_rfl) (by kernel_rfl) (by kernel_rfl)))
    <| allOk_cons (okg 20 true 58 rfl (by kernel_rfl) (by kernel_rfl) (by kernel_rfl) (l_eqi (.tmp 59) (.const (Go.Value.int Go.IntKind.i64 29)) _ _ .i64 (29) rfl Try.underlying3 (hs 59 (.int .i64 29) (by kernel_rfl) (by kernel_rfl)) (hc _) (by kernel_rfl)))
    <| allOk_cons (ok_none rfl (l_pick (.tmp 58) (.tmp 60) (.bool true) rfl (hs 58 (.bool true) (by kernel_rfl) (by kernel_rfl)) (hs 60 (.bool true) (by kernel_rfl) (by kernel_rfl)) (by kernel_rfl)))
    <| allOk_cons (ok_none rfl (l_mvF 61 (.val (.bool true)) (.inl rfl) (by kernel_rfl) (by kernel_rfl) (by kernel_rfl)))
    <| allOk_cons (okg 24 true 62 rfl (by kernel_rfl) (by kernel_rfl) (by kernel_rfl) (l_mvF 9 (.val (.int .i64 4)) (.inl rfl) (by kernel_rfl) (by kernel_rfl) (by kernel_rfl)))
    <| allOk_cons (okg 24 true 62 rfl (by kernel_rfl) (by kernel_rfl) (by kernel_rfl) (l_call 60 _ _ rfl (enters_of Try.func60 (by kernel_rfl) rfl) #[.int .i64 4] (.val (.int .i64 4)) (args1 (hs 63 (.int .i64 4) (by kernel_rfl) (by kernel_rfl))) (fun w hg => gives_num5 _ w) (by kernel_rfl)))
    <| allOk_cons (okg 24 true 62 rfl (by kernel_rfl) (by kernel_rfl) (by kernel_rfl) (l_eqi (.tmp 64) (.const (Go.Value.int Go.IntKind.i64 4)) _ _ .i64 (4) rfl Try.underlying3 (hs 64 (.int .i64 4) (by kernel_rfl) (by kernel_rfl)) (hc _) (by kernel_rfl)))
    <| allOk_cons (ok_none rfl (l_pick (.tmp 62) (.tmp 65) (.bool true) rfl (hs 62 (.bool true) (by kernel_rfl) (by kernel_rfl)) (hs 65 (.bool true) (by kernel_rfl) (by kernel_rfl)) (by kernel_rfl)))
    <| allOk_cons (ok_none rfl (l_mvF 66 (.val (.bool true)) (.inl rfl) (by kernel_rfl) (by kernel_rfl) (by kernel_rfl)))
    <| allOk_cons (okg 29 true 67 rfl (by kernel_rfl) (by kernel_rfl) (by kernel_rfl) (l_mvF 10 (.val (.slice (some ⟨g, o, none⟩) D.length c)) (.inl rfl) (by kernel_rfl) (by kernel_rfl) (by kernel_rfl)))
    <| allOk_cons (okg 29 true 67 rfl (by kernel_rfl) (by kernel_rfl) (by kernel_rfl) (l_run1W (.tmp 68) (.val (.int .i64 64)) (.slice (some ⟨g, o, none⟩) D.length c) (hs 68 _ (by kernel_rfl) (by kernel_rfl)) (fun ρ w hg h => ⟨_, w, hlen64 rfl h, Grow.refl _, rfl⟩) (by kernel_rfl)))
    <| allOk_cons (okg 29 true 67 rfl (by kernel_rfl) (by kernel_rfl) (by kernel_rfl) (l_eqi (.tmp 69) (.const (Go.Value.int Go.IntKind.i64 64)) _ _ .i64 (64) rfl Try.underlying3 (hs 69 (.int .i64 64) (by kernel_rfl) (by kernel_rfl)) (hc _) (by kernel_rfl)))
    <| allOk_cons (ok_none rfl (l_pick (.tmp 67) (.tmp 70) (.bool true) rfl (hs 67 (.bool true) (by kernel_rfl) (by kernel_rfl)) (hs 70 (.bool true) (by kernel_rfl) (by kernel_rfl)) (by kernel_rfl)))
    <| allOk_cons (ok_none rfl (l_mvF 71 (.val (.bool true)) (.inl rfl) (by kernel_rfl) (by kernel_rfl) (by kernel_rfl)))
    <| allOk_cons (okg 34 true 72 rfl (by kernel_rfl) (by kernel_rfl) (by kernel_rfl) (l_mvF 10 (.val (.slice (some ⟨g, o, none⟩) D.length c)) (.inl rfl) (by kernel_rfl) (by kernel_rfl) (by kernel_rfl)))
    <| allOk_cons (okg 34 true 72 rfl (by kernel_rfl) (by kernel_rfl) (by kernel_rfl) (l_idxS (.tmp 73) (.const (Go.Value.int Go.IntKind.i64 7)) g o D.length c 7 hk7 rfl (hs 73 (.slice (some ⟨g, o, none⟩) D.length c) (by kernel_rfl) (by kernel_rfl)) (hc _) (by kernel_rfl)))
    <| allOk_cons (okg 34 true 72 rfl (by kernel_rfl) (by kernel_rfl) (by kernel_rfl) (l_load (.tmp 74) (⟨g, o + 7, none⟩) _ (.int .u8 1) (by intro w; simp [go_sem, Try.underlying5]) rfl (hs 74 (.pointer (some ⟨g, o + 7, none⟩)) (by kernel_rfl) (by kernel_rfl)) (fun w hg => hc7 w hg) (by kernel_rfl)))
    <| allOk_cons (okg 34 true 72 rfl (by kernel_rfl) (by kernel_rfl) (by kernel_rfl) (l_eqi (.tmp 75) (.const (Go.Value.int Go.IntKind.u8 1)) _ _ .u8 (1) rfl Try.underlying5 (hs 75 (.int .u8 1) (by kernel_rfl) (by kernel_rfl)) (hc _) (by kernel_rfl)))
    <| allOk_cons (ok_none rfl (l_pick (.tmp 72) (.tmp 76) (.bool true) rfl (hs 72 (.bool true) (by kernel_rfl) (by kernel_rfl)) (hs 76 (.bool true) (by kernel_rfl) (by kernel_rfl)) (by kernel_rfl)))
    <| allOk_cons (ok_none rfl (l_mvF 77 (.val (.bool true)) (.inl rfl) (by kernel_rfl) (by kernel_rfl) (by kernel_rfl)))
    <| allOk_cons (okg 40 true 78 rfl (by kernel_rfl) (by kernel_rfl) (by kernel_rfl) (l_mvF 10 (.val (.slice (some ⟨g, o, none⟩) D.length c)) (.inl rfl) (by kernel_rfl) (by kernel_rfl) (by kernel_rfl)))
    <| allOk_cons (okg 40 true 78 rfl (by kernel_rfl) (by kernel_rfl) (by kernel_rfl) (l_idxS (.tmp 79) (.const (Go.Value.int Go.IntKind.i64 15)) g o D.length c 15 hk15 rfl (hs 79 (.slice (some ⟨g, o, none⟩) D.length c) (by kernel_rfl) (by kernel_rfl)) (hc _) (by kernel_rfl)))
    <| allOk_cons (okg 40 true 78 rfl (by kernel_rfl) (by kernel_rfl) (by kernel_rfl) (l_load (.tmp 80) (⟨g, o + 15, none⟩) _ (.int .u8 2) (by intro w; simp [go_sem, Try.underlying5]) rfl (hs 80 (.pointer (some ⟨g, o + 15, none⟩)) (by kernel_rfl) (by kernel_rfl)) (fun w hg => hc15 w hg) (by kernel_rfl)))
    <| allOk_cons (okg 40 true 78 rfl (by kernel_rfl) (by kernel_rfl) (by kernel_rfl) (l_eqi (.tmp 81) (.const (Go.Value.int Go.IntKind.u8 2)) _ _ .u8 (2) rfl Try.underlying5 (hs 81 (.int .u8 2) (by kernel_rfl) (by kernel_rfl)) (hc _) (by kernel_rfl)))
    <| allOk_cons (ok_none rfl (l_pick (.tmp 78) (.tmp 82) (.bool true) rfl (hs 78 (.bool true) (by kernel_rfl) (by kernel_rfl)) (hs 82 (.bool true) (by kernel_rfl) (by kernel_rfl)) (by kernel_rfl)))
    <| allOk_cons (ok_none rfl (l_mvF 83 (.val (.bool true)) (.inl rfl) (by kernel_rfl) (by kernel_rfl) (by kernel_rfl)))
    <| allOk_cons (okg 46 true 84 rfl (by kernel_rfl) (by kernel_rfl) (by kernel_rfl) (l_mvF 10 (.val (.slice (some ⟨g, o, none⟩) D.length c)) (.inl rfl) (by kernel_rfl) (by kernel_rfl) (by kernel_rfl)))
    <| allOk_cons (okg 46 true 84 rfl (by kernel_rfl) (by kernel_rfl) (by kernel_rfl) (l_run3W (.tmp 85) (.const (.int .i64 24)) (.const (.int .i64 28)) (.val (.slice (cutA (some ⟨g, o, none⟩) c 24) ((D.drop 24).take (28 - 24)).length (c - 24))) (.slice (some ⟨g, o, none⟩) D.length c) (.int .i64 ((24 : Nat) : Int)) (.int .i64 ((28 : Nat) : Int)) (hs 85 _ (by kernel_rfl) (by kernel_rfl)) (hc _) (hc _) (fun ρ w hg h1 h2 h3 => ⟨_, w, cut_mid rfl h1 h2 h3 (by decide) hk28 hle, Grow.refl _, rfl⟩) (by kernel_rfl)))
    <| allOk_cons (okg 46 true 84 rfl (by kernel_rfl) (by kernel_rfl) (by kernel_rfl) (l_convS (.tmp 86) _ _ (.slice (cutA (some ⟨g, o, none⟩) c 24) ((D.drop 24).take (28 - 24)).length (c - 24)) (.string (str (fixL 4 S))) rfl (hs 86 (.slice (cutA (some ⟨g, o, none⟩) c 24) ((D.drop 24).take (28 - 24)).length (c - 24)) (by kernel_rfl) (by kernel_rfl)) (fun w hg => hstr w hg) (by kernel_rfl)))
    <| allOk_cons (okg 46 true 84 rfl (by kernel_rfl) (by kernel_rfl) (by kernel_rfl) (l_mvF 10 (.val (.slice (some ⟨g, o, none⟩) D.length c)) (.inl rfl) (by kernel_rfl) (by kernel_rfl) (by kernel_rfl)))
    <| allOk_cons (okg 46 true 84 rfl (by kernel_rfl) (by kernel_rfl) (by kernel_rfl) (l_run2W (.tmp 88) (.const (.int .i64 24)) (.val (.slice (some ⟨g, o, none⟩) (D.take 24).length c)) (.slice (some ⟨g, o, none⟩) D.length c) (.int .i64 ((24 : Nat) : Int)) (hs 88 _ (by kernel_rfl) (by kernel_rfl)) (hc _) (fun ρ w hg h1 h2 => ⟨_, w, cut_take rfl h1 h2 hk24 hle, Grow.refl _, rfl⟩) (by kernel_rfl)))
    <| allOk_cons (okg 46 true 84 rfl (by kernel_rfl) (by kernel_rfl) (by kernel_rfl) (l_call 37 _ _ rfl (enters_of Try.func37 (by kernel_rfl) rfl) #[.slice (some ⟨g, o, none⟩) (D.take 24).length c] (.val (.int .u32 (S : Int))) (args1 (hs 89 (.slice (some ⟨g, o, none⟩) (D.take 24).length c) (by kernel_rfl) (by kernel_rfl))) (fun w hg => gives_same (hsum w hg)) (by kernel_rfl)))
    <| allOk_cons (okg 46 true 84 rfl (by kernel_rfl) (by kernel_rfl) (by kernel_rfl) (l_convS (.tmp 90) _ _ (.int .u32 (S : Int)) (.int .u64 (S : Int)) rfl (hs 90 (.int .u32 (S : Int)) (by kernel_rfl) (by kernel_rfl)) (fun w hg => conv_45_41 S hS32 w) (by kernel_rfl)))
    <| allOk_cons (okg 46 true 84 rfl (by kernel_rfl) (by kernel_rfl) (by kernel_rfl) (l_call 44 _ _ rfl (enters_of Try.func44 (by kernel_rfl) rfl) #[.int .u64 (S : Int), (Go.Value.int Go.IntKind.i64 4)] (.res (fixL 4 S)) (args2 (hs 91 (.int .u64 (S : Int)) (by kernel_rfl) (by kernel_rfl)) (hc _)) (fun w hg => gives_res (hfix w)) (by kernel_rfl)))
    <| allOk_cons (okg 46 true 84 rfl (by kernel_rfl) (by kernel_rfl) (by kernel_rfl) (l_conv 92 (fixL 4 S) rfl (by kernel_rfl) (by kernel_rfl) (by kernel_rfl)))
    <| allOk_cons (okg 46 true 84 rfl (by kernel_rfl) (by kernel_rfl) (by kernel_rfl) (l_eqs (.tmp 87) (.tmp 93) _ _ ((str (fixL 4 S))) rfl Try.underlying9 (hs 87 (.string (str (fixL 4 S))) (by kernel_rfl) (by kernel_rfl)) (hs 93 (.string (str (fixL 4 S))) (by kernel_rfl) (by kernel_rfl)) (by kernel_rfl)))
    <| allOk_cons (ok_none rfl (l_pick (.tmp 84) (.tmp 94) (.bool true) rfl (hs 84 (.bool true) (by kernel_rfl) (by kernel_rfl)) (hs 94 (.bool true) (by kernel_rfl) (by kernel_rfl)) (by kernel_rfl)))
    <| allOk_cons (ok_none rfl (l_mvF 95 (.val (.bool true)) (.inr rfl) (by kernel_rfl) (by kernel_rfl) (by kernel_rfl)))
    <| allOk_nil) ?_
  intro a w6 _ hdef hG hF
  have hr : a.eval (.tmp 0) = .bool true := hF 0
  have hB6 : Below w.heap.size w w6 := hB5.trans (hG.mono hB5.size)
  clear hF
  simp only [Exit.then]
  refine ‹∀ (a : Act) (w : World), Code.wp Try.prog Code.ret _ a w → _› a w6 ?_
  refine Reg.ends1 0 (.bool true) rfl hr hdef ?_
  exact ⟨rfl, hB6⟩
end Go.Proofs.Ytlelckdcmlpmdaa
