/- frame.Decode, of so many bytes as a frame has. -/
import Derived.Test.YtlelckdcmlpmdaaFrEncode
import Derived.Test.YtlelckdcmlpmdaaFrDecRef
import Derived.Test.YtlelckdcmlpmdaaActs2
namespace Go.Proofs.Ytlelckdcmlpmdaa
open Go Go.RowKit Lou

theorem run_eq_nil {P : Program} (w : World) (t e : TypeId) (A : Option Addr) (n c : Nat) (ht : P.underlying t = some (.slice e)) : (binOp .eql t (.slice A n c) (.slice none 0 0)).run P w = .ok (.bool A.isNone) w := by
  have e1 : binOp .eql t (.slice A n c) (.slice none 0 0) = (do pure (.bool (← Op.equalIn (9999 + 1) t (.slice A n c) (.slice none 0 0)))) := rfl
  have h : (Op.equalIn (9999 + 1) t (.slice A n c) (.slice none 0 0)).run P w = .ok A.isNone w := by
    unfold Op.equalIn
    cases A <;> simp [run_underlying ht]
  rw [e1]
  simp only [Sem.run_bind, h, Result.andThen, Sem.run_pure]
set_option maxRecDepth 100000 in
set_option maxHeartbeats 1000000 in
theorem clone_gives (w : World) (A : Option Addr) (c : Nat) (l : List UInt8) (h : InB w w.heap.size A c l) (hl : l.length ≤ 100000000000) : Calls Try.prog 133 #[.slice A l.length c] w (GivesB w l) := by
  have hle := h.le
  rcases A with _ | ad
  · have hc := h.nil rfl
    subst hc
    obtain rfl : l = [] := List.eq_nil_of_length_eq_zero (by omega)
    have hq := fun W => run_eq_nil (P := Try.prog) W 30 5 none 0 0 Try.underlying30
    go_enter Try.func133, Try.ntmps133
    go_wp2
    go_ret
    exact ⟨_, rfl, OwnB.nil _ _, Below.refl _ _⟩
  · have e0 : OwnB (w.alloc (.cells #[] 5)) w.heap.size (.slice (some ⟨w.heap.size, 0, none⟩) 0 0) [] := World.ownsRow_lit w #[] 0 (Nat.le_refl _) (by unfold maxLen; omega) rfl
    have hB0 : Below w.heap.size w (w.alloc (.cells #[] 5)) := (Below.refl _ w).alloc (Nat.le_refl _) _
    have h1 := h.below hB0
    have hq := fun W => run_eq_nil (P := Try.prog) W 30 5 (some ad) l.length c Try.underlying30
    go_enter Try.func133, Try.ntmps133
    go_wp2_with (at_builtin; refine wp_appB rfl (.tmp 5) (.tmp 6) rfl w.heap.size (.slice (some ⟨w.heap.size, 0, none⟩) 0 0) [] rfl e0 _ (some ad) c l rfl h1 (by simp; omega) (by simp) ?_; intro v1 w1 own1 hg1)
    go_ret
    rw [List.nil_append] at own1
    exact ⟨_, rfl, own1, hB0.trans (grown_below hg1 hB0.size e0.ownGe)⟩

/-- What a frame's bytes are read as. -/
def fdE (b : List UInt8) : Nat := rfix (b.take 8)
def fdI (b : List UInt8) : Nat := rfix ((b.drop 8).take 4)
def fdP (b : List UInt8) : Nat := rfix ((b.drop 12).take 4)
def fdF (b : List UInt8) : Bool := b.getD 16 0 == 1
def fdZ (b : List UInt8) : Nat := rfix ((b.drop 17).take 4)
def fdL (b : List UInt8) : Nat := rfix ((b.drop 21).take 4)
def isFrame (b : List UInt8) : Bool := decide (b.length = 576) && (frOk 512 (fdI b) (fdP b) (fdF b) (fdZ b) && (sectB (partB (fdE b) (fdI b) (fdP b) (fdF b) (fdZ b) (fdL b)) (b.drop 64) == b.take 64))
def zeroFr : Array Value := #[.int .u64 0, .int .i64 0, .int .i64 0, .bool false, .int .i64 0, .int .u32 0, .slice none 0 0]
/-- What Decode gives of bytes. -/
def GivesFr (w0 : World) (l : List UInt8) (x : Ending) (w' : World) : Prop :=
  Below w0.heap.size w0 w' ∧ if isFrame l then ∃ A k, x = .returned (.tuple #[.agg (frCells (fdE l) (fdI l) (fdP l) (fdF l) (fdZ l) (fdL l) A 512 k), .int .i64 0]) ∧ InB w' w'.heap.size A k (l.drop 64) else x = .returned (.tuple #[.agg zeroFr, .int .i64 150])
theorem zeroFr_one : ∀ v ∈ zeroFr.toList, v.oneCell' = true := by
  intro v hv
  simp [zeroFr] at hv
  rcases hv with rfl | rfl | rfl | rfl | rfl | rfl <;> rfl
theorem frCells_one (e : Nat) (i p : Int) (f : Bool) (z : Int) (n : Nat) (A : Option Addr) (len k : Nat) : ∀ v ∈ (frCells e i p f z n A len k).toList, v.oneCell' = true := by
  intro v hv
  simp [frCells] at hv
  rcases hv with rfl | rfl | rfl | rfl | rfl | rfl | rfl <;> rfl

set_option maxRecDepth 100000 in
set_option maxHeartbeats 4000000 in
theorem decode_len (w : World) (A : Option Addr) (c : Nat) (l : List UInt8) (h : InB w w.heap.size A c l) (hl : l.length ≠ 576) :
    Calls Try.prog 76 #[.slice A l.length c] w (GivesFr w l) := by
  have hb0 := BlkIs.new w 120 zeroFr
  have hB0 : Below w.heap.size w (w.alloc (.cells zeroFr 120)) := (Below.refl _ w).alloc (Nat.le_refl _) _
  have hle := h.le
  have hmx := h.max
  have hno : isFrame l = false := by simp [isFrame, hl]
  have hG : ∀ x w', Below w.heap.size w w' → x = .returned (.tuple #[.agg zeroFr, .int .i64 150]) → GivesFr w l x w' := fun x w' hB hx => ⟨hB, by rw [hno]; exact hx⟩
  have hq : ((l.length : Int) == 576) = false := by simp; omega
  have hq2 : ((l.length : Int) != 576) = true := by simp; omega
  have hz1 := zeroFr_one
  clear hno hl
  unfold zeroFr at *
  go_enter Try.func76, Try.ntmps76
  go_wp2_with (first
    | (refine wp_loadW rfl 120 (.tmp 2) rfl w.heap.size rfl rowFrame hb0 (by rfl) ?_)
    | (refine wp_storeW rfl 120 (.tmp 2) (.tmp 8) rfl w.heap.size rfl rfl rowFrame hb0 (by rfl) (by rfl) hz1 ?_))
  exact bodyPost_ret_by (results_cellW_tmp 2 3 rfl rfl rfl rowFrame (hb0.setRow _) (by rfl)) rfl (hG _ _ (below_setRow hB0 (Nat.le_refl _) _) rfl)
end Go.Proofs.Ytlelckdcmlpmdaa
namespace Go.Proofs.Ytlelckdcmlpmdaa
open Go Go.RowKit Lou

theorem RdrAt.other {w : World} {g g' B : Nat} {A : Option Addr} {c : Nat} {l : List UInt8} (h : RdrAt w g A c l) (hin : InB w B A c l) (hB : B ≤ g') (hg : g' < g) (j : Nat) (u : Value) : RdrAt (w.setCell ⟨g', j, none⟩ u) g A c l :=
  ⟨h.blk.other (by simp; omega) u, (hin.keep fun p hp => World.cell?_setCell_other w _ _ _ (fun e => by subst e; simp at hp; omega)).more (by omega)⟩
theorem cut_toN {ρ : Operand → Value} {w : World} {o : Oper} {x y : Operand} {A : Option Addr} {n m c : Nat} (ho : o.op = .slice 30 x none (some y) none) (h1 : ρ x = .slice A n c) (h2 : ρ y = .int .i64 (m : Int)) (hm : m ≤ c) :
    (execOp ρ o).run Try.prog w = .ok (.value (.slice A m c)) w := by
  have ht : Try.prog.underlying 30 = some (.slice (Try.prog.elem 30)) := by kernel_rfl
  simp [execOp, ho, h1, h2, go_sem, run_sliceAt_slice _ _ _ _ _ _ ht, Result.andThen, hm]
namespace Reg
variable {L : List (Nat × Fact)} {ops : Array Oper} {w0 : World} {o : Oper} {P : Program}
theorem l_not (x : Operand) (v : Bool) {T : TypeId} (ho : o.op = .unOp .not T x) (hx : Has ops (FSof L) o x (.bool v)) (hd : FD L o.dst = .val (.bool !v)) : RunOk P ops (FSof L) w0 o :=
  run1 x hx (fun ρ w h => by simp [execOp, ho, h, go_sem, Result.andThen]) fun _ => fsd hd rfl
theorem l_neArr (x y : Operand) (T : TypeId) (xs ys : List UInt8) (hx1 : xs.length = 64) (hy1 : ys.length = 64) (ho : o.op = .binOp .neq 236 x y T) (hx : Has ops (FSof L) o x (.agg (xs.map b8).toArray)) (hy : Has ops (FSof L) o y (.agg (ys.map b8).toArray)) (hd : FD L o.dst = .val (.bool (xs != ys))) : RunOk Try.prog ops (FSof L) w0 o := by
  refine run2 x y hx hy (fun ρ w h1 h2 => ?_) fun _ => fsd hd rfl
  have he := run_equalIn_bytes (P := Try.prog) w 9998 236 5 64 Try.underlying236 Try.underlying5 (fun w => by simp [go_sem]) xs ys hx1 hy1
  have hr : (binOp .neq 236 (.agg (xs.map b8).toArray) (.agg (ys.map b8).toArray)).run Try.prog w = .ok (.bool (xs != ys)) w := by
    rw [run_neq_struct]
    have e : (Op.equalIn 10000 236 (.agg (xs.map b8).toArray) (.agg (ys.map b8).toArray)).run Try.prog w = .ok (xs == ys) w := he
    rw [e]
    rfl
  have hm : Try.prog.eqGuardType Try.prog.depth 236 = false := by kernel_rfl
  simp only [execOp, ho, h1, h2, Sem.run_bind, run_eqGuard_agg w .neq 236 x y _ _ hm, Result.andThen_ok, hr, Sem.run_pure]
end Reg
theorem setCell_grownBy (w : World) (p : Addr) (u : Value) : w.grownBy (w.setCell p u) (some p.block) := ⟨rfl, rfl, rfl, by simp, fun k _ hk => Below.heap_setCell w p u k (fun e => hk (by rw [e]))⟩
theorem OwnB.apart {w w' : World} {base : Nat} {v : Value} {l : List UInt8} (h : OwnB w base v l) {r : Nat} (hg : w.grownBy w' (some r)) (hr : r < base) : OwnB w' base v l :=
  World.ownsRow.kept h hg (by
    cases hb : v.ownBlock with
    | none => exact .inl rfl
    | some b => exact .inr (fun e => by injection e with e; have := h.ownGe b hb; omega))
theorem cutA_lt {b o c n : Nat} (h : n < c) : cutA (some ⟨b, o, none⟩) c n = some ⟨b, o + n, none⟩ := by
  unfold cutA
  rw [if_neg (by omega)]
  cases n <;> simp [Addr.add]
set_option maxRecDepth 100000 in
set_option maxHeartbeats 8000000 in
theorem decode_576 (w : World) (A : Option Addr) (c : Nat) (l : List UInt8) (h : InB w w.heap.size A c l) (hl : l.length = 576) :
    Calls Try.prog 76 #[.slice A 576 c] w (GivesFr w l) := by
  have hIn := h
  have hle := h.le
  have hmx := h.max
  rw [hl] at hle
  have hle' : (576 : Int) ≤ (c : Int) := by omega
  obtain ⟨b, o, rfl, hbs, hcs⟩ := h.lies (by omega)
  have hb0 := (BlkIs.new w 120 zeroFr).alloc (.cells #[.slice (some ⟨b, o, none⟩) 576 c] 242)
  have hB0 : Below w.heap.size w ((w.alloc (.cells zeroFr 120)).alloc (.cells #[.slice (some ⟨b, o, none⟩) 576 c] 242)) := ((Below.refl _ w).alloc (Nat.le_refl _) _).alloc (by simp) _
  have hr0 : RdrAt ((w.alloc (.cells zeroFr 120)).alloc (.cells #[.slice (some ⟨b, o, none⟩) 576 c] 242)) (w.heap.size + 1) (some ⟨b, o, none⟩) c l := by
    refine ⟨?_, (h.below hB0).more (by omega)⟩
    have := BlkIs.new (w.alloc (.cells zeroFr 120)) 242 #[.slice (some ⟨b, o, none⟩) 576 c]
    rw [World.size_alloc] at this
    rw [hl]
    exact this
  have HL := Lib.hid hl
  have hc16 : l.getD 16 0 = l[16]'(by rw [HL.out]; omega) := by simp [List.getD, List.getElem?_eq_getElem (show 16 < l.length by rw [HL.out]; omega)]
  clear hl
  unfold zeroFr at *
  go_enter Try.func76, Try.ntmps76
  go_wp2_with fail
  generalize (w.alloc (.cells #[.int .u64 0, .int .i64 0, .int .i64 0, .bool false, .int .i64 0, .int .u32 0, .slice none 0 0] 120)).alloc (.cells #[.slice (some ⟨b, o, none⟩) 576 c] 242) = W1 at *
  refine (number64_gives W1 _ _ c l hr0 (by have := HL.out; omega)).mono ?_
  rintro x W2 ⟨rfl, hr2, hb12⟩
  have hf2 := hb0.below hb12 (by omega)
  have hB2 : Below w.heap.size w W2 := hB0.trans (hb12.mono (by omega))
  clear hb0 hr0 hb12 hB0
  have hcl2 : W2.cell? ⟨w.heap.size, 0, none⟩ = some (.int .u64 0) := by rw [hf2.cell]; rfl
  have hfr2 := hf2.free 0
  have hdr : ∀ n, n ≤ 576 → n < c → ∀ W, Below w.heap.size w W → InB W w.heap.size (some ⟨b, o + n, none⟩) (c - n) (l.drop n) := fun n hn hc W hB => (h.below hB).dropAt n (by rw [HL.out]; exact hn) hc
  rw [cutA_lt (by omega)] at hr2
  have hr3 := hr2.other (hdr 8 (by omega) (by omega) _ hB2) (Nat.le_refl _) (by omega) 0 (.int .u64 (rfix (l.take 8) : Int))
  have hf3 := hf2.set 0 (.int .u64 (rfix (l.take 8) : Int))
  have hB3 : Below w.heap.size w (W2.setCell ⟨w.heap.size, 0, none⟩ (.int .u64 (rfix (l.take 8) : Int))) := hB2.setCell (p := ⟨w.heap.size, 0, none⟩) (Nat.le_refl _) _
  clear hf2 hB2 hr2
  go_wp2_with fail
  generalize W2.setCell ⟨w.heap.size, 0, none⟩ (.int .u64 (rfix (l.take 8) : Int)) = W3 at *
  have ez : (#[.int .u64 0, .int .i64 0, .int .i64 0, .bool false, .int .i64 0, .int .u32 0, .slice none 0 0] : Array Value).setIfInBounds 0 (.int .u64 (rfix (l.take 8) : Int)) = #[.int .u64 (rfix (l.take 8) : Int), .int .i64 0, .int .i64 0, .bool false, .int .i64 0, .int .u32 0, .slice none 0 0] := rfl
  rw [ez] at hf3
  clear ez hcl2 hfr2
  refine (number32_gives W3 _ _ _ _ hr3 (by rw [List.length_drop, HL.out]; omega)).mono ?_
  rintro x W4 ⟨rfl, hr4, hb34⟩
  rw [List.drop_drop, cutA_lt (by omega)] at hr4
  have hf4 := hf3.below hb34 (by omega)
  have hB4 : Below w.heap.size w W4 := hB3.trans (hb34.mono (by omega))
  have hi4 := rfix_take4 (l.drop 8)
  have hiw : IntKind.i64.wrap (rfix ((l.drop 8).take 4) : Int) = (rfix ((l.drop 8).take 4) : Int) := wrap_i64_fr _ (by omega) (by omega)
  clear hf3 hr3 hb34 hB3
  go_wp2_with fail
  refine (number32_gives W4 _ _ _ _ hr4 (by rw [List.length_drop, HL.out]; omega)).mono ?_
  rintro x W5 ⟨rfl, hr5, hb45⟩
  rw [List.drop_drop, cutA_lt (by omega)] at hr5
  have hf5 := hf4.below hb45 (by omega)
  have hB5 : Below w.heap.size w W5 := hB4.trans (hb45.mono (by omega))
  have hp4 := rfix_take4 (l.drop (8 + 4))
  have hpw : IntKind.i64.wrap (rfix ((l.drop (8 + 4)).take 4) : Int) = (rfix ((l.drop (8 + 4)).take 4) : Int) := wrap_i64_fr _ (by omega) (by omega)
  have hpw2 : IntKind.i64.wrap (rfix ((l.drop 12).take 4) : Int) = (rfix ((l.drop 12).take 4) : Int) := hpw
  clear hf4 hr4 hb45 hB4
  have hcl1 : W5.cell? ⟨w.heap.size, 1, none⟩ = some (.int .i64 0) := by rw [hf5.cell]; rfl
  have hcl2 : W5.cell? ⟨w.heap.size, 2, none⟩ = some (.int .i64 0) := by rw [hf5.cell]; rfl
  have hfr1 := hf5.free 1
  have hfr2 := hf5.free 2
  go_wp2_with fail
  have hf6 : BlkIs ((W5.setCell ⟨w.heap.size, 1, none⟩ (.int .i64 (rfix ((l.drop 8).take 4) : Int))).setCell ⟨w.heap.size, 2, none⟩ (.int .i64 (rfix ((l.drop 12).take 4) : Int))) w.heap.size 120 #[.int .u64 (rfix (l.take 8) : Int), .int .i64 (rfix ((l.drop 8).take 4) : Int), .int .i64 (rfix ((l.drop 12).take 4) : Int), .bool false, .int .i64 0, .int .u32 0, .slice none 0 0] := (hf5.set 1 _).set 2 _
  have hB5' : Below w.heap.size w (W5.setCell ⟨w.heap.size, 1, none⟩ (.int .i64 (rfix ((l.drop 8).take 4) : Int))) := hB5.setCell (p := ⟨w.heap.size, 1, none⟩) (Nat.le_refl _) _
  have hB6 : Below w.heap.size w ((W5.setCell ⟨w.heap.size, 1, none⟩ (.int .i64 (rfix ((l.drop 8).take 4) : Int))).setCell ⟨w.heap.size, 2, none⟩ (.int .i64 (rfix ((l.drop 12).take 4) : Int))) := hB5'.setCell (p := ⟨w.heap.size, 2, none⟩) (Nat.le_refl _) _
  have hd5 := hdr 16 (by omega) (by omega)
  have ea : ∀ m, m + 8 = 16 → True := fun _ _ => trivial
  have hr6 := (hr5.other (hd5 _ hB5) (Nat.le_refl _) (by omega) 1 (.int .i64 (rfix ((l.drop 8).take 4) : Int))).other (hd5 _ hB5') (Nat.le_refl _) (by omega) 2 (.int .i64 (rfix ((l.drop 12).take 4) : Int))
  clear hf5 hr5 hB5 hB5' hcl1 hcl2 hfr1 hfr2 ea
  generalize ((W5.setCell ⟨w.heap.size, 1, none⟩ (.int .i64 (rfix ((l.drop 8).take 4) : Int))).setCell ⟨w.heap.size, 2, none⟩ (.int .i64 (rfix ((l.drop 12).take 4) : Int))) = W6 at *
  simp only [Nat.add_assoc, Nat.reduceAdd, Nat.sub_sub] at hr6
  have hl16 : (l.drop 16).length = 560 := by rw [List.length_drop, HL.out]
  have T := ftake_gives W6 (w.heap.size + 1) 0 (some ⟨b, o + 16, none⟩) 560 (c - 16) 1 (by omega) (by omega) (by omega) (by rw [hr6.blk.cell, hl16]; rfl) (hr6.blk.free 0)
  have hr7 := hr6.cut 1 (by rw [hl16]; omega)
  rw [hl16, List.drop_drop] at hr7
  have hf7 := hf6.other (p := ⟨w.heap.size + 1, 0, none⟩) (by simp) (.slice (cutA (some ⟨b, o + 16, none⟩) (c - 16) 1) (560 - 1) (c - 16 - 1))
  have hB7 : Below w.heap.size w (W6.setCell ⟨w.heap.size + 1, 0, none⟩ (.slice (cutA (some ⟨b, o + 16, none⟩) (c - 16) 1) (560 - 1) (c - 16 - 1))) := hB6.setCell (p := ⟨w.heap.size + 1, 0, none⟩) (by simp) _
  refine T.mono ?_
  rintro x w' ⟨rfl, rfl⟩
  clear T hf6 hB6 hr6 hl16
  generalize W6.setCell ⟨w.heap.size + 1, 0, none⟩ (.slice (cutA (some ⟨b, o + 16, none⟩) (c - 16) 1) (560 - 1) (c - 16 - 1)) = W7 at *
  rw [cutA_lt (by omega)] at hr7
  simp only [Nat.add_assoc, Nat.reduceAdd, Nat.sub_sub] at hr7
  have hcl3 : W7.cell? ⟨w.heap.size, 3, none⟩ = some (.bool false) := by rw [hf7.cell]; rfl
  have hfr3 := hf7.free 3
  have hcb : W7.cell? ⟨b, o + 16, none⟩ = some (.int .u8 ((l.getD 16 0).toNat : Int)) := by
    rw [hB7.cell (p := ⟨b, o + 16, none⟩) hbs, hcs 16 (by rw [HL.out]; omega), hc16]
  have hq : (((l.getD 16 0).toNat : Int) == 1) = fdF l := by
    unfold fdF
    rw [Bool.eq_iff_iff]
    simp only [beq_iff_eq]
    constructor
    · intro e
      exact UInt8.toNat_inj.1 (by rw [show (1 : UInt8).toNat = 1 from rfl]; omega)
    · intro e
      rw [e]
      rfl
  generalize l.getD 16 0 = c16 at *
  clear hc16
  obtain ⟨fl, hfl⟩ : ∃ fl, fdF l = fl := ⟨_, rfl⟩
  rw [hfl] at hq
  have hflq := Lib.hid hfl
  clear hfl
  go_wp2_with fail
  have hf8 : BlkIs (W7.setCell ⟨w.heap.size, 3, none⟩ (.bool fl)) w.heap.size 120 #[.int .u64 (rfix (l.take 8) : Int), .int .i64 (rfix ((l.drop 8).take 4) : Int), .int .i64 (rfix ((l.drop 12).take 4) : Int), .bool fl, .int .i64 0, .int .u32 0, .slice none 0 0] := hf7.set 3 _
  have hB8 : Below w.heap.size w (W7.setCell ⟨w.heap.size, 3, none⟩ (.bool fl)) := hB7.setCell (p := ⟨w.heap.size, 3, none⟩) (Nat.le_refl _) _
  have hr8 := hr7.other (hdr 17 (by omega) (by omega) _ hB7) (Nat.le_refl _) (by omega) 3 (.bool fl)
  generalize W7.setCell ⟨w.heap.size, 3, none⟩ (.bool fl) = W8 at *
  clear hf7 hB7 hr7 hcl3 hfr3 hcb hq
  have h17 : (l.drop 17).length = 559 := by rw [List.length_drop, HL.out]
  have hz4 := rfix_take4 (l.drop 17)
  have hzw : IntKind.i64.wrap (rfix ((l.drop 17).take 4) : Int) = (rfix ((l.drop 17).take 4) : Int) := wrap_i64_fr _ (by omega) (by omega)
  have N1 := number32_gives W8.drew (w.heap.size + 1) _ _ _ ⟨hr8.blk.drew, hr8.inb.drew⟩ (by rw [h17]; omega)
  have hl64 : (l.drop 64).length = 512 := by rw [List.length_drop, HL.out]
  have HL64 := Lib.hid hl64
  have s8 := hB8.size
  clear hl64 h17 hr8
  go_region_held3 (fun _ => True) (trivial) (first
    | (go_at_call 139; first
      | ((with_reducible refine N1.mono ?_); rintro x W9 ⟨rfl, hr9, hb9⟩; have hf9 := hf8.drew.below hb9 (by omega); have hB9 : Below w.heap.size w W9 := hB8.drew.trans (hb9.mono (by omega)); rw [List.drop_drop, cutA_lt (by omega)] at hr9; simp only [Nat.add_assoc, Nat.reduceAdd, Nat.sub_sub] at hr9)
      | (revert hr9; intro hr9; refine (number32_gives W9 _ _ _ _ hr9 (by rw [List.length_drop, HL.out]; omega)).mono ?_; rintro x W10 ⟨rfl, hr10, hb10⟩; have hf10 := hf9.below hb10 (by omega); have hB10 : Below w.heap.size w W10 := hB9.trans (hb10.mono (by omega)); have C10 := clone_gives W10 _ _ _ ((hdr 64 (by omega) (by omega) W10 hB10).more hB10.size) (by rw [HL64.out]; omega); rw [HL64.out] at C10))
    | (go_at_call 133; refine C10.mono ?_; rintro x W11 ⟨v11, rfl, own11, hB⟩; have hf11 := hf10.below hB hf10.lt; have hB11 := hB10.trans (hB.mono hB10.size); have hc4 : W11.cell? ⟨w.heap.size, 4, none⟩ = some (.int .i64 0) := (by rw [hf11.cell]; rfl); have hc5 : W11.cell? ⟨w.heap.size, 5, none⟩ = some (.int .u32 0) := (by rw [hf11.cell]; rfl); have hc6 : W11.cell? ⟨w.heap.size, 6, none⟩ = some (.slice none 0 0) := (by rw [hf11.cell]; rfl); have hg4 := hf11.free 4; have hg5 := hf11.free 5; have hg6 := hf11.free 6; obtain ⟨A11, c11, rfl, hin11⟩ := own11.inB; rw [HL64.out] at own11 ⊢))
  have s10 := hB10.size
  have hwlt : w.heap.size < W10.heap.size := hf10.lt
  have hf12 : BlkIs (((W11.setCell ⟨w.heap.size, 4, none⟩ (.int .i64 (rfix ((l.drop 17).take 4) : Int))).setCell ⟨w.heap.size, 5, none⟩ (.int .u32 (rfix ((l.drop 21).take 4) : Int))).setCell ⟨w.heap.size, 6, none⟩ (.slice A11 512 c11)) w.heap.size 120 #[.int .u64 (rfix (l.take 8) : Int), .int .i64 (rfix ((l.drop 8).take 4) : Int), .int .i64 (rfix ((l.drop 12).take 4) : Int), .bool fl, .int .i64 (rfix ((l.drop 17).take 4) : Int), .int .u32 (rfix ((l.drop 21).take 4) : Int), .slice A11 512 c11] := ((hf11.set 4 _).set 5 _).set 6 _
  have hB12 : Below w.heap.size w (((W11.setCell ⟨w.heap.size, 4, none⟩ (.int .i64 (rfix ((l.drop 17).take 4) : Int))).setCell ⟨w.heap.size, 5, none⟩ (.int .u32 (rfix ((l.drop 21).take 4) : Int))).setCell ⟨w.heap.size, 6, none⟩ (.slice A11 512 c11)) := ((hB11.setCell (p := ⟨w.heap.size, 4, none⟩) (Nat.le_refl _) _).setCell (p := ⟨w.heap.size, 5, none⟩) (Nat.le_refl _) _).setCell (p := ⟨w.heap.size, 6, none⟩) (Nat.le_refl _) _
  have own12 : OwnB (((W11.setCell ⟨w.heap.size, 4, none⟩ (.int .i64 (rfix ((l.drop 17).take 4) : Int))).setCell ⟨w.heap.size, 5, none⟩ (.int .u32 (rfix ((l.drop 21).take 4) : Int))).setCell ⟨w.heap.size, 6, none⟩ (.slice A11 512 c11)) W10.heap.size (.slice A11 512 c11) (l.drop 64) := ((own11.apart (setCell_grownBy W11 ⟨w.heap.size, 4, none⟩ _) hwlt).apart (setCell_grownBy _ ⟨w.heap.size, 5, none⟩ _) hwlt).apart (setCell_grownBy _ ⟨w.heap.size, 6, none⟩ _) hwlt
  generalize (((W11.setCell ⟨w.heap.size, 4, none⟩ (.int .i64 (rfix ((l.drop 17).take 4) : Int))).setCell ⟨w.heap.size, 5, none⟩ (.int .u32 (rfix ((l.drop 21).take 4) : Int))).setCell ⟨w.heap.size, 6, none⟩ (.slice A11 512 c11)) = W12 at *
  clear hf11 hB11 own11 hc4 hc5 hc6 hg4 hg5 hg6 hin11 hB C10 hf10 hB10 hr10 hb10 hf9 hB9 hr9 hb9 N1 hf8 hB8 s8 hzw hz4 hpw hpw2 hp4 hiw hi4 s10 hwlt
  go_wp2_with fail
  have hin12 : InB W12 W12.heap.size A11 c11 (l.drop 64) := by
    obtain ⟨A', c', e1, hh⟩ := own12.inB
    rw [HL64.out] at e1
    injection e1 with e2 e3 e4
    subst e2 e4
    exact hh
  have hT64 : (l.take 64).length = 64 := by rw [List.length_take, HL.out]; rfl
  have hGF : ∀ x w', Below w.heap.size w w' → (if isFrame l then ∃ A k, x = .returned (.tuple #[.agg (frCells (fdE l) (fdI l) (fdP l) (fdF l) (fdZ l) (fdL l) A 512 k), .int .i64 0]) ∧ InB w' w'.heap.size A k (l.drop 64) else x = .returned (.tuple #[.agg zeroFr, .int .i64 150])) → GivesFr w l x w' := fun x w' h1 h2 => ⟨h1, h2⟩
  have hFi : isFrame l = (frOk 512 (fdI l) (fdP l) (fdF l) (fdZ l) && (sectB (partB (fdE l) (fdI l) (fdP l) (fdF l) (fdZ l) (fdL l)) (l.drop 64) == l.take 64)) := by unfold isFrame; rw [HL.out]; rfl
  have eE : rfix (l.take 8) = fdE l := rfl
  have eI : rfix ((l.drop 8).take 4) = fdI l := rfl
  have eP : rfix ((l.drop 12).take 4) = fdP l := rfl
  have eZ : rfix ((l.drop 17).take 4) = fdZ l := rfl
  have eL : rfix ((l.drop 21).take 4) = fdL l := rfl
  rw [eE, eI, eP, eZ, eL] at hf12
  rw [eE, eI, eP, eZ, eL]
  clear eE eI eP eZ eL
  rw [hflq.out] at hFi hGF
  generalize fdE l = e at *
  generalize fdI l = i at *
  generalize fdP l = p at *
  generalize fdZ l = z at *
  generalize fdL l = n at *
  have HGF := Lib.hid hGF
  have HFi := Lib.hid hFi
  clear hGF hFi
  have s12 := hB12.size
  have hbs12 : b < W12.heap.size := by omega
  have hl2 : ∀ w', Grow W12 w' → (loadVar 120 ⟨w.heap.size, 0, none⟩).run Try.prog w' = .ok (.agg #[.int .u64 (e : Int), .int .i64 (i : Int), .int .i64 (p : Int), .bool fl, .int .i64 (z : Int), .int .u32 (n : Int), .slice A11 512 c11]) w' := fun w' hG => run_loadW rowFrame (hf12.below hG hf12.lt)
  have hin0 : InB W12 w.heap.size (some ⟨b, o, none⟩) c l := hIn.below hB12
  have hlb : ∀ w', Grow W12 w' → (loadVar 236 ⟨b, o, none⟩).run Try.prog w' = .ok (.agg ((l.take 64).map b8).toArray) w' := fun w' hG => by
    have hi := ((hin0.more s12).below hG).take 64 c (by rw [HL.out]; omega) (by omega) (Nat.le_refl _)
    refine run_loadVar_mid (P := Try.prog) w' b o 236 ((l.take 64).map b8) _ ?_ Try.underlying236 rfl (by simp only [List.length_map]; rw [hT64]; kernel_rfl)
    intro j v hj
    have hj2 : j < (l.take 64).length := by
      have := (List.getElem?_eq_some_iff.1 hj).1
      simpa using this
    obtain ⟨g', o', e1, _, hc⟩ := hi.lies (by omega)
    injection e1 with e1
    injection e1 with e1 e2
    subst e1 e2
    rw [hc j hj2]
    rw [List.getElem?_map, List.getElem?_eq_getElem hj2] at hj
    simpa [b8] using hj
  have hright0 := right_gives e i p fl z n A11 512 c11
  have hfront0 := front_gives e i p z n fl A11 c11 (l.drop 64)
  have hz1 := zeroFr_one
  have hfc := frCells_one e i p fl z n A11 512 c11
  unfold frCells at hright0 hfront0 HGF hfc
  unfold zeroFr at hz1 HGF
  cases hk : frOk 512 i p fl z with
  | false =>
    have hright := hright0
    rw [hk] at hright
    have hno : isFrame l = false := by rw [HFi.out, hk]; rfl
    open Reg in
    refine region_acts (by kernel_rfl) (by kernel_rfl) 57 rfl (by kernel_rfl) [43, 44, 45, 46, 47, 48, 49, 50, 51, 52, 53, 54] (by kernel_rfl)
      [(2, .val (.pointer (some ⟨w.heap.size, 0, none⟩))), (0, .val (.slice (some ⟨b, o, none⟩) 576 c))]
      [(43, .val (.agg #[.int .u64 (e : Int), .int .i64 (i : Int), .int .i64 (p : Int), .bool fl, .int .i64 (z : Int), .int .u32 (n : Int), .slice A11 512 c11])), (44, .val (.bool false)), (45, .val (.bool true)), (46, .val (.bool true)), (47, .any), (48, .any), (49, .any), (50, .any), (51, .any), (52, .any), (53, .any), (54, .val (.bool true))]
      ⟨rfl, rfl, trivial⟩ (by kernel_rfl)
      (allOk_cons (ok_none rfl (l_loadV (.tmp 2) (⟨w.heap.size, 0, none⟩) 120 (.agg #[.int .u64 (e : Int), .int .i64 (i : Int), .int .i64 (p : Int), .bool fl, .int .i64 (z : Int), .int .u32 (n : Int), .slice A11 512 c11]) rfl (hs 2 (.pointer (some ⟨w.heap.size, 0, none⟩)) (by kernel_rfl) (by kernel_rfl)) (fun w hg => hl2 w hg) (by kernel_rfl)))
      <| allOk_cons (ok_none rfl (l_call 140 _ _ rfl (enters_of Try.func140 (by kernel_rfl) rfl) #[.agg #[.int .u64 (e : Int), .int .i64 (i : Int), .int .i64 (p : Int), .bool fl, .int .i64 (z : Int), .int .u32 (n : Int), .slice A11 512 c11]] (.val (.bool false)) (args1 (hs 43 (.agg #[.int .u64 (e : Int), .int .i64 (i : Int), .int .i64 (p : Int), .bool fl, .int .i64 (z : Int), .int .u32 (n : Int), .slice A11 512 c11]) (by kernel_rfl) (by kernel_rfl))) (fun w hg => gives_grow (hright w)) (by kernel_rfl)))
      <| allOk_cons (ok_none rfl (l_not (.tmp 44) false rfl (hs 44 _ (by kernel_rfl) (by kernel_rfl)) (by kernel_rfl)))
      <| allOk_cons (ok_none rfl (l_mvF 45 (.val (.bool true)) (.inl rfl) (by kernel_rfl) (by kernel_rfl) (by kernel_rfl)))
      <| allOk_cons (okg_not 3 false 46 rfl (by kernel_rfl) (by kernel_rfl) (by kernel_rfl) (by kernel_rfl))
      <| allOk_cons (okg_not 3 false 46 rfl (by kernel_rfl) (by kernel_rfl) (by kernel_rfl) (by kernel_rfl))
      <| allOk_cons (okg_not 3 false 46 rfl (by kernel_rfl) (by kernel_rfl) (by kernel_rfl) (by kernel_rfl))
      <| allOk_cons (okg_not 3 false 46 rfl (by kernel_rfl) (by kernel_rfl) (by kernel_rfl) (by kernel_rfl))
      <| allOk_cons (okg_not 3 false 46 rfl (by kernel_rfl) (by kernel_rfl) (by kernel_rfl) (by kernel_rfl))
      <| allOk_cons (okg_not 3 false 46 rfl (by kernel_rfl) (by kernel_rfl) (by kernel_rfl) (by kernel_rfl))
      <| allOk_cons (okg_not 3 false 46 rfl (by kernel_rfl) (by kernel_rfl) (by kernel_rfl) (by kernel_rfl))
      <| allOk_cons (ok_none rfl (l_pickT (.tmp 46) (.const (.bool true)) (.tmp 53) (.bool true) rfl (hs 46 _ (by kernel_rfl) (by kernel_rfl)) (hc _) (by kernel_rfl)))
      <| allOk_nil) ?_
    intro a W13 hsz hdef hGW13 hF hU
    have e54 : a.eval (.tmp 54) = .bool true := hF 54
    have ha := Reg.acts_eq [43, 44, 45, 46, 47, 48, 49, 50, 51, 52, 53, 54] hsz hdef hU
    clear hF hU hdef
    simp only [List.foldl_cons, List.foldl_nil, e54] at ha
    clear e54 hsz
    generalize a.eval (.tmp 43) = v43 at *
    generalize a.eval (.tmp 44) = v44 at *
    generalize a.eval (.tmp 45) = v45 at *
    generalize a.eval (.tmp 46) = v46 at *
    generalize a.eval (.tmp 47) = v47 at *
    generalize a.eval (.tmp 48) = v48 at *
    generalize a.eval (.tmp 49) = v49 at *
    generalize a.eval (.tmp 50) = v50 at *
    generalize a.eval (.tmp 51) = v51 at *
    generalize a.eval (.tmp 52) = v52 at *
    generalize a.eval (.tmp 53) = v53 at *
    simp only [Act.put, List.setIfInBounds_toArray, List.set_cons_succ, List.set_cons_zero] at ha
    subst ha
    simp only [Exit.then]
    refine ‹∀ (a : Act) (w : World), Code.wp Try.prog _ _ a w → _› _ W13 ?_
    have hf13 := hf12.below hGW13 hf12.lt
    have hB13 : Below w.heap.size w W13 := hB12.trans (hGW13.mono s12)
    clear hright hright0 hfront0 hl2 hlb hfc
    go_wp2_with (refine wp_storeW rfl 120 (.tmp 2) (.tmp 55) rfl w.heap.size rfl rfl rowFrame hf13 (by rfl) (by rfl) hz1 ?_)
    refine bodyPost_ret_by (results_cellW_tmp 2 3 rfl rfl rfl rowFrame (hf13.setRow _) (by rfl)) rfl (HGF.out _ _ (below_setRow hB13 (Nat.le_refl _) _) ?_)
    rw [hno]
    rfl
  | true =>
    obtain ⟨_, ⟨_, hi1⟩, ⟨_, hp1⟩, ⟨_, hz2⟩, _⟩ := (frOk_iff _ _ _ _ _).1 hk
    have hright := hright0
    rw [hk] at hright
    have hfront := fun w' (hG : Grow W12 w') => hfront0 w' (by omega) (by omega) (by omega) ((hin12.below hG).more hG.size) HL64.out
    rw [HL64.out] at hfront
    have hyes : isFrame l = (sectB (partB e i p fl z n) (l.drop 64) == l.take 64) := by rw [HFi.out, hk]; rfl
    have hFS : (sectB (partB e i p fl z n) (l.drop 64)).length = 64 := by rw [sectB_length, partB_length]
    generalize sectB (partB e i p fl z n) (l.drop 64) = FS at *
    generalize l.take 64 = T64 at *
    have HY := Lib.hid hyes
    have hc64 : 64 ≤ c := by omega
    clear hyes hk
    open Reg in
    refine region_acts (by kernel_rfl) (by kernel_rfl) 57 rfl (by kernel_rfl) [43, 44, 45, 46, 47, 48, 49, 50, 51, 52, 53, 54] (by kernel_rfl)
      [(2, .val (.pointer (some ⟨w.heap.size, 0, none⟩))), (0, .val (.slice (some ⟨b, o, none⟩) 576 c))]
      [(43, .val (.agg #[.int .u64 (e : Int), .int .i64 (i : Int), .int .i64 (p : Int), .bool fl, .int .i64 (z : Int), .int .u32 (n : Int), .slice A11 512 c11])), (44, .val (.bool true)), (45, .val (.bool false)), (46, .val (.bool false)), (47, .val (.agg #[.int .u64 (e : Int), .int .i64 (i : Int), .int .i64 (p : Int), .bool fl, .int .i64 (z : Int), .int .u32 (n : Int), .slice A11 512 c11])), (48, .val (.agg (FS.map b8).toArray)), (49, .val (.slice (some ⟨b, o, none⟩) 576 c)), (50, .val (.slice (some ⟨b, o, none⟩) 64 c)), (51, .val (.pointer (some ⟨b, o, none⟩))), (52, .val (.agg (T64.map b8).toArray)), (53, .val (.bool (FS != T64))), (54, .val (.bool (FS != T64)))]
      ⟨rfl, rfl, trivial⟩ (by kernel_rfl)
      (allOk_cons (ok_none rfl (l_loadV (.tmp 2) (⟨w.heap.size, 0, none⟩) 120 (.agg #[.int .u64 (e : Int), .int .i64 (i : Int), .int .i64 (p : Int), .bool fl, .int .i64 (z : Int), .int .u32 (n : Int), .slice A11 512 c11]) rfl (hs 2 (.pointer (some ⟨w.heap.size, 0, none⟩)) (by kernel_rfl) (by kernel_rfl)) (fun w hg => hl2 w hg) (by kernel_rfl)))
      <| allOk_cons (ok_none rfl (l_call 140 _ _ rfl (enters_of Try.func140 (by kernel_rfl) rfl) #[.agg #[.int .u64 (e : Int), .int .i64 (i : Int), .int .i64 (p : Int), .bool fl, .int .i64 (z : Int), .int .u32 (n : Int), .slice A11 512 c11]] (.val (.bool true)) (args1 (hs 43 (.agg #[.int .u64 (e : Int), .int .i64 (i : Int), .int .i64 (p : Int), .bool fl, .int .i64 (z : Int), .int .u32 (n : Int), .slice A11 512 c11]) (by kernel_rfl) (by kernel_rfl))) (fun w hg => gives_grow (hright w)) (by kernel_rfl)))
      <| allOk_cons (ok_none rfl (l_not (.tmp 44) true rfl (hs 44 _ (by kernel_rfl) (by kernel_rfl)) (by kernel_rfl)))
      <| allOk_cons (ok_none rfl (l_mvF 45 (.val (.bool false)) (.inl rfl) (by kernel_rfl) (by kernel_rfl) (by kernel_rfl)))
      <| allOk_cons (okg 3 false 46 rfl (by kernel_rfl) (by kernel_rfl) (by kernel_rfl) (l_loadV (.tmp 2) (⟨w.heap.size, 0, none⟩) 120 (.agg #[.int .u64 (e : Int), .int .i64 (i : Int), .int .i64 (p : Int), .bool fl, .int .i64 (z : Int), .int .u32 (n : Int), .slice A11 512 c11]) rfl (hs 2 (.pointer (some ⟨w.heap.size, 0, none⟩)) (by kernel_rfl) (by kernel_rfl)) (fun w hg => hl2 w hg) (by kernel_rfl)))
      <| allOk_cons (okg 3 false 46 rfl (by kernel_rfl) (by kernel_rfl) (by kernel_rfl) (l_call 141 _ _ rfl (enters_of Try.func141 (by kernel_rfl) rfl) #[.agg #[.int .u64 (e : Int), .int .i64 (i : Int), .int .i64 (p : Int), .bool fl, .int .i64 (z : Int), .int .u32 (n : Int), .slice A11 512 c11]] (.val (.agg (FS.map b8).toArray)) (args1 (hs 47 (.agg #[.int .u64 (e : Int), .int .i64 (i : Int), .int .i64 (p : Int), .bool fl, .int .i64 (z : Int), .int .u32 (n : Int), .slice A11 512 c11]) (by kernel_rfl) (by kernel_rfl))) (fun w hg => gives_grow (hfront w hg)) (by kernel_rfl)))
      <| allOk_cons (okg 3 false 46 rfl (by kernel_rfl) (by kernel_rfl) (by kernel_rfl) (l_mvF 0 (.val (.slice (some ⟨b, o, none⟩) 576 c)) (.inl rfl) (by kernel_rfl) (by kernel_rfl) (by kernel_rfl)))
      <| allOk_cons (okg 3 false 46 rfl (by kernel_rfl) (by kernel_rfl) (by kernel_rfl) (l_run2W (.tmp 49) (.const (.int .i64 64)) (.val (.slice (some ⟨b, o, none⟩) 64 c)) (.slice (some ⟨b, o, none⟩) 576 c) (.int .i64 ((64 : Nat) : Int)) (hs 49 _ (by kernel_rfl) (by kernel_rfl)) (hc _) (fun ρ w hg h1 h2 => ⟨_, w, cut_toN rfl h1 h2 hc64, Grow.refl _, rfl⟩) (by kernel_rfl)))
      <| allOk_cons (okg 3 false 46 rfl (by kernel_rfl) (by kernel_rfl) (by kernel_rfl) (l_s2a (.tmp 50) b o 64 c (by decide) rfl (hs 50 _ (by kernel_rfl) (by kernel_rfl)) (by kernel_rfl)))
      <| allOk_cons (okg 3 false 46 rfl (by kernel_rfl) (by kernel_rfl) (by kernel_rfl) (l_loadV (.tmp 51) (⟨b, o, none⟩) 236 (.agg (T64.map b8).toArray) rfl (hs 51 (.pointer (some ⟨b, o, none⟩)) (by kernel_rfl) (by kernel_rfl)) (fun w hg => hlb w hg) (by kernel_rfl)))
      <| allOk_cons (okg 3 false 46 rfl (by kernel_rfl) (by kernel_rfl) (by kernel_rfl) (l_neArr (.tmp 48) (.tmp 52) _ FS T64 hFS hT64 rfl (hs 48 _ (by kernel_rfl) (by kernel_rfl)) (hs 52 _ (by kernel_rfl) (by kernel_rfl)) (by kernel_rfl)))
      <| allOk_cons (ok_none rfl (l_pickF (.tmp 46) (.const (.bool true)) (.tmp 53) (.bool (FS != T64)) rfl (hs 46 _ (by kernel_rfl) (by kernel_rfl)) (hs 53 _ (by kernel_rfl) (by kernel_rfl)) (by kernel_rfl)))
      <| allOk_nil) ?_
    intro a W13 hsz hdef hGW13 hF hU
    have e54 : a.eval (.tmp 54) = .bool (FS != T64) := hF 54
    have ha := Reg.acts_eq [43, 44, 45, 46, 47, 48, 49, 50, 51, 52, 53, 54] hsz hdef hU
    clear hF hU hdef
    simp only [List.foldl_cons, List.foldl_nil, e54] at ha
    clear e54 hsz
    generalize a.eval (.tmp 43) = v43 at *
    generalize a.eval (.tmp 44) = v44 at *
    generalize a.eval (.tmp 45) = v45 at *
    generalize a.eval (.tmp 46) = v46 at *
    generalize a.eval (.tmp 47) = v47 at *
    generalize a.eval (.tmp 48) = v48 at *
    generalize a.eval (.tmp 49) = v49 at *
    generalize a.eval (.tmp 50) = v50 at *
    generalize a.eval (.tmp 51) = v51 at *
    generalize a.eval (.tmp 52) = v52 at *
    generalize a.eval (.tmp 53) = v53 at *
    simp only [Act.put, List.setIfInBounds_toArray, List.set_cons_succ, List.set_cons_zero] at ha
    subst ha
    simp only [Exit.then]
    refine ‹∀ (a : Act) (w : World), Code.wp Try.prog _ _ a w → _› _ W13 ?_
    have hf13 := hf12.below hGW13 hf12.lt
    have hB13 : Below w.heap.size w W13 := hB12.trans (hGW13.mono s12)
    have hin13 := (hin12.below hGW13).more hGW13.size
    clear hright hright0 hfront0 hfront hl2 hlb hT64 hFS
    have hbne : (FS != T64) = !(FS == T64) := rfl
    rw [hbne]
    cases hq : (FS == T64) with
    | false =>
      simp only [Bool.not_false]
      go_wp2_with (refine wp_storeW rfl 120 (.tmp 2) (.tmp 55) rfl w.heap.size rfl rfl rowFrame hf13 (by rfl) (by rfl) hz1 ?_)
      refine bodyPost_ret_by (results_cellW_tmp 2 3 rfl rfl rfl rowFrame (hf13.setRow _) (by rfl)) rfl (HGF.out _ _ (below_setRow hB13 (Nat.le_refl _) _) ?_)
      rw [HY.out, hq]
      rfl
    | true =>
      simp only [Bool.not_true]
      go_wp2_with (first
        | (refine wp_loadW rfl 120 (.tmp 2) rfl w.heap.size rfl rowFrame hf13 (by rfl) ?_)
        | (refine wp_storeW rfl 120 (.tmp 2) (.tmp 56) rfl w.heap.size rfl rfl rowFrame hf13 (by rfl) (by rfl) hfc ?_))
      have hself : W13.setRow w.heap.size #[.int .u64 (e : Int), .int .i64 (i : Int), .int .i64 (p : Int), .bool fl, .int .i64 (z : Int), .int .u32 (n : Int), .slice A11 512 c11] = W13 := setRow_self W13 _ _ _ _ hf13
      rw [hself]
      refine bodyPost_ret_by (results_cellW_tmp 2 3 rfl rfl rfl rowFrame hf13 (by rfl)) rfl (HGF.out _ _ hB13 ?_)
      rw [HY.out, hq]
      exact ⟨A11, c11, rfl, hin13⟩
theorem decode_gives (w : World) (A : Option Addr) (c : Nat) (l : List UInt8) (h : InB w w.heap.size A c l) :
    Calls Try.prog 76 #[.slice A l.length c] w (GivesFr w l) := by
  by_cases hl : l.length = 576
  · rw [hl]
    exact decode_576 w A c l h hl
  · exact decode_len w A c l h hl
end Go.Proofs.Ytlelckdcmlpmdaa
