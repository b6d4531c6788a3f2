/- Texts that the proof of FrameBytes leans on, part 9. -/
import Derived.Test.YtlelckdcmlpmdaaFrameBytesB8
/- loupelaw05.FrameHolds: the walk. -/
namespace Go.Proofs.Ytlelckdcmlpmdaa
open Go Go.RowKit Lou

theorem isFrame_eq {l : List UInt8} (h : isFrame l = true) : l.length = 576 ∧ frameB (partB (fdE l) (fdI l) (fdP l) (fdF l) (fdZ l) (fdL l)) (l.drop 64) = l := by
  unfold isFrame at h
  simp only [Bool.and_eq_true, decide_eq_true_eq, beq_iff_eq] at h
  obtain ⟨h1, _, h3⟩ := h
  refine ⟨h1, ?_⟩
  unfold frameB
  rw [h3, List.take_append_drop]
theorem isFrame_set {e i p : Nat} {f : Bool} {z n : Nat} {y : List UInt8} (hy : y.length = 512) (q : Nat) (hq : q < 576) (d : UInt8) (hd : (frameB (partB e i p f z n) y)[q]'(by simp [frameB, sectB_length, partB_length]; omega) ≠ d) : isFrame ((frameB (partB e i p f z n) y).set q d) = false := by
  cases h : isFrame ((frameB (partB e i p f z n) y).set q d) with
  | false => rfl
  | true =>
    exfalso
    obtain ⟨h1, h2⟩ := isFrame_eq h
    exact frameB_set (partB_length e i p f z n) (partB_length _ _ _ _ _ _) hy (by rw [List.length_drop, h1]) q hq d hd h2
theorem frameB_length {e i p : Nat} {f : Bool} {z n : Nat} {y : List UInt8} (hy : y.length = 512) : (frameB (partB e i p f z n) y).length = 576 := by
  simp [frameB, sectB_length, partB_length]; omega
theorem OwnB.laterB {w w' : World} {base B : Nat} {v : Value} {l : List UInt8} (h : OwnB w base v l) (hB : Below B w w') (hlt : ∀ r, v.ownBlock = some r → r < B) : OwnB w' base v l := by
  refine ⟨h.1, ?_⟩
  rcases h.2 with h | ⟨g, cap, cur, h1, h2, h3, h4⟩
  · exact .inl h
  · exact .inr ⟨g, cap, cur, h1, h2, (hB.block g (hlt g (by rw [h1]; rfl))).trans h3, h4⟩

section
variable (e : Nat) (i p : Int) (f : Bool) (z : Int) (n : Nat) (A : Option Addr) (k : Nat) (y : List UInt8) (s e' : Nat) (z' c' : Int) (x0 x1 : Int) (w : World)
set_option maxRecDepth 100000 in
set_option maxHeartbeats 8000000 in
theorem lawFHolds_bad (hin : InB w w.heap.size A k y) (ho : frOk y.length i p f z = false ∨ headOk z' c' = false) :
    Calls Try.prog 16 #[.agg (frCells e i p f z n A y.length k), .agg #[.int .u64 (s : Int), .int .u64 (e' : Int), .int .i64 z', .int .i64 c'], .agg #[.int .i64 x0, .int .i64 x1]] w fun e w' => e = .returned (.bool true) ∧ Below w.heap.size w w' := by
  have E1 := fun W h => encode_gives e i p f z n A k y W h
  have E2 := fun W => encodeHead_gives s e' z' c' W
  have n1 : fErr i p f z y = 0 ∨ fErr i p f z y = 2 := by unfold fErr; split <;> simp
  have n2 : hErr z' c' = 0 ∨ hErr z' c' = 2 := by unfold hErr; split <;> simp
  have n3 : fErr i p f z y + hErr z' c' ≠ 0 := by
    rcases ho with h | h
    · have : fErr i p f z y = 2 := by simp [fErr, h]
      omega
    · have : hErr z' c' = 2 := by simp [hErr, h]
      omega
  generalize fEnc e i p f z n y = X at *
  generalize hEnc s e' z' c' = Y at *
  generalize fErr i p f z y = r1 at *
  generalize hErr z' c' = r2 at *
  have b1 : 0 ≤ r1 := by omega
  have b2 : r1 ≤ 2 := by omega
  have b3 : 0 ≤ r2 := by omega
  have b4 : r2 ≤ 2 := by omega
  have hw1 : IntKind.i64.wrap (r1 + r2) = r1 + r2 := wrap_i64_fr _ (by omega) (by omega)
  have hq : ((r1 + r2) == 0) = false := by simpa using n3
  have hq2 : ((r1 + r2) != 0) = true := by simpa using n3
  clear ho n1 n2 n3
  unfold frCells at *
  have hB0 : Below w.heap.size w (((w.alloc (.cells #[.int .u64 (e : Int), .int .i64 i, .int .i64 p, .bool f, .int .i64 z, .int .u32 (n : Int), .slice A y.length k] 120)).alloc (.cells #[.int .u64 (s : Int), .int .u64 (e' : Int), .int .i64 z', .int .i64 c'] 109)).alloc (.cells #[.int .i64 x0, .int .i64 x1] 132)) := (((Below.refl _ w).alloc (Nat.le_refl _) _).alloc (by simp) _).alloc (by simp; omega) _
  have hk0 := (BlkIs.new (w.alloc (.cells #[.int .u64 (e : Int), .int .i64 i, .int .i64 p, .bool f, .int .i64 z, .int .u32 (n : Int), .slice A y.length k] 120)) 109 #[.int .u64 (s : Int), .int .u64 (e' : Int), .int .i64 z', .int .i64 c']).alloc (.cells #[.int .i64 x0, .int .i64 x1] 132)
  rw [World.size_alloc] at hk0
  have hin0 := (hin.below hB0).more hB0.size
  go_enter Try.func16, Try.ntmps16
  go_wp2_with fail
  refine (E1 _ hin0).mono ?_
  rintro x W2 ⟨A2, c2, rfl, hin2, hB⟩
  have hB2 := hB0.trans (hB.mono hB0.size)
  have hk2 := hk0.below hB hk0.lt
  clear hB hk0 hB0 E1 hin2 hin0 hin
  go_wp2_with (refine wp_loadW rfl 109 (.tmp 4) rfl (w.heap.size + 1) rfl rowHead hk2 (by rfl) ?_)
  refine (E2 _).mono ?_
  rintro x W3 ⟨A3, c3, rfl, hy, hB⟩
  have hB3 := hB2.trans (hB.mono hB2.size)
  clear hB hk2 hB2 E2 hy
  go_wp2_with (first
    | (go_at_call 60; refine (num5_gives _ _).mono ?_; rintro x w' ⟨rfl, rfl⟩)
    | (go_at_call 62; refine (works5_gives _).mono ?_; rintro x W10 ⟨rfl, hB⟩))
  go_ret
  exact ⟨rfl, hB3.trans (hB.mono hB3.size)⟩
end
end Go.Proofs.Ytlelckdcmlpmdaa
namespace Go.Proofs.Ytlelckdcmlpmdaa
open Go Go.RowKit Lou

namespace Reg
variable {L : List (Nat × Fact)} {ops : Array Oper} {w0 : World} {o : Oper}
theorem l_idxP (x y : Operand) (b k : Nat) (hk : k < 2) (ho : o.op = .indexAddr 132 x y) (hx : Has ops (FSof L) o x (.pointer (some ⟨b, 0, none⟩))) (hy : Has ops (FSof L) o y (.int .i64 (k : Int))) (hd : FD L o.dst = .val (.pointer (some ⟨b, k, none⟩))) : RunOk Try.prog ops (FSof L) w0 o := by
  refine run2 x y hx hy (fun ρ w h h2 => ?_) fun _ => fsd hd rfl
  have ea : (⟨b, 0, none⟩ : Addr).add k = ⟨b, k, none⟩ := by cases k <;> simp [Addr.add]
  have hk2 : (k : Int) < 2 := by omega
  simp [hk2, execOp, ho, h, h2, go_sem, hk, Result.andThen, ea, Try.underlying132]
theorem l_quo8 (x y : Operand) (m q : Nat) (ho : o.op = .binOp .quo 3 x y 3) (hx : Has ops (FSof L) o x (.int .i64 (m : Int))) (hy : Has ops (FSof L) o y (.int .i64 8)) (hq : (m : Int) / 8 = (q : Int)) (hw : IntKind.i64.wrap (q : Int) = (q : Int)) (hd : FD L o.dst = .val (.int .i64 (q : Int))) : RunOk Try.prog ops (FSof L) w0 o :=
  run2 x y hx hy (fun ρ w h h2 => by simp [execOp, ho, h, h2, go_sem, Result.andThen, hq, hw]) fun _ => fsd hd rfl
theorem l_rem8 (x y : Operand) (m q : Nat) (ho : o.op = .binOp .rem 3 x y 3) (hx : Has ops (FSof L) o x (.int .i64 (m : Int))) (hy : Has ops (FSof L) o y (.int .i64 8)) (hq : (m : Int) % 8 = (q : Int)) (hw : IntKind.i64.wrap (q : Int) = (q : Int)) (hd : FD L o.dst = .val (.int .i64 (q : Int))) : RunOk Try.prog ops (FSof L) w0 o :=
  run2 x y hx hy (fun ρ w h h2 => by simp [execOp, ho, h, h2, go_sem, Result.andThen, hq, hw, Int.tmod_eq_emod_of_nonneg]) fun _ => fsd hd rfl
theorem l_toU (x : Operand) (r : Nat) (hr : r < 8) (ho : o.op = .convert 3 44 x) (hx : Has ops (FSof L) o x (.int .i64 (r : Int))) (hd : FD L o.dst = .val (.int .u64 (r : Int))) : RunOk Try.prog ops (FSof L) w0 o := by
  have hw : IntKind.u64.wrap (r : Int) = (r : Int) := by simp [IntKind.wrap, IntKind.bits, IntKind.signed]; omega
  exact run1 x hx (fun ρ w h => by simp [execOp, ho, h, go_sem, Result.andThen, hw]) fun _ => fsd hd rfl
theorem l_shl1 (x y : Operand) (r : Nat) (hr : r < 8) (ho : o.op = .binOp .shl 5 y x 44) (hx : Has ops (FSof L) o x (.int .u64 (r : Int))) (hy : Has ops (FSof L) o y (.int .u8 1)) (hd : FD L o.dst = .val (.int .u8 (2 ^ r % 256))) : RunOk Try.prog ops (FSof L) w0 o :=
  run2 x y hx hy (fun ρ w h h2 => by
    rcases r with _ | _ | _ | _ | _ | _ | _ | _ | r
    all_goals first | omega | (simp [execOp, ho, h, h2, go_sem, Result.andThen]; done) | (simp [execOp, ho, h, h2, go_sem, Result.andThen]; decide)) fun _ => fsd hd rfl
theorem l_xorB (x z : Operand) (b r y : Nat) (hy : bits .xor .u8 (b : Int) (2 ^ r % 256) = (y : Int)) (ho : o.op = .binOp .xor 5 x z 5) (hx : Has ops (FSof L) o x (.int .u8 (b : Int))) (hz : Has ops (FSof L) o z (.int .u8 (2 ^ r % 256))) (hd : FD L o.dst = .val (.int .u8 (y : Int))) : RunOk Try.prog ops (FSof L) w0 o :=
  run2 x z hx hz (fun ρ w h1 h2 => by simp [execOp, ho, h1, h2, go_sem, Result.andThen, hy]) fun _ => fsd hd rfl
end Reg

section
variable (e : Nat) (i p : Int) (f : Bool) (z : Int) (n : Nat) (A : Option Addr) (k : Nat) (y : List UInt8) (s e' : Nat) (z' c' : Int) (w : World) (X Y : List UInt8)
set_option maxRecDepth 100000 in
set_option maxHeartbeats 8000000 in
theorem lawFHolds_bits (x0 x1 : Int) (hin : InB w w.heap.size A k y) (hX : X.length = 576) (hY : Y.length = 64)
    (E1 : ∀ W, InB W W.heap.size A k y → Calls Try.prog 74 #[.agg (frCells e i p f z n A y.length k)] W (GivesBE W X 0))
    (E2 : ∀ W, Calls Try.prog 70 #[.agg #[.int .u64 (s : Int), .int .u64 (e' : Int), .int .i64 z', .int .i64 c']] W (GivesBE W Y 0))
    (hb : x0 < 0 ∨ (¬ x0 < 0 ∧ 4608 ≤ x0) ∨ (¬ x0 < 0 ∧ ¬ 4608 ≤ x0 ∧ x1 < 0) ∨ (¬ x0 < 0 ∧ ¬ 4608 ≤ x0 ∧ ¬ x1 < 0 ∧ 512 ≤ x1)) :
    Calls Try.prog 16 #[.agg (frCells e i p f z n A y.length k), .agg #[.int .u64 (s : Int), .int .u64 (e' : Int), .int .i64 z', .int .i64 c'], .agg #[.int .i64 x0, .int .i64 x1]] w fun e w' => e = .returned (.bool true) ∧ Below w.heap.size w w' := by
  unfold frCells at *
  have hB0 : Below w.heap.size w (((w.alloc (.cells #[.int .u64 (e : Int), .int .i64 i, .int .i64 p, .bool f, .int .i64 z, .int .u32 (n : Int), .slice A y.length k] 120)).alloc (.cells #[.int .u64 (s : Int), .int .u64 (e' : Int), .int .i64 z', .int .i64 c'] 109)).alloc (.cells #[.int .i64 x0, .int .i64 x1] 132)) := (((Below.refl _ w).alloc (Nat.le_refl _) _).alloc (by simp) _).alloc (by simp; omega) _
  have hk0 := (BlkIs.new (w.alloc (.cells #[.int .u64 (e : Int), .int .i64 i, .int .i64 p, .bool f, .int .i64 z, .int .u32 (n : Int), .slice A y.length k] 120)) 109 #[.int .u64 (s : Int), .int .u64 (e' : Int), .int .i64 z', .int .i64 c']).alloc (.cells #[.int .i64 x0, .int .i64 x1] 132)
  have hj0 := BlkIs.new ((w.alloc (.cells #[.int .u64 (e : Int), .int .i64 i, .int .i64 p, .bool f, .int .i64 z, .int .u32 (n : Int), .slice A y.length k] 120)).alloc (.cells #[.int .u64 (s : Int), .int .u64 (e' : Int), .int .i64 z', .int .i64 c'] 109)) 132 #[.int .i64 x0, .int .i64 x1]
  rw [World.size_alloc] at hk0
  rw [World.size_alloc, World.size_alloc] at hj0
  have hin0 := (hin.below hB0).more hB0.size
  have HX := Lib.hid hX
  have HY := Lib.hid hY
  have HB := Lib.hid hb
  clear hX hY hb
  go_enter Try.func16, Try.ntmps16
  go_wp2_with fail
  refine (E1 _ hin0).mono ?_
  rintro x W2 ⟨A2, c2, rfl, hin2, hB⟩
  have hB2 := hB0.trans (hB.mono hB0.size)
  have hk2 := hk0.below hB hk0.lt
  have hj2 := hj0.below hB hj0.lt
  clear hB hk0 hj0 hB0 E1 hin2 hin0 hin
  rw [HX.out]
  go_wp2_with (refine wp_loadW rfl 109 (.tmp 4) rfl (w.heap.size + 1) rfl rowHead hk2 (by rfl) ?_)
  refine (E2 _).mono ?_
  rintro x W3 ⟨A3, c3, rfl, hy, hB⟩
  have hB3 := hB2.trans (hB.mono hB2.size)
  have hj3 := hj2.below hB hj2.lt
  clear hB hk2 hj2 hB2 E2 hy
  rw [HY.out]
  have hd0 : W3.cell? ⟨w.heap.size + 2, 0, none⟩ = some (.int .i64 x0) := by rw [hj3.cell]; rfl
  have hd1 : W3.cell? ⟨w.heap.size + 2, 1, none⟩ = some (.int .i64 x1) := by rw [hj3.cell]; rfl
  have hb := HB.out
  clear hj3 HB
  rcases hb with h1 | ⟨h1, h2⟩ | ⟨h1, h2, h3⟩ | ⟨h1, h2, h3, h4⟩
  all_goals
    go_wp2_with (first
      | (go_at_call 60; refine (num5_gives _ _).mono ?_; rintro x w' ⟨rfl, rfl⟩)
      | (go_at_call 62; refine (works5_gives _).mono ?_; rintro x W10 ⟨rfl, hB⟩))
    go_ret
    exact ⟨rfl, hB3.trans (hB.mono hB3.size)⟩
set_option maxRecDepth 100000 in
set_option maxHeartbeats 8000000 in
theorem lawFHolds_core (m0 m1 : Nat) (hin : InB w w.heap.size A k y) (hX : X.length = 576) (hY : Y.length = 64)
    (E1 : ∀ W, InB W W.heap.size A k y → Calls Try.prog 74 #[.agg (frCells e i p f z n A y.length k)] W (GivesBE W X 0))
    (E2 : ∀ W, Calls Try.prog 70 #[.agg #[.int .u64 (s : Int), .int .u64 (e' : Int), .int .i64 z', .int .i64 c']] W (GivesBE W Y 0))
    (hm0 : m0 < 4608) (hm1 : m1 < 512)
    (NX : ∀ (q : Nat) (hq : q < X.length) (d : UInt8), X[q] ≠ d → isFrame (X.set q d) = false)
    (NY : ∀ (q : Nat) (hq : q < Y.length) (d : UInt8), Y[q] ≠ d → isHead (Y.set q d) = false) :
    Calls Try.prog 16 #[.agg (frCells e i p f z n A y.length k), .agg #[.int .u64 (s : Int), .int .u64 (e' : Int), .int .i64 z', .int .i64 c'], .agg #[.int .i64 (m0 : Int), .int .i64 (m1 : Int)]] w fun e w' => e = .returned (.bool true) ∧ Below w.heap.size w w' := by
  unfold frCells at *
  have hB0 : Below w.heap.size w (((w.alloc (.cells #[.int .u64 (e : Int), .int .i64 i, .int .i64 p, .bool f, .int .i64 z, .int .u32 (n : Int), .slice A y.length k] 120)).alloc (.cells #[.int .u64 (s : Int), .int .u64 (e' : Int), .int .i64 z', .int .i64 c'] 109)).alloc (.cells #[.int .i64 (m0 : Int), .int .i64 (m1 : Int)] 132)) := (((Below.refl _ w).alloc (Nat.le_refl _) _).alloc (by simp) _).alloc (by simp; omega) _
  have hk0 := (BlkIs.new (w.alloc (.cells #[.int .u64 (e : Int), .int .i64 i, .int .i64 p, .bool f, .int .i64 z, .int .u32 (n : Int), .slice A y.length k] 120)) 109 #[.int .u64 (s : Int), .int .u64 (e' : Int), .int .i64 z', .int .i64 c']).alloc (.cells #[.int .i64 (m0 : Int), .int .i64 (m1 : Int)] 132)
  have hj0 := BlkIs.new ((w.alloc (.cells #[.int .u64 (e : Int), .int .i64 i, .int .i64 p, .bool f, .int .i64 z, .int .u32 (n : Int), .slice A y.length k] 120)).alloc (.cells #[.int .u64 (s : Int), .int .u64 (e' : Int), .int .i64 z', .int .i64 c'] 109)) 132 #[.int .i64 (m0 : Int), .int .i64 (m1 : Int)]
  rw [World.size_alloc] at hk0
  rw [World.size_alloc, World.size_alloc] at hj0
  have hin0 := (hin.below hB0).more hB0.size
  obtain ⟨q0, hq0⟩ : ∃ q, q = m0 / 8 := ⟨_, rfl⟩
  obtain ⟨r0, hr0⟩ : ∃ r, r = m0 % 8 := ⟨_, rfl⟩
  obtain ⟨q1, hq1⟩ : ∃ q, q = m1 / 8 := ⟨_, rfl⟩
  obtain ⟨r1, hr1⟩ : ∃ r, r = m1 % 8 := ⟨_, rfl⟩
  have hlt0 : ¬ (4608 : Int) ≤ (m0 : Int) := by omega
  have hlt1 : ¬ (512 : Int) ≤ (m1 : Int) := by omega
  have hd0 : (m0 : Int) / 8 = (q0 : Int) := by omega
  have he0 : (m0 : Int) % 8 = (r0 : Int) := by omega
  have hd1 : (m1 : Int) / 8 = (q1 : Int) := by omega
  have he1 : (m1 : Int) % 8 = (r1 : Int) := by omega
  have hql0 : q0 < X.length := by omega
  have hql1 : q1 < Y.length := by omega
  have hqi0 : (q0 : Int) < 576 := by omega
  have hqi1 : (q1 : Int) < 64 := by omega
  have hqn0 : q0 < 576 := by omega
  have hqn1 : q1 < 64 := by omega
  have hz0 : (0 : Int) ≤ (q0 : Int) := by omega
  have hz1 : (0 : Int) ≤ (q1 : Int) := by omega
  have hwq0 : IntKind.i64.wrap (q0 : Int) = (q0 : Int) := wrap_i64_fr _ (by omega) (by omega)
  have hwq1 : IntKind.i64.wrap (q1 : Int) = (q1 : Int) := wrap_i64_fr _ (by omega) (by omega)
  have hwr0 : IntKind.i64.wrap (r0 : Int) = (r0 : Int) := wrap_i64_fr _ (by omega) (by omega)
  have hwr1 : IntKind.i64.wrap (r1 : Int) = (r1 : Int) := wrap_i64_fr _ (by omega) (by omega)
  have hrr0 : r0 < 8 := by omega
  have hrr1 : r1 < 8 := by omega
  obtain ⟨y0, hy0, hyl0, hyn0⟩ := xor_bit X[q0] r0 hrr0
  obtain ⟨y1, hy1, hyl1, hyn1⟩ := xor_bit Y[q1] r1 hrr1
  have NX0 := NX q0 hql0 _ hyn0
  have NY0 := NY q1 hql1 _ hyn1
  have HX := Lib.hid hX
  have HY := Lib.hid hY
  have HQ0 := Lib.hid hq0
  have HQ1 := Lib.hid hq1
  have HR0 := Lib.hid hr0
  have HR1 := Lib.hid hr1
  have HM0 := Lib.hid hm0
  have HM1 := Lib.hid hm1
  have HNX := Lib.hid NX0
  have HNY := Lib.hid NY0
  clear hX hY hq0 hq1 hr0 hr1 NX NY NX0 NY0 hm0 hm1 hyn0 hyn1
  go_enter Try.func16, Try.ntmps16
  go_wp2_with fail
  refine (E1 _ hin0).mono ?_
  rintro x W2 ⟨A2, c2, rfl, hin2, hB⟩
  have hB2 := hB0.trans (hB.mono hB0.size)
  have hk2 := hk0.below hB hk0.lt
  have hj2 := hj0.below hB hj0.lt
  clear hB hk0 hj0 hB0 E1 hin0 hin
  rw [HX.out]
  go_wp2_with (refine wp_loadW rfl 109 (.tmp 4) rfl (w.heap.size + 1) rfl rowHead hk2 (by rfl) ?_)
  refine (E2 _).mono ?_
  rintro x W3 ⟨A3, c3, rfl, hy, hB⟩
  have hB3 := hB2.trans (hB.mono hB2.size)
  have hj3 := hj2.below hB hj2.lt
  have hx := (hin2.below hB).more hB.size
  clear hB hk2 hj2 hB2 E2 hin2
  rw [HY.out]
  have hc0 : W3.cell? ⟨w.heap.size + 2, 0, none⟩ = some (.int .i64 (m0 : Int)) := by rw [hj3.cell]; rfl
  have hc1 : W3.cell? ⟨w.heap.size + 2, 1, none⟩ = some (.int .i64 (m1 : Int)) := by rw [hj3.cell]; rfl
  have hlt := hj3.lt
  have e0 : OwnB (W3.alloc (.cells #[] 5)) W3.heap.size (.slice (some ⟨W3.heap.size, 0, none⟩) 0 0) [] := World.ownsRow_lit W3 #[] 0 (Nat.le_refl _) (by unfold maxLen; omega) rfl
  have hbe : Below W3.heap.size W3 (W3.alloc (.cells #[] 5)) := (Below.refl _ _).alloc (Nat.le_refl _) _
  go_wp2_with (first
    | (go_at_call 60; refine (num5_gives _ _).mono ?_; rintro x w' ⟨rfl, rfl⟩)
    | (at_builtin; refine wp_appB rfl (.tmp 74) (.tmp 75) rfl W3.heap.size _ [] rfl e0 _ A2 c2 X (by rw [HX.out]; rfl) (hx.below hbe) (by rw [HX.out]; simp) (by simp) ?_; intro v5 W5 own5 hg5; have hb5 := e0.below hbe hg5; have e5 : OwnB (W5.alloc (.cells #[] 5)) W5.heap.size (.slice (some ⟨W5.heap.size, 0, none⟩) 0 0) [] := World.ownsRow_lit W5 #[] 0 (Nat.le_refl _) (by unfold maxLen; omega) rfl; have hbe5 : Below W5.heap.size W5 (W5.alloc (.cells #[] 5)) := (Below.refl _ _).alloc (Nat.le_refl _) _)
    | (revert e5; intro e5; at_builtin; refine wp_appB rfl (.tmp 77) (.tmp 78) rfl W5.heap.size _ [] rfl e5 _ A3 c3 Y (by rw [HY.out]; rfl) (((hy.below hb5).more hb5.size).below hbe5) (by rw [HY.out]; simp) (by simp) ?_; intro v6 W6 own6 hg6; have hb6 := e5.below hbe5 hg6))
  obtain ⟨g0, cap0, rfl, hgb0, hgl0, hgc0⟩ := own5.at_ (by rw [List.nil_append, HX.out]; omega)
  obtain ⟨g1, cap1, rfl, hgb1, hgl1, hgc1⟩ := own6.at_ (by rw [List.nil_append, HY.out]; omega)
  rw [List.nil_append] at own5 own6 hgc0 hgc1
  rw [List.nil_append, List.nil_append, HX.out, HY.out]
  rw [HX.out] at own5 hgc0
  rw [HY.out] at own6 hgc1
  have hs3 := hB3.size
  have hb36 := hb5.trans (hb6.mono hb5.size)
  have hB6 : Below w.heap.size w W6 := hB3.trans (hb36.mono hs3)
  have hj6 := (hj3.below hb36 hj3.lt).drew
  have own5' := (own5.later hb6).later (Below.refl _ W6).drew
  have own6' := own6.later (Below.refl _ W6).drew
  have hc0' : W6.drew.cell? ⟨w.heap.size + 2, 0, none⟩ = some (.int .i64 (m0 : Int)) := by rw [hj6.cell]; rfl
  have hcell := own5'.cell q0 hql0
  have hfree := own5'.free q0
  have hne : ¬ w.heap.size + 2 = g0 := by omega
  have hne1 : ¬ w.heap.size + 2 = g1 := by have := hb5.size; omega
  have hg01 : g0 < W5.heap.size := hgl0
  have hs56 : W5.heap.size ≤ W6.heap.size := hb6.size
  have hgl0' : g0 < W6.heap.size := Nat.lt_of_lt_of_le hgl0 hb6.size
  clear hB3 hb36 hb5 hb6 hg5 hg6 own5 own6 e0 e5 hbe hbe5 hx hy hc0 hc1 hj3
  obtain ⟨BB, hBB⟩ : ∃ BB : Nat, BB = X[q0].toNat := ⟨_, rfl⟩
  rw [← hBB] at hcell hy0
  clear hBB
  have hlb : ∀ w', Grow W6 w' → w'.cell? ⟨w.heap.size + 2, 0, none⟩ = some (.int .i64 (m0 : Int)) := fun w' hg => by rw [(hj6.below (w := W6) hg hj6.lt).cell]; rfl
  have hlc : ∀ w', Grow W6 w' → w'.cell? ⟨g0, 0 + q0, none⟩ = some (.int .u8 (BB : Int)) := fun w' hg => by rw [Nat.zero_add]; exact (hg.cell (p := ⟨g0, q0, none⟩) hgl0').trans hcell
  open Reg in
  refine region_tail_facts (by kernel_rfl) (by kernel_rfl) 135 rfl (by kernel_rfl) 16 (by decide) (by kernel_rfl) (by kernel_rfl) [80, 81, 82, 83, 84, 85, 86, 87, 88, 89, 90, 91, 92, 93, 94, 95] (by kernel_rfl)
    [(7, .val (.slice (some ⟨g0, 0, none⟩) 576 cap0)), (5, .val (.pointer (some ⟨w.heap.size + 2, 0, none⟩)))]
    [(80, .val (.slice (some ⟨g0, 0, none⟩) 576 cap0)), (81, .val (.pointer (some ⟨w.heap.size + 2, 0, none⟩))), (82, .val (.int .i64 (m0 : Int))), (83, .val (.int .i64 (q0 : Int))), (84, .val (.slice (some ⟨g0, 0, none⟩) 576 cap0)), (85, .val (.pointer (some ⟨w.heap.size + 2, 0, none⟩))), (86, .val (.int .i64 (m0 : Int))), (87, .val (.int .i64 (q0 : Int))), (88, .val (.pointer (some ⟨g0, 0 + q0, none⟩))), (89, .val (.int .u8 (BB : Int))), (90, .val (.pointer (some ⟨w.heap.size + 2, 0, none⟩))), (91, .val (.int .i64 (m0 : Int))), (92, .val (.int .i64 (r0 : Int))), (93, .val (.int .u64 (r0 : Int))), (94, .val (.int .u8 (2 ^ r0 % 256))), (95, .val (.int .u8 (y0 : Int)))]
    ⟨rfl, rfl, trivial⟩ (by kernel_rfl) (by kernel_rfl)
    (allOk_cons (ok_none rfl (l_mvF 7 (.val (.slice (some ⟨g0, 0, none⟩) 576 cap0)) (.inl rfl) (by kernel_rfl) (by kernel_rfl) (by kernel_rfl)))
    <| allOk_cons (ok_none rfl (l_idxP (.tmp 5) _ (w.heap.size + 2) 0 (by decide) rfl (hs 5 _ (by kernel_rfl) (by kernel_rfl)) (hc _) (by kernel_rfl)))
    <| allOk_cons (ok_none rfl (l_load (.tmp 81) (⟨w.heap.size + 2, 0, none⟩) _ (.int .i64 (m0 : Int)) (by intro w; simp [go_sem, Try.underlying3]) rfl (hs 81 (.pointer (some ⟨w.heap.size + 2, 0, none⟩)) (by kernel_rfl) (by kernel_rfl)) (fun w hg => hlb w hg) (by kernel_rfl)))
    <| allOk_cons (ok_none rfl (l_quo8 (.tmp 82) _ m0 q0 rfl (hs 82 _ (by kernel_rfl) (by kernel_rfl)) (hc _) hd0 hwq0 (by kernel_rfl)))
    <| allOk_cons (ok_none rfl (l_mvF 7 (.val (.slice (some ⟨g0, 0, none⟩) 576 cap0)) (.inl rfl) (by kernel_rfl) (by kernel_rfl) (by kernel_rfl)))
    <| allOk_cons (ok_none rfl (l_idxP (.tmp 5) _ (w.heap.size + 2) 0 (by decide) rfl (hs 5 _ (by kernel_rfl) (by kernel_rfl)) (hc _) (by kernel_rfl)))
    <| allOk_cons (ok_none rfl (l_load (.tmp 85) (⟨w.heap.size + 2, 0, none⟩) _ (.int .i64 (m0 : Int)) (by intro w; simp [go_sem, Try.underlying3]) rfl (hs 85 (.pointer (some ⟨w.heap.size + 2, 0, none⟩)) (by kernel_rfl) (by kernel_rfl)) (fun w hg => hlb w hg) (by kernel_rfl)))
    <| allOk_cons (ok_none rfl (l_quo8 (.tmp 86) _ m0 q0 rfl (hs 86 _ (by kernel_rfl) (by kernel_rfl)) (hc _) hd0 hwq0 (by kernel_rfl)))
    <| allOk_cons (ok_none rfl (l_idxS (.tmp 84) (.tmp 87) g0 0 576 cap0 q0 hqn0 rfl (hs 84 _ (by kernel_rfl) (by kernel_rfl)) (hs 87 _ (by kernel_rfl) (by kernel_rfl)) (by kernel_rfl)))
    <| allOk_cons (ok_none rfl (l_load (.tmp 88) (⟨g0, 0 + q0, none⟩) _ (.int .u8 (BB : Int)) (by intro w; simp [go_sem, Try.underlying5]) rfl (hs 88 (.pointer (some ⟨g0, 0 + q0, none⟩)) (by kernel_rfl) (by kernel_rfl)) (fun w hg => hlc w hg) (by kernel_rfl)))
    <| allOk_cons (ok_none rfl (l_idxP (.tmp 5) _ (w.heap.size + 2) 0 (by decide) rfl (hs 5 _ (by kernel_rfl) (by kernel_rfl)) (hc _) (by kernel_rfl)))
    <| allOk_cons (ok_none rfl (l_load (.tmp 90) (⟨w.heap.size + 2, 0, none⟩) _ (.int .i64 (m0 : Int)) (by intro w; simp [go_sem, Try.underlying3]) rfl (hs 90 (.pointer (some ⟨w.heap.size + 2, 0, none⟩)) (by kernel_rfl) (by kernel_rfl)) (fun w hg => hlb w hg) (by kernel_rfl)))
    <| allOk_cons (ok_none rfl (l_rem8 (.tmp 91) _ m0 r0 rfl (hs 91 _ (by kernel_rfl) (by kernel_rfl)) (hc _) he0 hwr0 (by kernel_rfl)))
    <| allOk_cons (ok_none rfl (l_toU (.tmp 92) r0 hrr0 rfl (hs 92 _ (by kernel_rfl) (by kernel_rfl)) (by kernel_rfl)))
    <| allOk_cons (ok_none rfl (l_shl1 (.tmp 93) _ r0 hrr0 rfl (hs 93 _ (by kernel_rfl) (by kernel_rfl)) (hc _) (by kernel_rfl)))
    <| allOk_cons (ok_none rfl (l_xorB (.tmp 89) (.tmp 94) BB r0 y0 hy0 rfl (hs 89 _ (by kernel_rfl) (by kernel_rfl)) (hs 94 _ (by kernel_rfl) (by kernel_rfl)) (by kernel_rfl)))
    <| allOk_nil) ?_
  intro a W7 hsz hdef hGW7 hF hU
  have e80 : a.eval (.tmp 80) = .slice (some ⟨g0, 0, none⟩) 576 cap0 := hF 80
  have e83 : a.eval (.tmp 83) = .int .i64 (q0 : Int) := hF 83
  have e95 : a.eval (.tmp 95) = .int .u8 (y0 : Int) := hF 95
  have ha := Reg.acts_eq [80, 81, 82, 83, 84, 85, 86, 87, 88, 89, 90, 91, 92, 93, 94, 95] hsz hdef hU
  clear hF hU hdef
  simp only [List.foldl_cons, List.foldl_nil, e80, e83, e95] at ha
  clear e80 e83 e95 hsz
  generalize a.eval (.tmp 81) = v81 at *
  generalize a.eval (.tmp 82) = v82 at *
  generalize a.eval (.tmp 84) = v84 at *
  generalize a.eval (.tmp 85) = v85 at *
  generalize a.eval (.tmp 86) = v86 at *
  generalize a.eval (.tmp 87) = v87 at *
  generalize a.eval (.tmp 88) = v88 at *
  generalize a.eval (.tmp 89) = v89 at *
  generalize a.eval (.tmp 90) = v90 at *
  generalize a.eval (.tmp 91) = v91 at *
  generalize a.eval (.tmp 92) = v92 at *
  generalize a.eval (.tmp 93) = v93 at *
  generalize a.eval (.tmp 94) = v94 at *
  simp only [Act.put, List.setIfInBounds_toArray, List.set_cons_succ, List.set_cons_zero] at ha
  subst ha
  simp only [Reg.Rest, List.drop_succ_cons, List.drop_zero]
  have hj7 : BlkIs W7 (w.heap.size + 2) 132 #[.int .i64 (m0 : Int), .int .i64 (m1 : Int)] := hj6.below (w := W6) hGW7 hj6.lt
  have hB7 : Below w.heap.size w W7 := hB6.trans (hGW7.mono hB6.size)
  have own57 : OwnB W7 W3.heap.size (.slice (some ⟨g0, 0, none⟩) 576 cap0) X := OwnB.later (w := W6) own5' hGW7
  have own67 : OwnB W7 W5.heap.size (.slice (some ⟨g1, 0, none⟩) 64 cap1) Y := OwnB.later (w := W6) own6' hGW7
  have hcell7 := own57.cell q0 hql0
  have hfree7 := own57.free q0
  have hgB0 : w.heap.size ≤ g0 := by omega
  have hgB1 : W5.heap.size ≤ g1 := hgb1
  have s57 : W5.heap.size ≤ W7.heap.size := Nat.le_trans hs56 hGW7.size
  clear hcell hfree hlb hlc hj6 hB6 own5' own6' hGW7 hc0' hy0
  go_wp2_with fail
  have own8 := own57.set q0 y0 hyl0
  have own68 := own67.apart (setCell_grownBy W7 ⟨g0, q0, none⟩ (.int .u8 (y0 : Int))) hg01
  have hj8 := hj7.other (p := ⟨g0, q0, none⟩) hne (.int .u8 (y0 : Int))
  have hB8 := hB7.setCell (p := ⟨g0, q0, none⟩) hgB0 (.int .u8 (y0 : Int))
  have s58 : W5.heap.size ≤ (W7.setCell ⟨g0, q0, none⟩ (.int .u8 (y0 : Int))).heap.size := by simpa using s57
  clear own57 own67 hj7 hB7 hcell7 hfree7 s57
  generalize W7.setCell ⟨g0, q0, none⟩ (.int .u8 (y0 : Int)) = W8 at *
  have hXs : (X.set q0 (UInt8.ofNat y0)).length = 576 := by rw [List.length_set, HX.out]
  generalize X.set q0 (UInt8.ofNat y0) = X' at *
  have HXs := Lib.hid hXs
  clear hXs
  have hlt8 := hj8.lt
  obtain ⟨BB, hBB⟩ : ∃ BB : Nat, BB = Y[q1].toNat := ⟨_, rfl⟩
  have hcell8 := own68.cell q1 hql1
  rw [← hBB] at hcell8 hy1
  clear hBB
  have hgl1' : g1 < W8.heap.size := by
    obtain ⟨g, c, e1, _, h, _⟩ := own68.at_ (by rw [HY.out]; omega)
    injection e1 with e1
    injection e1 with e1
    injection e1 with e1
    omega
  have hlb : ∀ w', Grow W8 w' → w'.cell? ⟨w.heap.size + 2, 1, none⟩ = some (.int .i64 (m1 : Int)) := fun w' hg => by rw [(hj8.below hg hlt8).cell]; rfl
  have hlc : ∀ w', Grow W8 w' → w'.cell? ⟨g1, 0 + q1, none⟩ = some (.int .u8 (BB : Int)) := fun w' hg => by rw [Nat.zero_add]; exact (hg.cell (p := ⟨g1, q1, none⟩) hgl1').trans hcell8
  open Reg in
  refine region_tail_facts (by kernel_rfl) (by kernel_rfl) 135 rfl (by kernel_rfl) 16 (by decide) (by kernel_rfl) (by kernel_rfl) [97, 98, 99, 100, 101, 102, 103, 104, 105, 106, 107, 108, 109, 110, 111, 112] (by kernel_rfl)
    [(9, .val (.slice (some ⟨g1, 0, none⟩) 64 cap1)), (5, .val (.pointer (some ⟨w.heap.size + 2, 0, none⟩)))]
    [(97, .val (.slice (some ⟨g1, 0, none⟩) 64 cap1)), (98, .val (.pointer (some ⟨w.heap.size + 2, 1, none⟩))), (99, .val (.int .i64 (m1 : Int))), (100, .val (.int .i64 (q1 : Int))), (101, .val (.slice (some ⟨g1, 0, none⟩) 64 cap1)), (102, .val (.pointer (some ⟨w.heap.size + 2, 1, none⟩))), (103, .val (.int .i64 (m1 : Int))), (104, .val (.int .i64 (q1 : Int))), (105, .val (.pointer (some ⟨g1, 0 + q1, none⟩))), (106, .val (.int .u8 (BB : Int))), (107, .val (.pointer (some ⟨w.heap.size + 2, 1, none⟩))), (108, .val (.int .i64 (m1 : Int))), (109, .val (.int .i64 (r1 : Int))), (110, .val (.int .u64 (r1 : Int))), (111, .val (.int .u8 (2 ^ r1 % 256))), (112, .val (.int .u8 (y1 : Int)))]
    ⟨rfl, rfl, trivial⟩ (by kernel_rfl) (by kernel_rfl)
    (allOk_cons (ok_none rfl (l_mvF 9 (.val (.slice (some ⟨g1, 0, none⟩) 64 cap1)) (.inl rfl) (by kernel_rfl) (by kernel_rfl) (by kernel_rfl)))
    <| allOk_cons (ok_none rfl (l_idxP (.tmp 5) _ (w.heap.size + 2) 1 (by decide) rfl (hs 5 _ (by kernel_rfl) (by kernel_rfl)) (hc _) (by kernel_rfl)))
    <| allOk_cons (ok_none rfl (l_load (.tmp 98) (⟨w.heap.size + 2, 1, none⟩) _ (.int .i64 (m1 : Int)) (by intro w; simp [go_sem, Try.underlying3]) rfl (hs 98 (.pointer (some ⟨w.heap.size + 2, 1, none⟩)) (by kernel_rfl) (by kernel_rfl)) (fun w hg => hlb w hg) (by kernel_rfl)))
    <| allOk_cons (ok_none rfl (l_quo8 (.tmp 99) _ m1 q1 rfl (hs 99 _ (by kernel_rfl) (by kernel_rfl)) (hc _) hd1 hwq1 (by kernel_rfl)))
    <| allOk_cons (ok_none rfl (l_mvF 9 (.val (.slice (some ⟨g1, 0, none⟩) 64 cap1)) (.inl rfl) (by kernel_rfl) (by kernel_rfl) (by kernel_rfl)))
    <| allOk_cons (ok_none rfl (l_idxP (.tmp 5) _ (w.heap.size + 2) 1 (by decide) rfl (hs 5 _ (by kernel_rfl) (by kernel_rfl)) (hc _) (by kernel_rfl)))
    <| allOk_cons (ok_none rfl (l_load (.tmp 102) (⟨w.heap.size + 2, 1, none⟩) _ (.int .i64 (m1 : Int)) (by intro w; simp [go_sem, Try.underlying3]) rfl (hs 102 (.pointer (some ⟨w.heap.size + 2, 1, none⟩)) (by kernel_rfl) (by kernel_rfl)) (fun w hg => hlb w hg) (by kernel_rfl)))
    <| allOk_cons (ok_none rfl (l_quo8 (.tmp 103) _ m1 q1 rfl (hs 103 _ (by kernel_rfl) (by kernel_rfl)) (hc _) hd1 hwq1 (by kernel_rfl)))
    <| allOk_cons (ok_none rfl (l_idxS (.tmp 101) (.tmp 104) g1 0 64 cap1 q1 hqn1 rfl (hs 101 _ (by kernel_rfl) (by kernel_rfl)) (hs 104 _ (by kernel_rfl) (by kernel_rfl)) (by kernel_rfl)))
    <| allOk_cons (ok_none rfl (l_load (.tmp 105) (⟨g1, 0 + q1, none⟩) _ (.int .u8 (BB : Int)) (by intro w; simp [go_sem, Try.underlying5]) rfl (hs 105 (.pointer (some ⟨g1, 0 + q1, none⟩)) (by kernel_rfl) (by kernel_rfl)) (fun w hg => hlc w hg) (by kernel_rfl)))
    <| allOk_cons (ok_none rfl (l_idxP (.tmp 5) _ (w.heap.size + 2) 1 (by decide) rfl (hs 5 _ (by kernel_rfl) (by kernel_rfl)) (hc _) (by kernel_rfl)))
    <| allOk_cons (ok_none rfl (l_load (.tmp 107) (⟨w.heap.size + 2, 1, none⟩) _ (.int .i64 (m1 : Int)) (by intro w; simp [go_sem, Try.underlying3]) rfl (hs 107 (.pointer (some ⟨w.heap.size + 2, 1, none⟩)) (by kernel_rfl) (by kernel_rfl)) (fun w hg => hlb w hg) (by kernel_rfl)))
    <| allOk_cons (ok_none rfl (l_rem8 (.tmp 108) _ m1 r1 rfl (hs 108 _ (by kernel_rfl) (by kernel_rfl)) (hc _) he1 hwr1 (by kernel_rfl)))
    <| allOk_cons (ok_none rfl (l_toU (.tmp 109) r1 hrr1 rfl (hs 109 _ (by kernel_rfl) (by kernel_rfl)) (by kernel_rfl)))
    <| allOk_cons (ok_none rfl (l_shl1 (.tmp 110) _ r1 hrr1 rfl (hs 110 _ (by kernel_rfl) (by kernel_rfl)) (hc _) (by kernel_rfl)))
    <| allOk_cons (ok_none rfl (l_xorB (.tmp 106) (.tmp 111) BB r1 y1 hy1 rfl (hs 106 _ (by kernel_rfl) (by kernel_rfl)) (hs 111 _ (by kernel_rfl) (by kernel_rfl)) (by kernel_rfl)))
    <| allOk_nil) ?_
  intro a W9 hsz hdef hGW9 hF hU
  have e97 : a.eval (.tmp 97) = .slice (some ⟨g1, 0, none⟩) 64 cap1 := hF 97
  have e100 : a.eval (.tmp 100) = .int .i64 (q1 : Int) := hF 100
  have e112 : a.eval (.tmp 112) = .int .u8 (y1 : Int) := hF 112
  have ha := Reg.acts_eq [97, 98, 99, 100, 101, 102, 103, 104, 105, 106, 107, 108, 109, 110, 111, 112] hsz hdef hU
  clear hF hU hdef
  simp only [List.foldl_cons, List.foldl_nil, e97, e100, e112] at ha
  clear e97 e100 e112 hsz
  generalize a.eval (.tmp 98) = v98 at *
  generalize a.eval (.tmp 99) = v99 at *
  generalize a.eval (.tmp 101) = v101 at *
  generalize a.eval (.tmp 102) = v102 at *
  generalize a.eval (.tmp 103) = v103 at *
  generalize a.eval (.tmp 104) = v104 at *
  generalize a.eval (.tmp 105) = v105 at *
  generalize a.eval (.tmp 106) = v106 at *
  generalize a.eval (.tmp 107) = v107 at *
  generalize a.eval (.tmp 108) = v108 at *
  generalize a.eval (.tmp 109) = v109 at *
  generalize a.eval (.tmp 110) = v110 at *
  generalize a.eval (.tmp 111) = v111 at *
  simp only [Act.put, List.setIfInBounds_toArray, List.set_cons_succ, List.set_cons_zero] at ha
  subst ha
  simp only [Reg.Rest, List.drop_succ_cons, List.drop_zero]
  have hB9 : Below w.heap.size w W9 := hB8.trans (hGW9.mono hB8.size)
  have own9 : OwnB W9 W3.heap.size (.slice (some ⟨g0, 0, none⟩) 576 cap0) X' := own8.later hGW9
  have own69 : OwnB W9 W5.heap.size (.slice (some ⟨g1, 0, none⟩) 64 cap1) Y := own68.later hGW9
  have hcell9 := own69.cell q1 hql1
  have hfree9 := own69.free q1
  have s39 : w.heap.size ≤ g1 := by omega
  clear hcell8 hlb hlc hj8 hB8 own8 own68 hGW9 hy1
  go_wp2_with fail
  have own10 := own69.set q1 y1 hyl1
  have own11 := own9.laterB (B := W5.heap.size) (w' := W9.setCell ⟨g1, q1, none⟩ (.int .u8 (y1 : Int))) ((Below.refl _ W9).setCell (p := ⟨g1, q1, none⟩) hgB1 _) (fun r hr => by injection hr with hr; subst hr; exact hg01)
  have hB10 := hB9.setCell (p := ⟨g1, q1, none⟩) s39 (.int .u8 (y1 : Int))
  clear own69 own9 hB9 hcell9 hfree9
  generalize W9.setCell ⟨g1, q1, none⟩ (.int .u8 (y1 : Int)) = W10 at *
  have hYs : (Y.set q1 (UInt8.ofNat y1)).length = 64 := by rw [List.length_set, HY.out]
  generalize Y.set q1 (UInt8.ofNat y1) = Y' at *
  have HYs := Lib.hid hYs
  clear hYs
  have inX : InB W10 W10.heap.size (some ⟨g0, 0, none⟩) cap0 X' := own11.inB'
  have inY : InB W10 W10.heap.size (some ⟨g1, 0, none⟩) cap1 Y' := own10.inB'
  have D1 := decode_gives W10 _ _ _ inX
  rw [HXs.out] at D1
  go_wp2_with fail
  refine D1.mono ?_
  rintro x W11 ⟨hB, hx⟩
  rw [HNX.out] at hx
  have hx : x = .returned (.tuple #[.agg zeroFr, .int .i64 150]) := hx
  subst hx
  have hB11 := hB10.trans (hB.mono hB10.size)
  have D2 := fun W hW => decodeHead_gives W _ _ _ (((inY.below hB).more hB.size).below (w' := W) hW |>.more hW.size)
  rw [HYs.out, decHV_no HNY.out] at D2
  have hz1 := zeroFr_one
  unfold zeroFr at *
  go_wp2_with (first
    | (refine wp_storeW rfl 120 (.tmp 11) (.tmp 117) rfl W11.heap.size rfl rfl rowFrame (BlkIs.new W11 120 _) (by rfl) (by rfl) hz1 ?_))
  have hBs := below_setRow ((Below.refl _ W11).alloc (Nat.le_refl W11.heap.size) (.cells #[.int .u64 0, .int .i64 0, .int .i64 0, .bool false, .int .i64 0, .int .u32 0, .slice none 0 0] 120)) (g := W11.heap.size) (Nat.le_refl _) #[.int .u64 0, .int .i64 0, .int .i64 0, .bool false, .int .i64 0, .int .u32 0, .slice none 0 0]
  refine (D2 _ hBs).mono ?_
  rintro x W12 ⟨rfl, hB⟩
  have hB12 : Below w.heap.size w W12 := hB11.trans ((hBs.mono hB11.size).trans (hB.mono (Nat.le_trans hB11.size hBs.size)))
  clear hBs D2 D1 hB11 hB10
  have hzh := zeroHead_one
  go_wp2_with (first
    | (refine wp_storeW rfl 109 (.tmp 13) (.tmp 122) rfl W12.heap.size rfl rfl rowHead (BlkIs.new W12 109 _) (by rfl) (by rfl) hzh ?_; have hB13 := below_setRow (hB12.alloc hB12.size (.cells #[.int .u64 0, .int .u64 0, .int .i64 0, .int .i64 0] 109)) (g := W12.heap.size) hB12.size #[.int .u64 0, .int .u64 0, .int .i64 0, .int .i64 0])
    | (go_at_call 60; refine (num5_gives _ _).mono ?_; rintro x w' ⟨rfl, rfl⟩)
    | (go_at_call 62; refine (works5_gives _).mono ?_; rintro x W14 ⟨rfl, hB⟩))
  go_ret
  exact ⟨rfl, hB13.trans (hB.mono hB13.size)⟩
end
end Go.Proofs.Ytlelckdcmlpmdaa
namespace Go.Proofs.Ytlelckdcmlpmdaa
open Go Go.RowKit Lou

theorem lawFHolds_walk (e : Nat) (i p : Int) (f : Bool) (z : Int) (n : Nat) (A : Option Addr) (k : Nat) (y : List UInt8) (s e' : Nat) (z' c' : Int) (x0 x1 : Int) (w : World) (hin : InB w w.heap.size A k y) :
    Calls Try.prog 16 #[.agg (frCells e i p f z n A y.length k), .agg #[.int .u64 (s : Int), .int .u64 (e' : Int), .int .i64 z', .int .i64 c'], .agg #[.int .i64 x0, .int .i64 x1]] w fun e w' => e = .returned (.bool true) ∧ Below w.heap.size w w' := by
  cases h1 : frOk y.length i p f z with
  | false => exact lawFHolds_bad e i p f z n A k y s e' z' c' x0 x1 w hin (.inl h1)
  | true =>
    cases h2 : headOk z' c' with
    | false => exact lawFHolds_bad e i p f z n A k y s e' z' c' x0 x1 w hin (.inr h2)
    | true =>
      have hy : y.length = 512 := ((frOk_iff _ _ _ _ _).1 h1).1
      obtain ⟨⟨hz0, hz1⟩, hc0, hc1⟩ := (headOk_iff z' c').1 h2
      obtain ⟨z', rfl⟩ : ∃ n : Nat, z' = n := ⟨z'.toNat, by omega⟩
      obtain ⟨c', rfl⟩ : ∃ n : Nat, c' = n := ⟨c'.toNat, by omega⟩
      have hX := frameB_length (e := e) (i := i.toNat) (p := p.toNat) (f := f) (z := z.toNat) (n := n) hy
      have hY := headW_length s e' z' c'
      have E1 : ∀ W, InB W W.heap.size A k y → Calls Try.prog 74 #[.agg (frCells e i p f z n A y.length k)] W (GivesBE W (frameB (partB e i.toNat p.toNat f z.toNat n) y) 0) := fun W h => by
        have H := encode_gives e i p f z n A k y W h
        rw [show fEnc e i p f z n y = frameB (partB e i.toNat p.toNat f z.toNat n) y by simp [fEnc, h1], show fErr i p f z y = 0 by simp [fErr, h1]] at H
        exact H
      have E2 : ∀ W, Calls Try.prog 70 #[.agg #[.int .u64 (s : Int), .int .u64 (e' : Int), .int .i64 (z' : Int), .int .i64 (c' : Int)]] W (GivesBE W (headW s e' z' c') 0) := fun W => by
        have H := encodeHead_gives s e' z' c' W
        rw [(hEnc_ok (by omega) (by omega)).1, (hEnc_ok (s := s) (e := e') (z := z') (c := c') (by omega) (by omega)).2] at H
        exact H
      by_cases hb : x0 < 0 ∨ (¬ x0 < 0 ∧ 4608 ≤ x0) ∨ (¬ x0 < 0 ∧ ¬ 4608 ≤ x0 ∧ x1 < 0) ∨ (¬ x0 < 0 ∧ ¬ 4608 ≤ x0 ∧ ¬ x1 < 0 ∧ 512 ≤ x1)
      · exact lawFHolds_bits e i p f z n A k y s e' z' c' w _ _ x0 x1 hin hX hY E1 E2 hb
      · obtain ⟨m0, rfl⟩ : ∃ n : Nat, x0 = n := ⟨x0.toNat, by omega⟩
        obtain ⟨m1, rfl⟩ : ∃ n : Nat, x1 = n := ⟨x1.toNat, by omega⟩
        exact lawFHolds_core e i p f z n A k y s e' z' c' w _ _ m0 m1 hin hX hY E1 E2 (by omega) (by omega)
          (fun q hq d hd => isFrame_set hy q (by rw [hX] at hq; exact hq) d hd) (fun q hq d hd => isHead_set q (by rw [hY] at hq; exact hq) d hd)
end Go.Proofs.Ytlelckdcmlpmdaa
/- Frames' bytes are read as what they were made of. -/
namespace Go.Proofs.Ytlelckdcmlpmdaa
open Go Go.RowKit Lou

theorem partB_read {e i p z n : Nat} {f : Bool} (he : e < 2 ^ 64) (hi : i < 2 ^ 32) (hp : p < 2 ^ 32) (hz : z < 2 ^ 32) (hn : n < 2 ^ 32) (r : List UInt8) :
    fdE (partB e i p f z n ++ r) = e ∧ fdI (partB e i p f z n ++ r) = i ∧ fdP (partB e i p f z n ++ r) = p ∧ fdF (partB e i p f z n ++ r) = f ∧ fdZ (partB e i p f z n ++ r) = z ∧ fdL (partB e i p f z n ++ r) = n := by
  have l8 : ∀ n, (fixL 8 n).length = 8 := fixL_length 8
  have l4 : ∀ n, (fixL 4 n).length = 4 := fixL_length 4
  have e8 : (256 : Nat) ^ 8 = 2 ^ 64 := by decide
  have e4 : (256 : Nat) ^ 4 = 2 ^ 32 := by decide
  have t8 : ∀ n (r : List UInt8), (fixL 8 n ++ r).take 8 = fixL 8 n := fun n r => by rw [List.take_append_of_le_length (by rw [l8]; omega)]; rw [List.take_of_length_le (by rw [l8]; omega)]
  have t4 : ∀ n (r : List UInt8), (fixL 4 n ++ r).take 4 = fixL 4 n := fun n r => by rw [List.take_append_of_le_length (by rw [l4]; omega)]; rw [List.take_of_length_le (by rw [l4]; omega)]
  have d8 : ∀ n (r : List UInt8), (fixL 8 n ++ r).drop 8 = r := fun n r => by have := List.drop_left (l₁ := fixL 8 n) (l₂ := r); rw [l8] at this; exact this
  have d4 : ∀ n (r : List UInt8), (fixL 4 n ++ r).drop 4 = r := fun n r => by have := List.drop_left (l₁ := fixL 4 n) (l₂ := r); rw [l4] at this; exact this
  have d1 : ∀ (x : UInt8) (r : List UInt8), (x :: r).drop 1 = r := fun _ _ => rfl
  have h12 : ∀ (l : List UInt8), l.drop 12 = (l.drop 8).drop 4 := fun l => by rw [List.drop_drop]
  have h16 : ∀ (l : List UInt8), l.drop 16 = ((l.drop 8).drop 4).drop 4 := fun l => by rw [List.drop_drop, List.drop_drop]
  have h17 : ∀ (l : List UInt8), l.drop 17 = (((l.drop 8).drop 4).drop 4).drop 1 := fun l => by rw [List.drop_drop, List.drop_drop, List.drop_drop]
  have h21 : ∀ (l : List UInt8), l.drop 21 = ((((l.drop 8).drop 4).drop 4).drop 1).drop 4 := fun l => by rw [List.drop_drop, List.drop_drop, List.drop_drop, List.drop_drop]
  have g16 : ∀ (l : List UInt8), l.getD 16 0 = (l.drop 16).getD 0 0 := fun l => by simp [List.getD]
  unfold fdE fdI fdP fdF fdZ fdL
  rw [partB_eq]
  simp only [List.append_assoc, List.cons_append]
  rw [g16, h12, h16, h17, h21]
  simp only [t8, d8, t4, d4, d1]
  refine ⟨rfix_fixL_lt (by omega), rfix_fixL_lt (by omega), rfix_fixL_lt (by omega), ?_, rfix_fixL_lt (by omega), rfix_fixL_lt (by omega)⟩
  cases f <;> rfl
theorem sectB_take (p y r : List UInt8) (hp : p.length = 25) : (sectB p y ++ r).take 64 = sectB p y := by
  have h : (sectB p y).length = 64 := by rw [sectB_length, hp]
  rw [List.take_append_of_le_length (by omega), List.take_of_length_le (by omega)]
theorem sectB_drop (p y r : List UInt8) (hp : p.length = 25) : (sectB p y ++ r).drop 64 = r := by
  have h : (sectB p y).length = 64 := by rw [sectB_length, hp]
  have := List.drop_left (l₁ := sectB p y) (l₂ := r)
  rw [h] at this
  exact this
theorem frameB_read {e i p z n : Nat} {f : Bool} {y : List UInt8} (he : e < 2 ^ 64) (hn : n < 2 ^ 32) (h : frOk y.length i p f z = true) :
    isFrame (frameB (partB e i p f z n) y) = true ∧ fdE (frameB (partB e i p f z n) y) = e ∧ fdI (frameB (partB e i p f z n) y) = i ∧ fdP (frameB (partB e i p f z n) y) = p ∧ fdF (frameB (partB e i p f z n) y) = f ∧ fdZ (frameB (partB e i p f z n) y) = z ∧ fdL (frameB (partB e i p f z n) y) = n ∧ (frameB (partB e i p f z n) y).drop 64 = y := by
  obtain ⟨hy, ⟨_, hi⟩, ⟨_, hp⟩, ⟨_, hz⟩, _⟩ := (frOk_iff _ _ _ _ _).1 h
  have hs : ∃ r, frameB (partB e i p f z n) y = partB e i p f z n ++ r := ⟨_, by unfold frameB sectB; simp only [List.append_assoc]; rfl⟩
  obtain ⟨r, hr⟩ := hs
  obtain ⟨h1, h2, h3, h4, h5, h6⟩ := partB_read (e := e) (i := i) (p := p) (z := z) (n := n) (f := f) he (by omega) (by omega) (by omega) hn r
  rw [← hr] at h1 h2 h3 h4 h5 h6
  have hd : (frameB (partB e i p f z n) y).drop 64 = y := sectB_drop _ _ _ (partB_length _ _ _ _ _ _)
  have ht : (frameB (partB e i p f z n) y).take 64 = sectB (partB e i p f z n) y := sectB_take _ _ _ (partB_length _ _ _ _ _ _)
  refine ⟨?_, h1, h2, h3, h4, h5, h6, hd⟩
  unfold isFrame
  rw [h1, h2, h3, h4, h5, h6, hd, ht, frameB_length hy]
  rw [hy] at h
  rw [h]
  simp
/-- What lies in a frame's bytes where its sum does. -/
theorem sectB_sum (p y r : List UInt8) (hp : p.length = 25) : rfix (((sectB p y ++ r).drop 25).take 4) = sumL (p ++ y) := by
  have e : (sectB p y ++ r).drop 25 = fixL 4 (sumL (p ++ y)) ++ (List.replicate 35 0 ++ r) := by
    rw [← hp]
    simp only [sectB, List.append_assoc, List.drop_left]
  rw [e, List.take_append_of_le_length (by rw [fixL_length]; omega), List.take_of_length_le (by rw [fixL_length]; omega)]
  have := sumL_lt (p ++ y)
  exact rfix_fixL_lt (by have e4 : (256 : Nat) ^ 4 = 4294967296 := by decide
                         omega)
def fSum (e : Nat) (i p : Int) (f : Bool) (z : Int) (n : Nat) (y : List UInt8) : Nat := if frOk y.length i p f z then sumL (partB e i.toNat p.toNat f z.toNat n ++ y) else 0
/-- .. told as the reference tells it. -/
theorem isFrame_ref (l : List UInt8) (hl : l.length = 576) : isFrame l = (frOk (l.drop 64).length (fdI l) (fdP l) (fdF l) (fdZ l) && (frameB (partB (fdE l) (fdI l) (fdP l) (fdF l) (fdZ l) (fdL l)) (l.drop 64) == l)) := by
  have h5 : (l.drop 64).length = 512 := by rw [List.length_drop, hl]
  unfold isFrame
  rw [h5, hl]
  simp only [decide_true, Bool.true_and]
  congr 1
  have ht : l = l.take 64 ++ l.drop 64 := (List.take_append_drop 64 l).symm
  have hp := partB_length (fdE l) (fdI l) (fdP l) (fdF l) (fdZ l) (fdL l)
  generalize partB (fdE l) (fdI l) (fdP l) (fdF l) (fdZ l) (fdL l) = P at *
  rw [Bool.eq_iff_iff, beq_iff_eq, beq_iff_eq]
  constructor
  · intro h
    unfold frameB
    rw [h]
    exact ht.symm
  · intro h
    have := sectB_take P (l.drop 64) (l.drop 64) hp
    unfold frameB at h
    rw [h] at this
    exact this.symm
end Go.Proofs.Ytlelckdcmlpmdaa
/- louperef05.Encode. -/
namespace Go.Proofs.Ytlelckdcmlpmdaa
open Go Go.RowKit Lou

set_option maxRecDepth 100000 in
set_option maxHeartbeats 8000000 in
theorem refEncode_bad (e : Nat) (i p : Int) (f : Bool) (z : Int) (n : Nat) (A : Option Addr) (k : Nat) (y : List UInt8) (w : World) (hk : frOk y.length i p f z = false) :
    Calls Try.prog 75 #[.agg (frCells e i p f z n A y.length k)] w (GivesBE w [] 2) := by
  have hBw : Below w.heap.size w (w.alloc (.cells (frCells e i p f z n A y.length k) 120)) := (Below.refl _ w).alloc (Nat.le_refl _) _
  have h3 : ¬ (y.length = 512 ∧ (0 ≤ i ∧ i ≤ 2000) ∧ (0 ≤ p ∧ p ≤ 2000) ∧ (0 ≤ z ∧ z ≤ 2000) ∧ (f = true ∨ z = 0)) := by rw [← frOk_iff, hk]; simp
  clear hk
  generalize y.length = len at *
  unfold frCells at *
  by_cases hl : len = 512
  · have hq : ((len : Int) == 512) = true := by simp; omega
    have hq2 : ((len : Int) != 512) = false := by simp; omega
    have h4 : i < 0 ∨ (¬ i < 0 ∧ (2000 < i ∨ (¬ 2000 < i ∧ (p < 0 ∨ (¬ p < 0 ∧ (2000 < p ∨ (¬ 2000 < p ∧ (z < 0 ∨ (¬ z < 0 ∧ (2000 < z ∨ (¬ 2000 < z ∧ (f = false ∧ (z == 0) = false ∧ (z != 0) = true)))))))))))) := by
      by_cases a1 : i < 0
      · exact .inl a1
      refine .inr ⟨a1, ?_⟩
      by_cases a2 : 2000 < i
      · exact .inl a2
      refine .inr ⟨a2, ?_⟩
      by_cases a3 : p < 0
      · exact .inl a3
      refine .inr ⟨a3, ?_⟩
      by_cases a4 : 2000 < p
      · exact .inl a4
      refine .inr ⟨a4, ?_⟩
      by_cases a5 : z < 0
      · exact .inl a5
      refine .inr ⟨a5, ?_⟩
      by_cases a6 : 2000 < z
      · exact .inl a6
      refine .inr ⟨a6, ?_⟩
      cases f with
      | true => exact absurd ⟨hl, by omega, by omega, by omega, .inl rfl⟩ h3
      | false =>
        have : z ≠ 0 := fun hz => h3 ⟨hl, by omega, by omega, by omega, .inr hz⟩
        exact ⟨rfl, by simpa using this, by simpa using this⟩
    clear h3 hl
    rcases h4 with a1 | ⟨a1, a2 | ⟨a2, a3 | ⟨a3, a4 | ⟨a4, a5 | ⟨a5, a6 | ⟨a6, rfl, a7, a8⟩⟩⟩⟩⟩⟩
    all_goals
      go_enter Try.func75, Try.ntmps75
      go_wp2
      exact bodyPost_ret (results_tmp2 rfl _ _ _) rfl ⟨none, 0, rfl, InB.mt _ _, hBw⟩
  · have hq : ((len : Int) == 512) = false := by simp; omega
    have hq2 : ((len : Int) != 512) = true := by simp; omega
    clear h3 hl
    go_enter Try.func75, Try.ntmps75
    go_wp2
    exact bodyPost_ret (results_tmp2 rfl _ _ _) rfl ⟨none, 0, rfl, InB.mt _ _, hBw⟩

theorem keepC {B : Nat} {w1 W W' : World} {g i : Nat} {x : Value} (hB : Below B W W') (h : Below B w1 W ∧ W.cell? ⟨g, i, none⟩ = some x) (hg : g < B) : Below B w1 W' ∧ W'.cell? ⟨g, i, none⟩ = some x :=
  ⟨h.1.trans hB, (hB.cell (p := ⟨g, i, none⟩) hg).trans h.2⟩
set_option maxRecDepth 100000 in
set_option maxHeartbeats 16000000 in
theorem refEncode_ok (e i p z n : Nat) (f : Bool) (A : Option Addr) (k : Nat) (y : List UInt8) (w : World) (hin : InB w w.heap.size A k y) (he : e < 2 ^ 64) (hn : n < 2 ^ 32) (hk : frOk y.length i p f z = true) :
    Calls Try.prog 75 #[.agg (frCells e i p f z n A y.length k)] w (GivesBE w (frameB (partB e i p f z n) y) 0) := by
  obtain ⟨hy, ⟨_, hi⟩, ⟨_, hp⟩, ⟨_, hz⟩, hfz⟩ := (frOk_iff _ _ _ _ _).1 hk
  have hbh := BlkIs.new w 120 (frCells e i p f z n A y.length k)
  have hBw : Below w.heap.size w (w.alloc (.cells (frCells e i p f z n A y.length k) 120)) := (Below.refl _ w).alloc (Nat.le_refl _) _
  have hin1 := (hin.below hBw).more hBw.size
  have F8 : ∀ n : Nat, n < 2 ^ 64 → ∀ W, Calls Try.prog 44 #[.int .u64 (n : Int), .int .i64 8] W (GivesB W (fixL 8 n)) := fun n h W => refFixed_gives 8 n (by omega) h W
  have F4 : ∀ n : Nat, n < 2 ^ 64 → ∀ W, Calls Try.prog 44 #[.int .u64 (n : Int), .int .i64 4] W (GivesB W (fixL 4 n)) := fun n h W => refFixed_gives 4 n (by omega) h W
  have FE := F8 e he
  have FI := F4 i (by omega)
  have FP := F4 p (by omega)
  have FZ := F4 z (by omega)
  have FN := F4 n (by omega)
  have hiw : IntKind.u64.wrap (i : Int) = (i : Int) := by
    show (i : Int) % 18446744073709551616 = _
    omega
  have hpw : IntKind.u64.wrap (p : Int) = (p : Int) := by
    show (p : Int) % 18446744073709551616 = _
    omega
  have hzw : IntKind.u64.wrap (z : Int) = (z : Int) := by
    show (z : Int) % 18446744073709551616 = _
    omega
  have hnw : IntKind.u64.wrap (n : Int) = (n : Int) := by
    show (n : Int) % 18446744073709551616 = _
    omega
  have i0 : ¬ (i : Int) < 0 := by omega
  have i1 : ¬ 2000 < (i : Int) := by omega
  have p0 : ¬ (p : Int) < 0 := by omega
  have p1 : ¬ 2000 < (p : Int) := by omega
  have z0 : ¬ (z : Int) < 0 := by omega
  have z1 : ¬ 2000 < (z : Int) := by omega
  have hq : ((y.length : Int) == 512) = true := by simp; omega
  have hq2 : ((y.length : Int) != 512) = false := by simp; omega
  have hb : ∀ c : UInt8, c = (if f then 1 else 0) → fixL 8 e ++ fixL 4 i ++ fixL 4 p ++ [c] ++ fixL 4 z ++ fixL 4 n = partB e i p f z n := fun c hc => by rw [partB_eq, hc]; simp only [List.append_assoc, List.cons_append, List.nil_append]
  have hbl := partB_length e i p f z n
  have hl8 : ∀ n, (fixL 8 n).length = 8 := fixL_length 8
  have hl4 : ∀ n, (fixL 4 n).length = 4 := fixL_length 4
  have L8 := Lib.hid hl8
  have L4 := Lib.hid hl4
  have HY := Lib.hid hy
  obtain ⟨R, hR⟩ : ∃ R, R = frameB (partB e i p f z n) y := ⟨_, rfl⟩
  rw [← hR]
  replace hR : R = partB e i p f z n ++ fixL 4 (sumL (partB e i p f z n ++ y)) ++ List.replicate 35 0 ++ y := hR
  have hsl := sumL_lt (partB e i p f z n ++ y)
  have FX : ∀ W, Calls Try.prog 44 #[.int .u64 (sumL (partB e i p f z n ++ y) : Int), .int .i64 4] W (GivesB W (fixL 4 (sumL (partB e i p f z n ++ y)))) := F4 _ (by omega)
  have hCs : ∀ W, Below (w.heap.size + 1) (w.alloc (.cells (frCells e i p f z n A y.length k) 120)) W → BlkIs W w.heap.size 120 (frCells e i p f z n A y.length k) ∧ InB W W.heap.size A k y := fun W h => ⟨hbh.below h (by omega), ((hin.below (hBw.trans (h.mono (by omega))))).more (by have := hBw.size; have := h.size; simp at *; omega)⟩
  have hs1 : (w.alloc (.cells (frCells e i p f z n A y.length k) 120)).heap.size = w.heap.size + 1 := by simp
  generalize partB e i p f z n = b at *
  obtain ⟨S, hS⟩ : ∃ S, S = sumL (b ++ y) := ⟨_, rfl⟩
  rw [← hS] at hsl FX hR
  obtain ⟨q, hqq⟩ : ∃ q, q = b ++ y := ⟨_, rfl⟩
  rw [← hqq] at hS
  have HQ := Lib.hid hqq
  have HR := Lib.hid hR
  have HSum := Lib.hid hS
  have HB := Lib.hid hb
  have HBL := Lib.hid hbl
  have hsw : IntKind.u64.wrap (S : Int) = (S : Int) := by
    show (S : Int) % 18446744073709551616 = _
    omega
  have hfz' : f = true ∨ (f = false ∧ ((z : Int) == 0) = true ∧ ((z : Int) != 0) = false) := by
    cases f with
    | true => exact .inl rfl
    | false =>
      rcases hfz with h | h
      · cases h
      · exact .inr ⟨rfl, by simp [h], by simp [h]⟩
  clear F8 F4 he hn hi hp hz hk hy hl8 hl4 hfz hR hS hqq hb hbl hsl hin
  unfold frCells at *
  rcases hfz' with rfl | ⟨rfl, hz2, hz3⟩
  all_goals
    go_enter Try.func75, Try.ntmps75
    go_wp2_with fail
    generalize w.alloc (.cells #[.int .u64 (e : Int), .int .i64 (i : Int), .int .i64 (p : Int), .bool _, .int .i64 (z : Int), .int .u32 (n : Int), .slice A y.length k] 120) = w1 at *
    have hg1 := hbh.lt
    have hc0 : w1.cell? ⟨w.heap.size, 0, none⟩ = some (.int .u64 (e : Int)) := by rw [hbh.cell]; rfl
    have hc1 : w1.cell? ⟨w.heap.size, 1, none⟩ = some (.int .i64 (i : Int)) := by rw [hbh.cell]; rfl
    go_region_held3 (fun W => Below w1.heap.size w1 W ∧ W.cell? ⟨w.heap.size, 0, none⟩ = some (.int .u64 (e : Int)) ∧ W.cell? ⟨w.heap.size, 1, none⟩ = some (.int .i64 (i : Int)))
      (first | exact ⟨(Below.refl _ _).drew, hc0, hc1⟩ | exact keepB2 (by assumption) (by assumption) hg1)
      (first
        | (go_at_call 44; first
          | (with_reducible refine (FE _).mono ?_); rintro x W2 ⟨v2, rfl, own2, hB2⟩; have hB2' : Below w1.heap.size w1.drew W2 := hB2
          | (with_reducible refine (FI _).mono ?_); rintro x W3 ⟨v3, rfl, own3, hB3⟩; have own2' := own2.later hB3; obtain ⟨A3, c3, rfl, hin3⟩ := own3.inB; have hB3' : Below w1.heap.size W2 W3 := hB3.mono hB2'.size)
        | (revert own2'; intro own2'; refine step_appB (by rfl) (.tmp 51) (.tmp 55) (by rfl) w1.heap.size v2 (fixL 8 e) (by rfl) own2' _ A3 c3 (fixL 4 i) (by rfl) hin3 (by simp [fixL_length]) (by have := hB2'.size; have := hB3'.size; simp at *; omega) ?_; intro v4 W4 own4 hg4 hat4; have hB4' : Below w1.heap.size W3 W4 := grown_below hg4 (by have := hB2'.size; have := hB3'.size; simp at *; omega) own2'.ownGe))
    rename_i hS4
    have hB14 : Below (w.heap.size + 1) w1 W4 := hS4.1.mono (by omega)
    have s14 : w.heap.size + 1 ≤ W4.heap.size := by have := hB14.size; omega
    replace own4 := own4.base (b' := w.heap.size + 1) (by omega)
    have hk4 := (hCs W4 hB14).1
    have hc2 : W4.cell? ⟨w.heap.size, 2, none⟩ = some (.int .i64 (p : Int)) := by rw [hk4.cell]; rfl
    clear hS4 hB2' hB3' hB4' hB2 hB3 own2 own2' own3 hin3 hg4 hat4 hc0 hc1
    have B0 : ∀ {W W' : World} {row : Option Nat}, Below (w.heap.size + 1) w1 W → W.grownBy W' row → (∀ r, row = some r → w.heap.size + 1 ≤ r) → Below (w.heap.size + 1) w1 W' := fun h hg hr => h.trans (grown_below hg (by have := h.size; omega) hr)
    have S0 : ∀ {W : World}, Below (w.heap.size + 1) w1 W → w.heap.size + 1 ≤ W.heap.size := fun h => by have := h.size; omega
    have B1 : ∀ {W W' : World}, Below (w.heap.size + 1) w1 W → Below W.heap.size W W' → Below (w.heap.size + 1) w1 W' := fun h h2 => h.trans (h2.mono (by have := h.size; omega))
    go_wp2_with (first
      | (go_at_call 44; first
        | ((with_reducible refine (FP _).mono ?_); rintro x W5 ⟨v5, rfl, own5, hB⟩; have hB5 := B1 hB14 hB; have own4' := own4.later hB; obtain ⟨A5, c5, rfl, hin5⟩ := own5.inB; clear hB own5 own4)
        | ((with_reducible refine (FZ _).mono ?_); rintro x W8 ⟨v8, rfl, own8, hB⟩; have hB8 := B1 hB7 hB; have own7' := own7.later hB; obtain ⟨A8, c8, rfl, hin8⟩ := own8.inB; clear hB own8 own7)
        | ((with_reducible refine (FN _).mono ?_); rintro x W10 ⟨v10, rfl, own10, hB⟩; have hB10 := B1 hB9 hB; have own9' := own9.later hB; obtain ⟨A10, c10, rfl, hin10⟩ := own10.inB; clear hB own10 own9))
      | (revert own4'; intro own4'; at_builtin; refine wp_appB rfl (.tmp 57) (.tmp 61) rfl (w.heap.size + 1) v4 (fixL 8 e ++ fixL 4 i) rfl own4' _ A5 c5 (fixL 4 p) rfl hin5 (by simp only [List.length_append, L8.out, L4.out]; omega) (S0 hB5) ?_; intro v6 W6 own6 hg6; have hB6 := B0 hB5 hg6 own4'.ownGe; have hk6 := (hCs W6 hB6).1; have hc3 : W6.cell? ⟨w.heap.size, 3, none⟩ = some (.bool _) := (by rw [hk6.cell]; rfl); clear own4' hin5 hg6 hk6)
      | (revert own6; intro own6; at_builtin; refine wp_app1 rfl (.tmp _) (.tmp _) rfl (w.heap.size + 1) v6 (fixL 8 e ++ fixL 4 i ++ fixL 4 p) rfl (own6.later ((Below.refl _ W6).alloc (Nat.le_refl _) _)) W6.heap.size _ rfl (new_cell _ _ _) (by decide) (by simp only [List.length_append, L8.out, L4.out]; omega) (by have := S0 hB6; simp; omega) ?_; intro v7 W7 own7 hg7; have hB7 := B0 (B1 hB6 ((Below.refl _ W6).alloc (Nat.le_refl _) _)) hg7 own6.ownGe; have hk7 := (hCs W7 hB7).1; have hc4 : W7.cell? ⟨w.heap.size, 4, none⟩ = some (.int .i64 (z : Int)) := (by rw [hk7.cell]; rfl); clear own6 hg7 hk7)
      | (revert own7'; intro own7'; at_builtin; refine wp_appB rfl (.tmp 71) (.tmp 75) rfl (w.heap.size + 1) v7 _ rfl own7' _ A8 c8 (fixL 4 z) rfl hin8 (by simp only [List.length_append, L8.out, L4.out]; simp) (S0 hB8) ?_; intro v9 W9 own9 hg9; have hB9 := B0 hB8 hg9 own7'.ownGe; have hk9 := (hCs W9 hB9).1; have hc5 : W9.cell? ⟨w.heap.size, 5, none⟩ = some (.int .u32 (n : Int)) := (by rw [hk9.cell]; rfl); clear own7' hin8 hg9 hk9)
      | (revert own9'; intro own9'; at_builtin; refine wp_appB rfl (.tmp 77) (.tmp 81) rfl (w.heap.size + 1) v9 _ rfl own9' _ A10 c10 (fixL 4 n) rfl hin10 (by simp only [List.length_append, L8.out, L4.out]; simp) (S0 hB10) ?_; intro v11 W11 own11 hg11; have hB11 := B0 hB10 hg11 own9'.ownGe; clear own9' hin10 hg11))
    first | rw [HB.out (UInt8.ofNat 1) (by rfl)] at own11 | rw [HB.out (UInt8.ofNat 0) (by rfl)] at own11
    have hc6 : W11.cell? ⟨w.heap.size, 6, none⟩ = some (.slice A y.length k) := by rw [(hCs W11 hB11).1.cell]; rfl
    obtain ⟨A11, c11, rfl, hin11⟩ := own11.inB
    have e0 : OwnB (W11.drew.alloc (.cells #[] 5)) W11.heap.size (.slice (some ⟨W11.heap.size, 0, none⟩) 0 0) [] := World.ownsRow_lit W11.drew #[] 0 (Nat.le_refl _) (by unfold maxLen; omega) rfl
    have hA : Below W11.heap.size W11 (W11.drew.alloc (.cells #[] 5)) := (Below.refl _ W11).drew.alloc (Nat.le_refl _) _
    have hA' : Below (w.heap.size + 1) W11.drew (W11.drew.alloc (.cells #[] 5)) := (Below.refl _ W11.drew).alloc (show w.heap.size + 1 ≤ W11.drew.heap.size from S0 (W := W11) hB11) _
    have hinA := hin11.below hA
    have s11 := S0 hB11
    have hSd : Below (w.heap.size + 1) w1 W11.drew ∧ W11.drew.cell? ⟨w.heap.size, 6, none⟩ = some (.slice A y.length k) := ⟨hB11.drew, hc6⟩
    have hSA := keepC hA' hSd (by omega)
    clear hc2 hc3 hc4 hc5 FE FI FP FZ FN
    go_region_held3 (fun W => Below (w.heap.size + 1) w1 W ∧ W.cell? ⟨w.heap.size, 6, none⟩ = some (.slice A y.length k))
      (first | exact hSd | exact hSA | (with_reducible assumption))
      (first
        | (refine step_appB (by rfl) (.tmp 84) (.tmp 85) (by rfl) W11.heap.size (.slice (some ⟨W11.heap.size, 0, none⟩) 0 0) [] (by rfl) e0 _ A11 c11 b (by rfl) hinA (by rw [HBL.out]; simp) (by simp) ?_; intro v12 W12 own12 hg12 hat12; rw [List.nil_append] at own12; have hA12 : Below W11.heap.size W11 W12 := hA.trans (grown_below hg12 hA.size e0.ownGe); have hB12' : Below (w.heap.size + 1) (W11.drew.alloc (.cells #[] 5)) W12 := grown_below hg12 (by simp; omega) (fun r hr => Nat.le_trans s11 (e0.ownGe r hr)); have hy12 := (hCs W12 ((hB11.trans (hA12.mono s11)))).2; have hS12 := keepC hB12' hSA (by omega); clear hat12)
        | (revert own12; intro own12; refine step_appB (by rfl) (.tmp 86) (.tmp 88) (by rfl) W11.heap.size v12 b (by rfl) own12 _ A k y (by rfl) hy12 (by rw [HBL.out, HY.out]; simp) hA12.size ?_; intro v13 W13 own13 hg13 hat13; have hA13 : Below W11.heap.size W11 W13 := hA12.trans (grown_below hg13 hA12.size own12.ownGe); have hB13' : Below (w.heap.size + 1) W12 W13 := grown_below hg13 (Nat.le_trans s11 hA12.size) (fun r hr => Nat.le_trans s11 (own12.ownGe r hr)); rw [← HQ.out] at own13; obtain ⟨A13, c13, rfl, hin13⟩ := own13.inB; have HS13 := refSum_gives W13 _ A13 c13 _ hin13; rw [← HSum.out] at HS13; have hS13 := keepC hB13' hS12 (by omega); clear hat13)
        | (revert HS13; intro HS13; go_at_call 37; refine HS13.mono ?_; rintro x w' ⟨rfl, rfl⟩)
        | (revert hA13; intro hA13; go_at_call 44; refine (FX _).mono ?_; rintro x W14 ⟨v14, rfl, own14, hB14⟩; have hA14 : Below W11.heap.size W11 W14 := hA13.trans (hB14.mono hA13.size); have hB14' : Below (w.heap.size + 1) W13 W14 := hB14.mono (Nat.le_trans s11 hA13.size); have own11' := own11.later hA14; have hS14 := keepC hB14' hS13 (by omega); obtain ⟨A14, c14, rfl, hin14⟩ := own14.inB)
        | (revert own11'; intro own11'; refine step_appB (by rfl) (.tmp 83) (.tmp 92) (by rfl) (w.heap.size + 1) (.slice A11 b.length c11) b (by rfl) own11' _ A14 c14 (fixL 4 S) (by rfl) hin14 (by rw [HBL.out, L4.out]; simp) (Nat.le_trans s11 hA14.size) ?_; intro v15 W15 own15 hg15 hat15; have hB15' : Below (w.heap.size + 1) W14 W15 := grown_below hg15 (Nat.le_trans s11 hA14.size) own11'.ownGe; have hS15 := keepC hB15' hS14 (by omega); clear hat15))
    obtain ⟨D, hD⟩ : ∃ D, D = b ++ fixL 4 S := ⟨_, rfl⟩
    rw [← hD] at own15
    have hDl : D.length = 29 := by rw [hD, List.length_append, HBL.out, L4.out]
    have HD := Lib.hid hD
    have hsub : IntKind.i64.wrap (64 - (D.length : Int)) = 35 := by rw [hDl]; rfl
    have HDL := Lib.hid hDl
    have hB15 := hS15.1
    obtain ⟨A15, c15, rfl, hin15⟩ := own15.inB
    have hc6' := hS15.2
    clear hD hDl hSd hSA hS15 hin15 hin14 own14 hin13 own13 own12 own11 own11' hin11 e0 hA hA' hinA hy12
    go_wp2_with (first
      | (refine wp_appZ rfl (.tmp 94) (.tmp 97) rfl (w.heap.size + 1) (.slice A15 D.length c15) D rfl own15 35 rfl (by omega) (by rw [HDL.out]; simp) (S0 hB15) ?_; intro v16 W16 own16 hg16 hat16; have hB16 := B0 hB15 hg16 own15.ownGe; have hc66 : W16.cell? ⟨w.heap.size, 6, none⟩ = some (.slice A y.length k) := (by rw [(hCs W16 hB16).1.cell]; rfl); have hy16 := (hCs W16 hB16).2; clear hat16)
      | (revert own16; intro own16; at_builtin; refine wp_appB rfl (.tmp 99) (.tmp 101) rfl (w.heap.size + 1) v16 _ rfl own16 _ A k y rfl hy16 (by rw [List.length_append, HDL.out, HY.out]; simp) (S0 hB16) ?_; intro v17 W17 own17 hg17; have hB17 := B0 hB16 hg17 own16.ownGe))
    obtain ⟨A17, c17, rfl, hin17⟩ := own17.inB
    refine bodyPost_ret (results_tmp2 rfl _ _ _) rfl ?_
    have hR : R = D ++ List.replicate 35 0 ++ y := by rw [HR.out, HD.out]
    rw [hR]
    exact ⟨A17, c17, rfl, hin17, hBw.trans (hB17.mono (by omega))⟩
/-- .. whatever the frame. -/
theorem refEncode_gives (e : Nat) (i p : Int) (f : Bool) (z : Int) (n : Nat) (A : Option Addr) (k : Nat) (y : List UInt8) (w : World) (hin : InB w w.heap.size A k y) (he : e < 2 ^ 64) (hn : n < 2 ^ 32) :
    Calls Try.prog 75 #[.agg (frCells e i p f z n A y.length k)] w (GivesBE w (fEnc e i p f z n y) (fErr i p f z y)) := by
  cases hk : frOk y.length i p f z with
  | false =>
    have h1 : fEnc e i p f z n y = [] := by simp [fEnc, hk]
    have h2 : fErr i p f z y = 2 := by simp [fErr, hk]
    rw [h1, h2]
    exact refEncode_bad e i p f z n A k y w hk
  | true =>
    obtain ⟨hy, ⟨hi0, hi1⟩, ⟨hp0, hp1⟩, ⟨hz0, hz1⟩, _⟩ := (frOk_iff _ _ _ _ _).1 hk
    obtain ⟨i, rfl⟩ : ∃ q : Nat, i = q := ⟨i.toNat, by omega⟩
    obtain ⟨p, rfl⟩ : ∃ q : Nat, p = q := ⟨p.toNat, by omega⟩
    obtain ⟨z, rfl⟩ : ∃ q : Nat, z = q := ⟨z.toNat, by omega⟩
    obtain ⟨h1, h2⟩ := fEnc_ok (e := e) (n := n) hk
    rw [h1, h2]
    exact refEncode_ok e i p z n f A k y w hin he hn hk
end Go.Proofs.Ytlelckdcmlpmdaa
/- louperef05.Same, Sum; frame.Sum. -/
namespace Go.Proofs.Ytlelckdcmlpmdaa
open Go Go.RowKit Lou

set_option maxRecDepth 100000 in
set_option maxHeartbeats 4000000 in
theorem same5_gives (e i p z n : Int) (f : Bool) (A A' : Option Addr) (k k' m : Nat) (y : List UInt8) (hm : y.length = m) (w : World) (h : InB w w.heap.size A k y) (h' : InB w w.heap.size A' k' y) :
    Calls Try.prog 78 #[.agg #[.int .u64 e, .int .i64 i, .int .i64 p, .bool f, .int .i64 z, .int .u32 n, .slice A m k], .agg #[.int .u64 e, .int .i64 i, .int .i64 p, .bool f, .int .i64 z, .int .u32 n, .slice A' m k']] w fun x w' => x = .returned (.bool true) ∧ Below w.heap.size w w' := by
  have hB : Below w.heap.size w ((w.alloc (.cells #[.int .u64 e, .int .i64 i, .int .i64 p, .bool f, .int .i64 z, .int .u32 n, .slice A m k] 120)).alloc (.cells #[.int .u64 e, .int .i64 i, .int .i64 p, .bool f, .int .i64 z, .int .u32 n, .slice A' m k'] 120)) := ((Below.refl _ w).alloc (Nat.le_refl _) _).alloc (by simp) _
  have hs1 := (h.below hB).string
  have hs2 := (h'.below hB).string
  rw [hm] at hs1 hs2
  clear hm
  go_enter Try.func78, Try.ntmps78
  go_wp2
  go_ret
  exact ⟨rfl, hB⟩

set_option maxRecDepth 100000 in
set_option maxHeartbeats 8000000 in
theorem fsum_gives (e : Nat) (i p : Int) (f : Bool) (z : Int) (n : Nat) (A : Option Addr) (k : Nat) (y : List UInt8) (w : World) (hin : InB w w.heap.size A k y) :
    Calls Try.prog 79 #[.agg (frCells e i p f z n A y.length k)] w fun x w' => x = .returned (.tuple #[.int .u32 (fSum e i p f z n y : Int), .int .i64 (fErr i p f z y)]) ∧ Below w.heap.size w w' := by
  have hbh := BlkIs.new w 120 (frCells e i p f z n A y.length k)
  have hBw : Below w.heap.size w (w.alloc (.cells (frCells e i p f z n A y.length k) 120)) := (Below.refl _ w).alloc (Nat.le_refl _) _
  have H := right_gives e i p f z n A y.length k (w.alloc (.cells (frCells e i p f z n A y.length k) 120))
  cases hk : frOk y.length i p f z with
  | false =>
    have h1 : fSum e i p f z n y = 0 := by simp [fSum, hk]
    have h2 : fErr i p f z y = 2 := by simp [fErr, hk]
    rw [h1, h2]
    rw [hk] at H
    clear h1 h2 hk
    unfold frCells at *
    go_enter Try.func79, Try.ntmps79
    go_wp2_with (first
      | (go_at_call 140; refine H.mono ?_; rintro x w2 ⟨rfl, hB2⟩)
      | (refine wp_loadW rfl 120 (.tmp 1) rfl w.heap.size rfl rowFrame hbh (by rfl) ?_))
    exact bodyPost_ret (results_tmp2 rfl _ _ _) rfl ⟨rfl, hBw.trans (hB2.mono hBw.size)⟩
  | true =>
    obtain ⟨hy, ⟨hi0, hi1⟩, ⟨hp0, hp1⟩, ⟨hz0, hz1⟩, _⟩ := (frOk_iff _ _ _ _ _).1 hk
    obtain ⟨i, rfl⟩ : ∃ q : Nat, i = q := ⟨i.toNat, by omega⟩
    obtain ⟨p, rfl⟩ : ∃ q : Nat, p = q := ⟨p.toNat, by omega⟩
    obtain ⟨z, rfl⟩ : ∃ q : Nat, z = q := ⟨z.toNat, by omega⟩
    rw [hk] at H
    have h1 : fSum e (i : Int) (p : Int) f (z : Int) n y = sumL (partB e i p f z n ++ y) := by simp [fSum, hk]
    have h2 : fErr (i : Int) (p : Int) f (z : Int) y = 0 := by simp [fErr, hk]
    rw [h1, h2]
    have hin1 := (hin.below hBw).more hBw.size
    have HF := fun W (h : InB W W.heap.size A k y) => front_gives e i p z n f A k y W (by omega) (by omega) (by omega) h hy
    have hl25 := partB_length e i p f z n
    have hsl : (sectB (partB e i p f z n) y).length = 64 := by rw [sectB_length, hl25]
    have hsum := sectB_sum (partB e i p f z n) y [] hl25
    rw [List.append_nil] at hsum
    generalize sectB (partB e i p f z n) y = s at *
    generalize sumL (partB e i p f z n ++ y) = S at *
    have HSL := Lib.hid hsl
    have HYL := Lib.hid hy
    have HSUM := Lib.hid hsum
    have hRow : RowTy Try.prog 236 (s.map b8).toArray.size := by
      have : (s.map b8).toArray.size = 64 := by simp [hsl]
      rw [this]
      exact rowSector
    clear h1 h2 hk hin hl25 hsl hy hsum
    unfold frCells at *
    go_enter Try.func79, Try.ntmps79
    go_wp2_with (first
      | (go_at_call 140; refine H.mono ?_; rintro x w2 ⟨rfl, hB2⟩; have hbh2 := hbh.below hB2 hbh.lt; have hB02 := hBw.trans (hB2.mono hBw.size); have hin2 := (hin1.below hB2).more hB2.size; clear H hbh hin1)
      | (go_at_call 141; refine (HF _ hin2).mono ?_; rintro x w3 ⟨rfl, hB3⟩; have hB03 := hB02.trans (hB3.mono hB02.size); clear HF hbh2 hin2)
      | (refine wp_loadW rfl 120 (.tmp 1) rfl w.heap.size rfl rowFrame (by assumption) (by rfl) ?_)
      | (refine wp_storeW rfl 236 (.tmp 4) (.tmp 10) rfl w3.heap.size rfl rfl rowSector (BlkIs.new w3 236 #[.int .u8 0, .int .u8 0, .int .u8 0, .int .u8 0, .int .u8 0, .int .u8 0, .int .u8 0, .int .u8 0, .int .u8 0, .int .u8 0, .int .u8 0, .int .u8 0, .int .u8 0, .int .u8 0, .int .u8 0, .int .u8 0, .int .u8 0, .int .u8 0, .int .u8 0, .int .u8 0, .int .u8 0, .int .u8 0, .int .u8 0, .int .u8 0, .int .u8 0, .int .u8 0, .int .u8 0, .int .u8 0, .int .u8 0, .int .u8 0, .int .u8 0, .int .u8 0, .int .u8 0, .int .u8 0, .int .u8 0, .int .u8 0, .int .u8 0, .int .u8 0, .int .u8 0, .int .u8 0, .int .u8 0, .int .u8 0, .int .u8 0, .int .u8 0, .int .u8 0, .int .u8 0, .int .u8 0, .int .u8 0, .int .u8 0, .int .u8 0, .int .u8 0, .int .u8 0, .int .u8 0, .int .u8 0, .int .u8 0, .int .u8 0, .int .u8 0, .int .u8 0, .int .u8 0, .int .u8 0, .int .u8 0, .int .u8 0, .int .u8 0, .int .u8 0]) (by rfl) (by have := HSL.out; simp; omega) (b8_one _) ?_))
    have hb4 := (BlkIs.new w3 236 #[.int .u8 0, .int .u8 0, .int .u8 0, .int .u8 0, .int .u8 0, .int .u8 0, .int .u8 0, .int .u8 0, .int .u8 0, .int .u8 0, .int .u8 0, .int .u8 0, .int .u8 0, .int .u8 0, .int .u8 0, .int .u8 0, .int .u8 0, .int .u8 0, .int .u8 0, .int .u8 0, .int .u8 0, .int .u8 0, .int .u8 0, .int .u8 0, .int .u8 0, .int .u8 0, .int .u8 0, .int .u8 0, .int .u8 0, .int .u8 0, .int .u8 0, .int .u8 0, .int .u8 0, .int .u8 0, .int .u8 0, .int .u8 0, .int .u8 0, .int .u8 0, .int .u8 0, .int .u8 0, .int .u8 0, .int .u8 0, .int .u8 0, .int .u8 0, .int .u8 0, .int .u8 0, .int .u8 0, .int .u8 0, .int .u8 0, .int .u8 0, .int .u8 0, .int .u8 0, .int .u8 0, .int .u8 0, .int .u8 0, .int .u8 0, .int .u8 0, .int .u8 0, .int .u8 0, .int .u8 0, .int .u8 0, .int .u8 0, .int .u8 0, .int .u8 0]).setRow (s.map b8).toArray
    have hB34 : Below w3.heap.size w3 ((w3.alloc (.cells #[.int .u8 0, .int .u8 0, .int .u8 0, .int .u8 0, .int .u8 0, .int .u8 0, .int .u8 0, .int .u8 0, .int .u8 0, .int .u8 0, .int .u8 0, .int .u8 0, .int .u8 0, .int .u8 0, .int .u8 0, .int .u8 0, .int .u8 0, .int .u8 0, .int .u8 0, .int .u8 0, .int .u8 0, .int .u8 0, .int .u8 0, .int .u8 0, .int .u8 0, .int .u8 0, .int .u8 0, .int .u8 0, .int .u8 0, .int .u8 0, .int .u8 0, .int .u8 0, .int .u8 0, .int .u8 0, .int .u8 0, .int .u8 0, .int .u8 0, .int .u8 0, .int .u8 0, .int .u8 0, .int .u8 0, .int .u8 0, .int .u8 0, .int .u8 0, .int .u8 0, .int .u8 0, .int .u8 0, .int .u8 0, .int .u8 0, .int .u8 0, .int .u8 0, .int .u8 0, .int .u8 0, .int .u8 0, .int .u8 0, .int .u8 0, .int .u8 0, .int .u8 0, .int .u8 0, .int .u8 0, .int .u8 0, .int .u8 0, .int .u8 0, .int .u8 0] 236)).setRow w3.heap.size (s.map b8).toArray) := below_setRow ((Below.refl _ w3).alloc (Nat.le_refl _) _) (Nat.le_refl _) _
    have hB4 : Below w.heap.size w ((w3.alloc (.cells #[.int .u8 0, .int .u8 0, .int .u8 0, .int .u8 0, .int .u8 0, .int .u8 0, .int .u8 0, .int .u8 0, .int .u8 0, .int .u8 0, .int .u8 0, .int .u8 0, .int .u8 0, .int .u8 0, .int .u8 0, .int .u8 0, .int .u8 0, .int .u8 0, .int .u8 0, .int .u8 0, .int .u8 0, .int .u8 0, .int .u8 0, .int .u8 0, .int .u8 0, .int .u8 0, .int .u8 0, .int .u8 0, .int .u8 0, .int .u8 0, .int .u8 0, .int .u8 0, .int .u8 0, .int .u8 0, .int .u8 0, .int .u8 0, .int .u8 0, .int .u8 0, .int .u8 0, .int .u8 0, .int .u8 0, .int .u8 0, .int .u8 0, .int .u8 0, .int .u8 0, .int .u8 0, .int .u8 0, .int .u8 0, .int .u8 0, .int .u8 0, .int .u8 0, .int .u8 0, .int .u8 0, .int .u8 0, .int .u8 0, .int .u8 0, .int .u8 0, .int .u8 0, .int .u8 0, .int .u8 0, .int .u8 0, .int .u8 0, .int .u8 0, .int .u8 0] 236)).setRow w3.heap.size (s.map b8).toArray) := hB03.trans (hB34.mono hB03.size)
    have s4 : ((w3.alloc (.cells #[.int .u8 0, .int .u8 0, .int .u8 0, .int .u8 0, .int .u8 0, .int .u8 0, .int .u8 0, .int .u8 0, .int .u8 0, .int .u8 0, .int .u8 0, .int .u8 0, .int .u8 0, .int .u8 0, .int .u8 0, .int .u8 0, .int .u8 0, .int .u8 0, .int .u8 0, .int .u8 0, .int .u8 0, .int .u8 0, .int .u8 0, .int .u8 0, .int .u8 0, .int .u8 0, .int .u8 0, .int .u8 0, .int .u8 0, .int .u8 0, .int .u8 0, .int .u8 0, .int .u8 0, .int .u8 0, .int .u8 0, .int .u8 0, .int .u8 0, .int .u8 0, .int .u8 0, .int .u8 0, .int .u8 0, .int .u8 0, .int .u8 0, .int .u8 0, .int .u8 0, .int .u8 0, .int .u8 0, .int .u8 0, .int .u8 0, .int .u8 0, .int .u8 0, .int .u8 0, .int .u8 0, .int .u8 0, .int .u8 0, .int .u8 0, .int .u8 0, .int .u8 0, .int .u8 0, .int .u8 0, .int .u8 0, .int .u8 0, .int .u8 0, .int .u8 0] 236)).setRow w3.heap.size (s.map b8).toArray).heap.size = w3.heap.size + 1 := by simp [World.setRow]
    have hs4 := hb4.inBT (by rw [HSL.out]; omega)
    generalize (w3.alloc (.cells #[.int .u8 0, .int .u8 0, .int .u8 0, .int .u8 0, .int .u8 0, .int .u8 0, .int .u8 0, .int .u8 0, .int .u8 0, .int .u8 0, .int .u8 0, .int .u8 0, .int .u8 0, .int .u8 0, .int .u8 0, .int .u8 0, .int .u8 0, .int .u8 0, .int .u8 0, .int .u8 0, .int .u8 0, .int .u8 0, .int .u8 0, .int .u8 0, .int .u8 0, .int .u8 0, .int .u8 0, .int .u8 0, .int .u8 0, .int .u8 0, .int .u8 0, .int .u8 0, .int .u8 0, .int .u8 0, .int .u8 0, .int .u8 0, .int .u8 0, .int .u8 0, .int .u8 0, .int .u8 0, .int .u8 0, .int .u8 0, .int .u8 0, .int .u8 0, .int .u8 0, .int .u8 0, .int .u8 0, .int .u8 0, .int .u8 0, .int .u8 0, .int .u8 0, .int .u8 0, .int .u8 0, .int .u8 0, .int .u8 0, .int .u8 0, .int .u8 0, .int .u8 0, .int .u8 0, .int .u8 0, .int .u8 0, .int .u8 0, .int .u8 0, .int .u8 0] 236)).setRow w3.heap.size (s.map b8).toArray = W4 at *
    rw [HSL.out] at hs4
    generalize w3.heap.size = g3 at *
    have hr5 : RdrAt (W4.alloc (.cells #[.slice (some ⟨g3, 0, none⟩) 64 64] 242)) (g3 + 1) (some ⟨g3, 0, none⟩) 64 s := by
      refine ⟨?_, ?_⟩
      · have := BlkIs.new W4 242 #[.slice (some ⟨g3, 0, none⟩) 64 64]
        rw [s4] at this
        rw [HSL.out]
        exact this
      · have := hs4.below ((Below.refl _ W4).alloc (Nat.le_refl _) (.cells #[.slice (some ⟨g3, 0, none⟩) 64 64] 242))
        rw [s4] at this
        exact this
    have hB5 : Below w.heap.size w (W4.alloc (.cells #[.slice (some ⟨g3, 0, none⟩) 64 64] 242)) := hB4.alloc hB4.size _
    have hg3 : w.heap.size ≤ g3 + 1 := by have := hB4.size; omega
    generalize W4.alloc (.cells #[.slice (some ⟨g3, 0, none⟩) 64 64] 242) = W5 at *
    have T := ftake_gives W5 (g3 + 1) 0 (some ⟨g3, 0, none⟩) 64 64 25 (by omega) (by omega) (by omega) (by rw [hr5.blk.cell, HSL.out]; rfl) (hr5.blk.free 0)
    have hr6 := hr5.cut 25 (by rw [HSL.out]; omega)
    rw [HSL.out] at hr6
    have hB6 : Below w.heap.size w (W5.setCell ⟨g3 + 1, 0, none⟩ (.slice (cutA (some ⟨g3, 0, none⟩) 64 25) (64 - 25) (64 - 25))) := hB5.setCell (p := ⟨g3 + 1, 0, none⟩) hg3 _
    refine T.mono ?_
    rintro x w' ⟨rfl, rfl⟩
    generalize W5.setCell ⟨g3 + 1, 0, none⟩ (.slice (cutA (some ⟨g3, 0, none⟩) 64 25) (64 - 25) (64 - 25)) = W6 at *
    have N := number32_gives W6 _ _ _ _ hr6 (by rw [List.length_drop, HSL.out]; omega)
    rw [HSUM.out] at N
    clear T hr5 hr6 hB5
    go_wp2_with (go_at_call 139; refine N.mono ?_; rintro x W7 ⟨rfl, _, hB⟩)
    exact bodyPost_ret (results_tmp2 rfl _ _ _) rfl ⟨rfl, hB6.trans (hB.mono hg3)⟩

set_option maxRecDepth 100000 in
set_option maxHeartbeats 8000000 in
theorem refSum5_gives (e : Nat) (i p : Int) (f : Bool) (z : Int) (n : Nat) (A : Option Addr) (k : Nat) (y : List UInt8) (w : World) (hin : InB w w.heap.size A k y) (he : e < 2 ^ 64) (hn : n < 2 ^ 32) :
    Calls Try.prog 80 #[.agg (frCells e i p f z n A y.length k)] w fun x w' => x = .returned (.tuple #[.int .u32 (fSum e i p f z n y : Int), .int .i64 (fErr i p f z y)]) ∧ Below w.heap.size w w' := by
  have hbh := BlkIs.new w 120 (frCells e i p f z n A y.length k)
  have hBw : Below w.heap.size w (w.alloc (.cells (frCells e i p f z n A y.length k) 120)) := (Below.refl _ w).alloc (Nat.le_refl _) _
  have hin1 := (hin.below hBw).more hBw.size
  have H := refEncode_gives e i p f z n A k y (w.alloc (.cells (frCells e i p f z n A y.length k) 120)) hin1 he hn
  cases hk : frOk y.length i p f z with
  | false =>
    have h1 : fSum e i p f z n y = 0 := by simp [fSum, hk]
    have h2 : fErr i p f z y = 2 := by simp [fErr, hk]
    rw [h2] at H
    rw [h1, h2]
    generalize fEnc e i p f z n y = X at *
    clear h1 h2 hk
    unfold frCells at *
    go_enter Try.func80, Try.ntmps80
    go_wp2_with (first
      | (go_at_call 75; refine H.mono ?_; rintro x w2 ⟨A2, c2, rfl, hin2, hB2⟩)
      | (refine wp_loadW rfl 120 (.tmp 1) rfl w.heap.size rfl rowFrame hbh (by rfl) ?_))
    exact bodyPost_ret (results_tmp2 rfl _ _ _) rfl ⟨rfl, hBw.trans (hB2.mono hBw.size)⟩
  | true =>
    obtain ⟨hy, ⟨hi0, hi1⟩, ⟨hp0, hp1⟩, ⟨hz0, hz1⟩, _⟩ := (frOk_iff _ _ _ _ _).1 hk
    obtain ⟨i, rfl⟩ : ∃ q : Nat, i = q := ⟨i.toNat, by omega⟩
    obtain ⟨p, rfl⟩ : ∃ q : Nat, p = q := ⟨p.toNat, by omega⟩
    obtain ⟨z, rfl⟩ : ∃ q : Nat, z = q := ⟨z.toNat, by omega⟩
    have h1 : fSum e (i : Int) (p : Int) f (z : Int) n y = sumL (partB e i p f z n ++ y) := by simp [fSum, hk]
    obtain ⟨h3, h2⟩ := fEnc_ok (e := e) (n := n) hk
    rw [h3, h2] at H
    rw [h1, h2]
    have hl25 := partB_length e i p f z n
    have hfl : (frameB (partB e i p f z n) y).length = 576 := frameB_length hy
    have hsum := sectB_sum (partB e i p f z n) y y hl25
    have hS := sumL_lt (partB e i p f z n ++ y)
    have hfr : sectB (partB e i p f z n) y ++ y = frameB (partB e i p f z n) y := rfl
    rw [hfr] at hsum
    generalize frameB (partB e i p f z n) y = X at *
    generalize sumL (partB e i p f z n ++ y) = S at *
    have HXL := Lib.hid hfl
    have HSUM := Lib.hid hsum
    have hcv := Reg.conv_41_45 S
    have hsw : IntKind.u32.wrap (S : Int) = (S : Int) := by
      show (S : Int) % 4294967296 = _
      omega
    clear h1 h2 hk hin hl25 hfl hy hsum hfr h3 hcv
    unfold frCells at *
    go_enter Try.func80, Try.ntmps80
    go_wp2_with (first
      | (go_at_call 75; refine H.mono ?_; rintro x w2 ⟨A2, c2, rfl, hin2, hB2⟩; rw [HXL.out]; have hle2 := hin2.le; have hmx2 := hin2.max; rw [HXL.out] at hle2; obtain ⟨b2, o2, rfl, hb2, _⟩ := hin2.lies (by rw [HXL.out]; omega); have hd2 := hin2.dropAt 25 (by rw [HXL.out]; omega) (by omega); have hle2' : (576 : Int) ≤ (c2 : Int) := (by omega); have RF := refReadFixed_gives w2 _ _ _ _ 4 (by omega) hd2; rw [fixV_ge (by rw [List.length_drop, HXL.out]; omega), HSUM.out, List.length_drop, HXL.out] at RF)
      | (revert RF; intro RF; go_at_call 41; refine RF.mono ?_; rintro x w' ⟨rfl, rfl⟩)
      | (refine wp_loadW rfl 120 (.tmp 1) rfl w.heap.size rfl rowFrame hbh (by rfl) ?_))
    exact bodyPost_ret (results_tmp2 rfl _ _ _) rfl ⟨rfl, hBw.trans (hB2.mono hBw.size)⟩
end Go.Proofs.Ytlelckdcmlpmdaa
