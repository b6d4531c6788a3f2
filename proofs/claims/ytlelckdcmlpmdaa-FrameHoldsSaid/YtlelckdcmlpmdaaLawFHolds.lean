/- loupelaw05.FrameHolds: the walk. -/
import Derived.Test.YtlelckdcmlpmdaaFrDecode2
import Derived.Test.YtlelckdcmlpmdaaLawHolds
import Derived.Test.YtlelckdcmlpmdaaFrWorks
namespace Go.Proofs.Ytlelckdcmlpmdaa
open Go Go.RowKit Lou

theorem isFrame_eq {l : List UInt8} (h : isFrame l = true) : l.length = 576 ∧ frameB (partB (fdE l) (fdI l) (fdP l) (fdF l) (fdZ l) (fdL l)) (l.drop 64) = l := by
  unfold isFrame at h
  simp only [Bool.and_eq_true, decide_eq_true_eq, beq_iff_eq] at h
  obtain ⟨h1, _, h3⟩ := h
  refine ⟨h1, ?_⟩
  unfold frameB
  rw [h3, List.take_append_drop]
theorem isFrame_set {e i p : Nat} {f : Bool} {z n : Nat} {y : List UInt8} (hy : y.length = 512) (q : Nat) (hq : q < 576) (d : UInt8) (hd : (frameB (partB e i p f z n) y)[q]'(by simp [frameB, sectB_length, partB_length]; omega) ≠ d) : isFrame ((frameB (partB e i p f z n) y).set q d) = false := by
  cases h : isFrame ((frameB (partB e i p f z n) y).set q d) with
  | false => rfl
  | true =>
    exfalso
    obtain ⟨h1, h2⟩ := isFrame_eq h
    exact frameB_set (partB_length e i p f z n) (partB_length _ _ _ _ _ _) hy (by rw [List.length_drop, h1]) q hq d hd h2
theorem frameB_length {e i p : Nat} {f : Bool} {z n : Nat} {y : List UInt8} (hy : y.length = 512) : (frameB (partB e i p f z n) y).length = 576 := by
  simp [frameB, sectB_length, partB_length]; omega
theorem OwnB.laterB {w w' : World} {base B : Nat} {v : Value} {l : List UInt8} (h : OwnB w base v l) (hB : Below B w w') (hlt : ∀ r, v.ownBlock = some r → r < B) : OwnB w' base v l := by
  refine ⟨h.1, ?_⟩
  rcases h.2 with h | ⟨g, cap, cur, h1, h2, h3, h4⟩
  · exact .inl h
  · exact .inr ⟨g, cap, cur, h1, h2, (hB.block g (hlt g (by rw [h1]; rfl))).trans h3, h4⟩

section
variable (e : Nat) (i p : Int) (f : Bool) (z : Int) (n : Nat) (A : Option Addr) (k : Nat) (y : List UInt8) (s e' : Nat) (z' c' : Int) (x0 x1 : Int) (w : World)
set_option maxRecDepth 100000 in
set_option maxHeartbeats 8000000 in
theorem lawFHolds_bad (hin : InB w w.heap.size A k y) (ho : frOk y.length i p f z = false ∨ headOk z' c' = false) :
    Calls Try.prog 16 #[.agg (frCells e i p f z n A y.length k), .agg #[.int .u64 (s : Int), .int .u64 (e' : Int), .int .i64 z', .int .i64 c'], .agg #[.int .i64 x0, .int .i64 x1]] w fun e w' => e = .returned (.bool true) ∧ Below w.heap.size w w' := by
  have E1 := fun W h => encode_gives e i p f z n A k y W h
  have E2 := fun W => encodeHead_gives s e' z' c' W
  have n1 : fErr i p f z y = 0 ∨ fErr i p f z y = 2 := by unfold fErr; split <;> simp
  have n2 : hErr z' c' = 0 ∨ hErr z' c' = 2 := by unfold hErr; split <;> simp
  have n3 : fErr i p f z y + hErr z' c' ≠ 0 := by
    rcases ho with h | h
    · have : fErr i p f z y = 2 := by simp [fErr, h]
      omega
    · have : hErr z' c' = 2 := by simp [hErr, h]
      omega
  generalize fEnc e i p f z n y = X at *
  generalize hEnc s e' z' c' = Y at *
  generalize fErr i p f z y = r1 at *
  generalize hErr z' c' = r2 at *
  have b1 : 0 ≤ r1 := by omega
  have b2 : r1 ≤ 2 := by omega
  have b3 : 0 ≤ r2 := by omega
  have b4 : r2 ≤ 2 := by omega
  have hw1 : IntKind.i64.wrap (r1 + r2) = r1 + r2 := wrap_i64_fr _ (by omega) (by omega)
  have hq : ((r1 + r2) == 0) = false := by simpa using n3
  have hq2 : ((r1 + r2) != 0) = true := by simpa using n3
  clear ho n1 n2 n3
  unfold frCells at *
  have hB0 : Below w.heap.size w (((w.alloc (.cells #[.int .u64 (e : Int), .int .i64 i, .int .i64 p, .bool f, .int .i64 z, .int .u32 (n : Int), .slice A y.length k] 120)).alloc (.cells #[.int .u64 (s : Int), .int .u64 (e' : Int), .int .i64 z', .int .i64 c'] 109)).alloc (.cells #[.int .i64 x0, .int .i64 x1] 132)) := (((Below.refl _ w).alloc (Nat.le_refl _) _).alloc (by simp) _).alloc (by simp; omega) _
  have hk0 := (BlkIs.new (w.alloc (.cells #[.int .u64 (e : Int), .int .i64 i, .int .i64 p, .bool f, .int .i64 z, .int .u32 (n : Int), .slice A y.length k] 120)) 109 #[.int .u64 (s : Int), .int .u64 (e' : Int), .int .i64 z', .int .i64 c']).alloc (.cells #[.int .i64 x0, .int .i64 x1] 132)
  rw [World.size_alloc] at hk0
  have hin0 := (hin.below hB0).more hB0.size
  go_enter Try.func16, Try.ntmps16
  go_wp2_with fail
  refine (E1 _ hin0).mono ?_
  rintro x W2 ⟨A2, c2, rfl, hin2, hB⟩
  have hB2 := hB0.trans (hB.mono hB0.size)
  have hk2 := hk0.below hB hk0.lt
  clear hB hk0 hB0 E1 hin2 hin0 hin
  go_wp2_with (refine wp_loadW rfl 109 (.tmp 4) rfl (w.heap.size + 1) rfl rowHead hk2 (by rfl) ?_)
  refine (E2 _).mono ?_
  rintro x W3 ⟨A3, c3, rfl, hy, hB⟩
  have hB3 := hB2.trans (hB.mono hB2.size)
  clear hB hk2 hB2 E2 hy
  go_wp2_with (first
    | (go_at_call 60; refine (num5_gives _ _).mono ?_; rintro x w' ⟨rfl, rfl⟩)
    | (go_at_call 62; refine (works5_gives _).mono ?_; rintro x W10 ⟨rfl, hB⟩))
  go_ret
  exact ⟨rfl, hB3.trans (hB.mono hB3.size)⟩
end
end Go.Proofs.Ytlelckdcmlpmdaa
namespace Go.Proofs.Ytlelckdcmlpmdaa
open Go Go.RowKit Lou

namespace Reg
variable {L : List (Nat × Fact)} {ops : Array Oper} {w0 : World} {o : Oper}
theorem l_idxP (x y : Operand) (b k : Nat) (hk : k < 2) (ho : o.op = .indexAddr 132 x y) (hx : Has ops (FSof L) o x (.pointer (some ⟨b, 0, none⟩))) (hy : Has ops (FSof L) o y (.int .i64 (k : Int))) (hd : FD L o.dst = .val (.pointer (some ⟨b, k, none⟩))) : RunOk Try.prog ops (FSof L) w0 o := by
  refine run2 x y hx hy (fun ρ w h h2 => ?_) fun _ => fsd hd rfl
  have ea : (⟨b, 0, none⟩ : Addr).add k = ⟨b, k, none⟩ := by cases k <;> simp [Addr.add]
  have hk2 : (k : Int) < 2 := by omega
  simp [hk2, execOp, ho, h, h2, go_sem, hk, Result.andThen, ea, Try.underlying132]
theorem l_quo8 (x y : Operand) (m q : Nat) (ho : o.op = .binOp .quo 3 x y 3) (hx : Has ops (FSof L) o x (.int .i64 (m : Int))) (hy : Has ops (FSof L) o y (.int .i64 8)) (hq : (m : Int) / 8 = (q : Int)) (hw : IntKind.i64.wrap (q : Int) = (q : Int)) (hd : FD L o.dst = .val (.int .i64 (q : Int))) : RunOk Try.prog ops (FSof L) w0 o :=
  run2 x y hx hy (fun ρ w h h2 => by simp [execOp, ho, h, h2, go_sem, Result.andThen, hq, hw]) fun _ => fsd hd rfl
theorem l_rem8 (x y : Operand) (m q : Nat) (ho : o.op = .binOp .rem 3 x y 3) (hx : Has ops (FSof L) o x (.int .i64 (m : Int))) (hy : Has ops (FSof L) o y (.int .i64 8)) (hq : (m : Int) % 8 = (q : Int)) (hw : IntKind.i64.wrap (q : Int) = (q : Int)) (hd : FD L o.dst = .val (.int .i64 (q : Int))) : RunOk Try.prog ops (FSof L) w0 o :=
  run2 x y hx hy (fun ρ w h h2 => by simp [execOp, ho, h, h2, go_sem, Result.andThen, hq, hw, Int.tmod_eq_emod_of_nonneg]) fun _ => fsd hd rfl
theorem l_toU (x : Operand) (r : Nat) (hr : r < 8) (ho : o.op = .convert 3 44 x) (hx : Has ops (FSof L) o x (.int .i64 (r : Int))) (hd : FD L o.dst = .val (.int .u64 (r : Int))) : RunOk Try.prog ops (FSof L) w0 o := by
  have hw : IntKind.u64.wrap (r : Int) = (r : Int) := by simp [IntKind.wrap, IntKind.bits, IntKind.signed]; omega
  exact run1 x hx (fun ρ w h => by simp [execOp, ho, h, go_sem, Result.andThen, hw]) fun _ => fsd hd rfl
theorem l_shl1 (x y : Operand) (r : Nat) (hr : r < 8) (ho : o.op = .binOp .shl 5 y x 44) (hx : Has ops (FSof L) o x (.int .u64 (r : Int))) (hy : Has ops (FSof L) o y (.int .u8 1)) (hd : FD L o.dst = .val (.int .u8 (2 ^ r % 256))) : RunOk Try.prog ops (FSof L) w0 o :=
  run2 x y hx hy (fun ρ w h h2 => by
    rcases r with _ | _ | _ | _ | _ | _ | _ | _ | r
    all_goals first | omega | (simp [execOp, ho, h, h2, go_sem, Result.andThen]; done) | (simp [execOp, ho, h, h2, go_sem, Result.andThen]; decide)) fun _ => fsd hd rfl
theorem l_xorB (x z : Operand) (b r y : Nat) (hy : bits .xor .u8 (b : Int) (2 ^ r % 256) = (y : Int)) (ho : o.op = .binOp .xor 5 x z 5) (hx : Has ops (FSof L) o x (.int .u8 (b : Int))) (hz : Has ops (FSof L) o z (.int .u8 (2 ^ r % 256))) (hd : FD L o.dst = .val (.int .u8 (y : Int))) : RunOk Try.prog ops (FSof L) w0 o :=
  run2 x z hx hz (fun ρ w h1 h2 => by simp [execOp, ho, h1, h2, go_sem, Result.andThen, hy]) fun _ => fsd hd rfl
end Reg

section
variable (e : Nat) (i p : Int) (f : Bool) (z : Int) (n : Nat) (A : Option Addr) (k : Nat) (y : List UInt8) (s e' : Nat) (z' c' : Int) (w : World) (X Y : List UInt8)
set_option maxRecDepth 100000 in
set_option maxHeartbeats 8000000 in
theorem lawFHolds_bits (x0 x1 : Int) (hin : InB w w.heap.size A k y) (hX : X.length = 576) (hY : Y.length = 64)
    (E1 : ∀ W, InB W W.heap.size A k y → Calls Try.prog 74 #[.agg (frCells e i p f z n A y.length k)] W (GivesBE W X 0))
    (E2 : ∀ W, Calls Try.prog 70 #[.agg #[.int .u64 (s : Int), .int .u64 (e' : Int), .int .i64 z', .int .i64 c']] W (GivesBE W Y 0))
    (hb : x0 < 0 ∨ (¬ x0 < 0 ∧ 4608 ≤ x0) ∨ (¬ x0 < 0 ∧ ¬ 4608 ≤ x0 ∧ x1 < 0) ∨ (¬ x0 < 0 ∧ ¬ 4608 ≤ x0 ∧ ¬ x1 < 0 ∧ 512 ≤ x1)) :
    Calls Try.prog 16 #[.agg (frCells e i p f z n A y.length k), .agg #[.int .u64 (s : Int), .int .u64 (e' : Int), .int .i64 z', .int .i64 c'], .agg #[.int .i64 x0, .int .i64 x1]] w fun e w' => e = .returned (.bool true) ∧ Below w.heap.size w w' := by
  unfold frCells at *
  have hB0 : Below w.heap.size w (((w.alloc (.cells #[.int .u64 (e : Int), .int .i64 i, .int .i64 p, .bool f, .int .i64 z, .int .u32 (n : Int), .slice A y.length k] 120)).alloc (.cells #[.int .u64 (s : Int), .int .u64 (e' : Int), .int .i64 z', .int .i64 c'] 109)).alloc (.cells #[.int .i64 x0, .int .i64 x1] 132)) := (((Below.refl _ w).alloc (Nat.le_refl _) _).alloc (by simp) _).alloc (by simp; omega) _
  have hk0 := (BlkIs.new (w.alloc (.cells #[.int .u64 (e : Int), .int .i64 i, .int .i64 p, .bool f, .int .i64 z, .int .u32 (n : Int), .slice A y.length k] 120)) 109 #[.int .u64 (s : Int), .int .u64 (e' : Int), .int .i64 z', .int .i64 c']).alloc (.cells #[.int .i64 x0, .int .i64 x1] 132)
  have hj0 := BlkIs.new ((w.alloc (.cells #[.int .u64 (e : Int), .int .i64 i, .int .i64 p, .bool f, .int .i64 z, .int .u32 (n : Int), .slice A y.length k] 120)).alloc (.cells #[.int .u64 (s : Int), .int .u64 (e' : Int), .int .i64 z', .int .i64 c'] 109)) 132 #[.int .i64 x0, .int .i64 x1]
  rw [World.size_alloc] at hk0
  rw [World.size_alloc, World.size_alloc] at hj0
  have hin0 := (hin.below hB0).more hB0.size
  have HX := Lib.hid hX
  have HY := Lib.hid hY
  have HB := Lib.hid hb
  clear hX hY hb
  go_enter Try.func16, Try.ntmps16
  go_wp2_with fail
  refine (E1 _ hin0).mono ?_
  rintro x W2 ⟨A2, c2, rfl, hin2, hB⟩
  have hB2 := hB0.trans (hB.mono hB0.size)
  have hk2 := hk0.below hB hk0.lt
  have hj2 := hj0.below hB hj0.lt
  clear hB hk0 hj0 hB0 E1 hin2 hin0 hin
  rw [HX.out]
  go_wp2_with (refine wp_loadW rfl 109 (.tmp 4) rfl (w.heap.size + 1) rfl rowHead hk2 (by rfl) ?_)
  refine (E2 _).mono ?_
  rintro x W3 ⟨A3, c3, rfl, hy, hB⟩
  have hB3 := hB2.trans (hB.mono hB2.size)
  have hj3 := hj2.below hB hj2.lt
  clear hB hk2 hj2 hB2 E2 hy
  rw [HY.out]
  have hd0 : W3.cell? ⟨w.heap.size + 2, 0, none⟩ = some (.int .i64 x0) := by rw [hj3.cell]; rfl
  have hd1 : W3.cell? ⟨w.heap.size + 2, 1, none⟩ = some (.int .i64 x1) := by rw [hj3.cell]; rfl
  have hb := HB.out
  clear hj3 HB
  rcases hb with h1 | ⟨h1, h2⟩ | ⟨h1, h2, h3⟩ | ⟨h1, h2, h3, h4⟩
  all_goals
    go_wp2_with (first
      | (go_at_call 60; refine (num5_gives _ _).mono ?_; rintro x w' ⟨rfl, rfl⟩)
      | (go_at_call 62; refine (works5_gives _).mono ?_; rintro x W10 ⟨rfl, hB⟩))
    go_ret
    exact ⟨rfl, hB3.trans (hB.mono hB3.size)⟩
set_option maxRecDepth 100000 in
set_option maxHeartbeats 8000000 in
theorem lawFHolds_core (m0 m1 : Nat) (hin : InB w w.heap.size A k y) (hX : X.length = 576) (hY : Y.length = 64)
    (E1 : ∀ W, InB W W.heap.size A k y → Calls Try.prog 74 #[.agg (frCells e i p f z n A y.length k)] W (GivesBE W X 0))
    (E2 : ∀ W, Calls Try.prog 70 #[.agg #[.int .u64 (s : Int), .int .u64 (e' : Int), .int .i64 z', .int .i64 c']] W (GivesBE W Y 0))
    (hm0 : m0 < 4608) (hm1 : m1 < 512)
    (NX : ∀ (q : Nat) (hq : q < X.length) (d : UInt8), X[q] ≠ d → isFrame (X.set q d) = false)
    (NY : ∀ (q : Nat) (hq : q < Y.length) (d : UInt8), Y[q] ≠ d → isHead (Y.set q d) = false) :
    Calls Try.prog 16 #[.agg (frCells e i p f z n A y.length k), .agg #[.int .u64 (s : Int), .int .u64 (e' : Int), .int .i64 z', .int .i64 c'], .agg #[.int .i64 (m0 : Int), .int .i64 (m1 : Int)]] w fun e w' => e = .returned (.bool true) ∧ Below w.heap.size w w' := by
  unfold frCells at *
  have hB0 : Below w.heap.size w (((w.alloc (.cells #[.int .u64 (e : Int), .int .i64 i, .int .i64 p, .bool f, .int .i64 z, .int .u32 (n : Int), .slice A y.length k] 120)).alloc (.cells #[.int .u64 (s : Int), .int .u64 (e' : Int), .int .i64 z', .int .i64 c'] 109)).alloc (.cells #[.int .i64 (m0 : Int), .int .i64 (m1 : Int)] 132)) := (((Below.refl _ w).alloc (Nat.le_refl _) _).alloc (by simp) _).alloc (by simp; omega) _
  have hk0 := (BlkIs.new (w.alloc (.cells #[.int .u64 (e : Int), .int .i64 i, .int .i64 p, .bool f, .int .i64 z, .int .u32 (n : Int), .slice A y.length k] 120)) 109 #[.int .u64 (s : Int), .int .u64 (e' : Int), .int .i64 z', .int .i64 c']).alloc (.cells #[.int .i64 (m0 : Int), .int .i64 (m1 : Int)] 132)
  have hj0 := BlkIs.new ((w.alloc (.cells #[.int .u64 (e : Int), .int .i64 i, .int .i64 p, .bool f, .int .i64 z, .int .u32 (n : Int), .slice A y.length k] 120)).alloc (.cells #[.int .u64 (s : Int), .int .u64 (e' : Int), .int .i64 z', .int .i64 c'] 109)) 132 #[.int .i64 (m0 : Int), .int .i64 (m1 : Int)]
  rw [World.size_alloc] at hk0
  rw [World.size_alloc, World.size_alloc] at hj0
  have hin0 := (hin.below hB0).more hB0.size
  obtain ⟨q0, hq0⟩ : ∃ q, q = m0 / 8 := ⟨_, rfl⟩
  obtain ⟨r0, hr0⟩ : ∃ r, r = m0 % 8 := ⟨_, rfl⟩
  obtain ⟨q1, hq1⟩ : ∃ q, q = m1 / 8 := ⟨_, rfl⟩
  obtain ⟨r1, hr1⟩ : ∃ r, r = m1 % 8 := ⟨_, rfl⟩
  have hlt0 : ¬ (4608 : Int) ≤ (m0 : Int) := by omega
  have hlt1 : ¬ (512 : Int) ≤ (m1 : Int) := by omega
  have hd0 : (m0 : Int) / 8 = (q0 : Int) := by omega
  have he0 : (m0 : Int) % 8 = (r0 : Int) := by omega
  have hd1 : (m1 : Int) / 8 = (q1 : Int) := by omega
  have he1 : (m1 : Int) % 8 = (r1 : Int) := by omega
  have hql0 : q0 < X.length := by omega
  have hql1 : q1 < Y.length := by omega
  have hqi0 : (q0 : Int) < 576 := by omega
  have hqi1 : (q1 : Int) < 64 := by omega
  have hqn0 : q0 < 576 := by omega
  have hqn1 : q1 < 64 := by omega
  have hz0 : (0 : Int) ≤ (q0 : Int) := by omega
  have hz1 : (0 : Int) ≤ (q1 : Int) := by omega
  have hwq0 : IntKind.i64.wrap (q0 : Int) = (q0 : Int) := wrap_i64_fr _ (by omega) (by omega)
  have hwq1 : IntKind.i64.wrap (q1 : Int) = (q1 : Int) := wrap_i64_fr _ (by omega) (by omega)
  have hwr0 : IntKind.i64.wrap (r0 : Int) = (r0 : Int) := wrap_i64_fr _ (by omega) (by omega)
  have hwr1 : IntKind.i64.wrap (r1 : Int) = (r1 : Int) := wrap_i64_fr _ (by omega) (by omega)
  have hrr0 : r0 < 8 := by omega
  have hrr1 : r1 < 8 := by omega
  obtain ⟨y0, hy0, hyl0, hyn0⟩ := xor_bit X[q0] r0 hrr0
  obtain ⟨y1, hy1, hyl1, hyn1⟩ := xor_bit Y[q1] r1 hrr1
  have NX0 := NX q0 hql0 _ hyn0
  have NY0 := NY q1 hql1 _ hyn1
  have HX := Lib.hid hX
  have HY := Lib.hid hY
  have HQ0 := Lib.hid hq0
  have HQ1 := Lib.hid hq1
  have HR0 := Lib.hid hr0
  have HR1 := Lib.hid hr1
  have HM0 := Lib.hid hm0
  have HM1 := Lib.hid hm1
  have HNX := Lib.hid NX0
  have HNY := Lib.hid NY0
  clear hX hY hq0 hq1 hr0 hr1 NX NY NX0 NY0 hm0 hm1 hyn0 hyn1
  go_enter Try.func16, Try.ntmps16
  go_wp2_with fail
  refine (E1 _ hin0).mono ?_
  rintro x W2 ⟨A2, c2, rfl, hin2, hB⟩
  have hB2 := hB0.trans (hB.mono hB0.size)
  have hk2 := hk0.below hB hk0.lt
  have hj2 := hj0.below hB hj0.lt
  clear hB hk0 hj0 hB0 E1 hin0 hin
  rw [HX.out]
  go_wp2_with (refine wp_loadW rfl 109 (.tmp 4) rfl (w.heap.size + 1) rfl rowHead hk2 (by rfl) ?_)
  refine (E2 _).mono ?_
  rintro x W3 ⟨A3, c3, rfl, hy, hB⟩
  have hB3 := hB2.trans (hB.mono hB2.size)
  have hj3 := hj2.below hB hj2.lt
  have hx := (hin2.below hB).more hB.size
  clear hB hk2 hj2 hB2 E2 hin2
  rw [HY.out]
  have hc0 : W3.cell? ⟨w.heap.size + 2, 0, none⟩ = some (.int .i64 (m0 : Int)) := by rw [hj3.cell]; rfl
  have hc1 : W3.cell? ⟨w.heap.size + 2, 1, none⟩ = some (.int .i64 (m1 : Int)) := by rw [hj3.cell]; rfl
  have hlt := hj3.lt
  have e0 : OwnB (W3.alloc (.cells #[] 5)) W3.heap.size (.slice (some ⟨W3.heap.size, 0, none⟩) 0 0) [] := World.ownsRow_lit W3 #[] 0 (Nat.le_refl _) (by unfold maxLen; omega) rfl
  have hbe : Below W3.heap.size W3 (W3.alloc (.cells #[] 5)) := (Below.refl _ _).alloc (Nat.le_refl _) _
  go_wp2_with (first
    | (go_at_call 60; refine (num5_gives _ _).mono ?_; rintro x w' ⟨rfl, rfl⟩)
    | (at_builtin; refine wp_appB rfl (.tmp 74) (.tmp 75) rfl W3.heap.size _ [] rfl e0 _ A2 c2 X (by rw [HX.out]; rfl) (hx.below hbe) (by rw [HX.out]; simp) (by simp) ?_; intro v5 W5 own5 hg5; have hb5 := e0.below hbe hg5; have e5 : OwnB (W5.alloc (.cells #[] 5)) W5.heap.size (.slice (some ⟨W5.heap.size, 0, none⟩) 0 0) [] := World.ownsRow_lit W5 #[] 0 (Nat.le_refl _) (by unfold maxLen; omega) rfl; have hbe5 : Below W5.heap.size W5 (W5.alloc (.cells #[] 5)) := (Below.refl _ _).alloc (Nat.le_refl _) _)
    | (revert e5; intro e5; at_builtin; refine wp_appB rfl (.tmp 77) (.tmp 78) rfl W5.heap.size _ [] rfl e5 _ A3 c3 Y (by rw [HY.out]; rfl) (((hy.below hb5).more hb5.size).below hbe5) (by rw [HY.out]; simp) (by simp) ?_; intro v6 W6 own6 hg6; have hb6 := e5.below hbe5 hg6))
  obtain ⟨g0, cap0, rfl, hgb0, hgl0, hgc0⟩ := own5.at_ (by rw [List.nil_append, HX.out]; omega)
  obtain ⟨g1, cap1, rfl, hgb1, hgl1, hgc1⟩ := own6.at_ (by rw [List.nil_append, HY.out]; omega)
  rw [List.nil_append] at own5 own6 hgc0 hgc1
  rw [List.nil_append, List.nil_append, HX.out, HY.out]
  rw [HX.out] at own5 hgc0
  rw [HY.out] at own6 hgc1
  have hs3 := hB3.size
  have hb36 := hb5.trans (hb6.mono hb5.size)
  have hB6 : Below w.heap.size w W6 := hB3.trans (hb36.mono hs3)
  have hj6 := (hj3.below hb36 hj3.lt).drew
  have own5' := (own5.later hb6).later (Below.refl _ W6).drew
  have own6' := own6.later (Below.refl _ W6).drew
  have hc0' : W6.drew.cell? ⟨w.heap.size + 2, 0, none⟩ = some (.int .i64 (m0 : Int)) := by rw [hj6.cell]; rfl
  have hcell := own5'.cell q0 hql0
  have hfree := own5'.free q0
  have hne : ¬ w.heap.size + 2 = g0 := by omega
  have hne1 : ¬ w.heap.size + 2 = g1 := by have := hb5.size; omega
  have hg01 : g0 < W5.heap.size := hgl0
  have hs56 : W5.heap.size ≤ W6.heap.size := hb6.size
  have hgl0' : g0 < W6.heap.size := Nat.lt_of_lt_of_le hgl0 hb6.size
  clear hB3 hb36 hb5 hb6 hg5 hg6 own5 own6 e0 e5 hbe hbe5 hx hy hc0 hc1 hj3
  obtain ⟨BB, hBB⟩ : ∃ BB : Nat, BB = X[q0].toNat := ⟨_, rfl⟩
  rw [← hBB] at hcell hy0
  clear hBB
  have hlb : ∀ w', Grow W6 w' → w'.cell? ⟨w.heap.size + 2, 0, none⟩ = some (.int .i64 (m0 : Int)) := fun w' hg => by rw [(hj6.below (w := W6) hg hj6.lt).cell]; rfl
  have hlc : ∀ w', Grow W6 w' → w'.cell? ⟨g0, 0 + q0, none⟩ = some (.int .u8 (BB : Int)) := fun w' hg => by rw [Nat.zero_add]; exact (hg.cell (p := ⟨g0, q0, none⟩) hgl0').trans hcell
  open Reg in
  refine region_tail_facts (by kernel_rfl) (by kernel_rfl) 135 rfl (by kernel_rfl) 16 (by decide) (by kernel_rfl) (by kernel_rfl) [80, 81, 82, 83, 84, 85, 86, 87, 88, 89, 90, 91, 92, 93, 94, 95] (by kernel_rfl)
    [(7, .val (.slice (some ⟨g0, 0, none⟩) 576 cap0)), (5, .val (.pointer (some ⟨w.heap.size + 2, 0, none⟩)))]
    [(80, .val (.slice (some ⟨g0, 0, none⟩) 576 cap0)), (81, .val (.pointer (some ⟨w.heap.size + 2, 0, none⟩))), (82, .val (.int .i64 (m0 : Int))), (83, .val (.int .i64 (q0 : Int))), (84, .val (.slice (some ⟨g0, 0, none⟩) 576 cap0)), (85, .val (.pointer (some ⟨w.heap.size + 2, 0, none⟩))), (86, .val (.int .i64 (m0 : Int))), (87, .val (.int .i64 (q0 : Int))), (88, .val (.pointer (some ⟨g0, 0 + q0, none⟩))), (89, .val (.int .u8 (BB : Int))), (90, .val (.pointer (some ⟨w.heap.size + 2, 0, none⟩))), (91, .val (.int .i64 (m0 : Int))), (92, .val (.int .i64 (r0 : Int))), (93, .val (.int .u64 (r0 : Int))), (94, .val (.int .u8 (2 ^ r0 % 256))), (95, .val (.int .u8 (y0 : Int)))]
    ⟨rfl, rfl, trivial⟩ (by kernel_rfl) (by kernel_rfl)
    (allOk_cons (ok_none rfl (l_mvF 7 (.val (.slice (some ⟨g0, 0, none⟩) 576 cap0)) (.inl rfl) (by kernel_rfl) (by kernel_rfl) (by kernel_rfl)))
    <| allOk_cons (ok_none rfl (l_idxP (.tmp 5) _ (w.heap.size + 2) 0 (by decide) rfl (hs 5 _ (by kernel_rfl) (by kernel_rfl)) (hc _) (by kernel_rfl)))
    <| allOk_cons (ok_none rfl (l_load (.tmp 81) (⟨w.heap.size + 2, 0, none⟩) _ (.int .i64 (m0 : Int)) (by intro w; simp [go_sem, Try.underlying3]) rfl (hs 81 (.pointer (some ⟨w.heap.size + 2, 0, none⟩)) (by kernel_rfl) (by kernel_rfl)) (fun w hg => hlb w hg) (by kernel_rfl)))
    <| allOk_cons (ok_none rfl (l_quo8 (.tmp 82) _ m0 q0 rfl (hs 82 _ (by kernel_rfl) (by kernel_rfl)) (hc _) hd0 hwq0 (by kernel_rfl)))
    <| allOk_cons (ok_none rfl (l_mvF 7 (.val (.slice (some ⟨g0, 0, none⟩) 576 cap0)) (.inl rfl) (by kernel_rfl) (by kernel_rfl) (by kernel_rfl)))
    <| allOk_cons (ok_none rfl (l_idxP (.tmp 5) _ (w.heap.size + 2) 0 (by decide) rfl (hs 5 _ (by kernel_rfl) (by kernel_rfl)) (hc _) (by kernel_rfl)))
    <| allOk_cons (ok_none rfl (l_load (.tmp 85) (⟨w.heap.size + 2, 0, none⟩) _ (.int .i64 (m0 : Int)) (by intro w; simp [go_sem, Try.underlying3]) rfl (hs 85 (.pointer (some ⟨w.heap.size + 2, 0, none⟩)) (by kernel_rfl) (by kernel_rfl)) (fun w hg => hlb w hg) (by kernel_rfl)))
    <| allOk_cons (ok_none rfl (l_quo8 (.tmp 86) _ m0 q0 rfl (hs 86 _ (by kernel_rfl) (by kernel_rfl)) (hc _) hd0 hwq0 (by kernel_rfl)))
    <| allOk_cons (ok_none rfl (l_idxS (.tmp 84) (.tmp 87) g0 0 576 cap0 q0 hqn0 rfl (hs 84 _ (by kernel_rfl) (by kernel_rfl)) (hs 87 _ (by kernel_rfl) (by kernel_rfl)) (by kernel_rfl)))
    <| allOk_cons (ok_none rfl (l_load (.tmp 88) (⟨g0, 0 + q0, none⟩) _ (.int .u8 (BB : Int)) (by intro w; simp [go_sem, Try.underlying5]) rfl (hs 88 (.pointer (some ⟨g0, 0 + q0, none⟩)) (by kernel_rfl) (by kernel_rfl)) (fun w hg => hlc w hg) (by kernel_rfl)))
    <| allOk_cons (ok_none rfl (l_idxP (.tmp 5) _ (w.heap.size + 2) 0 (by decide) rfl (hs 5 _ (by kernel_rfl) (by kernel_rfl)) (hc _) (by kernel_rfl)))
    <| allOk_cons (ok_none rfl (l_load (.tmp 90) (⟨w.heap.size + 2, 0, none⟩) _ (.int .i64 (m0 : Int)) (by intro w; simp [go_sem, Try.underlying3]) rfl (hs 90 (.pointer (some ⟨w.heap.size + 2, 0, none⟩)) (by kernel_rfl) (by kernel_rfl)) (fun w hg => hlb w hg) (by kernel_rfl)))
    <| allOk_cons (ok_none rfl (l_rem8 (.tmp 91) _ m0 r0 rfl (hs 91 _ (by kernel_rfl) (by kernel_rfl)) (hc _) he0 hwr0 (by kernel_rfl)))
    <| allOk_cons (ok_none rfl (l_toU (.tmp 92) r0 hrr0 rfl (hs 92 _ (by kernel_rfl) (by kernel_rfl)) (by kernel_rfl)))
    <| allOk_cons (ok_none rfl (l_shl1 (.tmp 93) _ r0 hrr0 rfl (hs 93 _ (by kernel_rfl) (by kernel_rfl)) (hc _) (by kernel_rfl)))
    <| allOk_cons (ok_none rfl (l_xorB (.tmp 89) (.tmp 94) BB r0 y0 hy0 rfl (hs 89 _ (by kernel_rfl) (by kernel_rfl)) (hs 94 _ (by kernel_rfl) (by kernel_rfl)) (by kernel_rfl)))
    <| allOk_nil) ?_
  intro a W7 hsz hdef hGW7 hF hU
  have e80 : a.eval (.tmp 80) = .slice (some ⟨g0, 0, none⟩) 576 cap0 := hF 80
  have e83 : a.eval (.tmp 83) = .int .i64 (q0 : Int) := hF 83
  have e95 : a.eval (.tmp 95) = .int .u8 (y0 : Int) := hF 95
  have ha := Reg.acts_eq [80, 81, 82, 83, 84, 85, 86, 87, 88, 89, 90, 91, 92, 93, 94, 95] hsz hdef hU
  clear hF hU hdef
  simp only [List.foldl_cons, List.foldl_nil, e80, e83, e95] at ha
  clear e80 e83 e95 hsz
  generalize a.eval (.tmp 81) = v81 at *
  generalize a.eval (.tmp 82) = v82 at *
  generalize a.eval (.tmp 84) = v84 at *
  generalize a.eval (.tmp 85) = v85 at *
  generalize a.eval (.tmp 86) = v86 at *
  generalize a.eval (.tmp 87) = v87 at *
  generalize a.eval (.tmp 88) = v88 at *
  generalize a.eval (.tmp 89) = v89 at *
  generalize a.eval (.tmp 90) = v90 at *
  generalize a.eval (.tmp 91) = v91 at *
  generalize a.eval (.tmp 92) = v92 at *
  generalize a.eval (.tmp 93) = v93 at *
  generalize a.eval (.tmp 94) = v94 at *
  simp only [Act.put, List.setIfInBounds_toArray, List.set_cons_succ, List.set_cons_zero] at ha
  subst ha
  simp only [Reg.Rest, List.drop_succ_cons, List.drop_zero]
  have hj7 : BlkIs W7 (w.heap.size + 2) 132 #[.int .i64 (m0 : Int), .int .i64 (m1 : Int)] := hj6.below (w := W6) hGW7 hj6.lt
  have hB7 : Below w.heap.size w W7 := hB6.trans (hGW7.mono hB6.size)
  have own57 : OwnB W7 W3.heap.size (.slice (some ⟨g0, 0, none⟩) 576 cap0) X := OwnB.later (w := W6) own5' hGW7
  have own67 : OwnB W7 W5.heap.size (.slice (some ⟨g1, 0, none⟩) 64 cap1) Y := OwnB.later (w := W6) own6' hGW7
  have hcell7 := own57.cell q0 hql0
  have hfree7 := own57.free q0
  have hgB0 : w.heap.size ≤ g0 := by omega
  have hgB1 : W5.heap.size ≤ g1 := hgb1
  have s57 : W5.heap.size ≤ W7.heap.size := Nat.le_trans hs56 hGW7.size
  clear hcell hfree hlb hlc hj6 hB6 own5' own6' hGW7 hc0' hy0
  go_wp2_with fail
  have own8 := own57.set q0 y0 hyl0
  have own68 := own67.apart (setCell_grownBy W7 ⟨g0, q0, none⟩ (.int .u8 (y0 : Int))) hg01
  have hj8 := hj7.other (p := ⟨g0, q0, none⟩) hne (.int .u8 (y0 : Int))
  have hB8 := hB7.setCell (p := ⟨g0, q0, none⟩) hgB0 (.int .u8 (y0 : Int))
  have s58 : W5.heap.size ≤ (W7.setCell ⟨g0, q0, none⟩ (.int .u8 (y0 : Int))).heap.size := by simpa using s57
  clear own57 own67 hj7 hB7 hcell7 hfree7 s57
  generalize W7.setCell ⟨g0, q0, none⟩ (.int .u8 (y0 : Int)) = W8 at *
  have hXs : (X.set q0 (UInt8.ofNat y0)).length = 576 := by rw [List.length_set, HX.out]
  generalize X.set q0 (UInt8.ofNat y0) = X' at *
  have HXs := Lib.hid hXs
  clear hXs
  have hlt8 := hj8.lt
  obtain ⟨BB, hBB⟩ : ∃ BB : Nat, BB = Y[q1].toNat := ⟨_, rfl⟩
  have hcell8 := own68.cell q1 hql1
  rw [← hBB] at hcell8 hy1
  clear hBB
  have hgl1' : g1 < W8.heap.size := by
    obtain ⟨g, c, e1, _, h, _⟩ := own68.at_ (by rw [HY.out]; omega)
    injection e1 with e1
    injection e1 with e1
    injection e1 with e1
    omega
  have hlb : ∀ w', Grow W8 w' → w'.cell? ⟨w.heap.size + 2, 1, none⟩ = some (.int .i64 (m1 : Int)) := fun w' hg => by rw [(hj8.below hg hlt8).cell]; rfl
  have hlc : ∀ w', Grow W8 w' → w'.cell? ⟨g1, 0 + q1, none⟩ = some (.int .u8 (BB : Int)) := fun w' hg => by rw [Nat.zero_add]; exact (hg.cell (p := ⟨g1, q1, none⟩) hgl1').trans hcell8
  open Reg in
  refine region_tail_facts (by kernel_rfl) (by kernel_rfl) 135 rfl (by kernel_rfl) 16 (by decide) (by kernel_rfl) (by kernel_rfl) [97, 98, 99, 100, 101, 102, 103, 104, 105, 106, 107, 108, 109, 110, 111, 112] (by kernel_rfl)
    [(9, .val (.slice (some ⟨g1, 0, none⟩) 64 cap1)), (5, .val (.pointer (some ⟨w.heap.size + 2, 0, none⟩)))]
    [(97, .val (.slice (some ⟨g1, 0, none⟩) 64 cap1)), (98, .val (.pointer (some ⟨w.heap.size + 2, 1, none⟩))), (99, .val (.int .i64 (m1 : Int))), (100, .val (.int .i64 (q1 : Int))), (101, .val (.slice (some ⟨g1, 0, none⟩) 64 cap1)), (102, .val (.pointer (some ⟨w.heap.size + 2, 1, none⟩))), (103, .val (.int .i64 (m1 : Int))), (104, .val (.int .i64 (q1 : Int))), (105, .val (.pointer (some ⟨g1, 0 + q1, none⟩))), (106, .val (.int .u8 (BB : Int))), (107, .val (.pointer (some ⟨w.heap.size + 2, 1, none⟩))), (108, .val (.int .i64 (m1 : Int))), (109, .val (.int .i64 (r1 : Int))), (110, .val (.int .u64 (r1 : Int))), (111, .val (.int .u8 (2 ^ r1 % 256))), (112, .val (.int .u8 (y1 : Int)))]
    ⟨rfl, rfl, trivial⟩ (by kernel_rfl) (by kernel_rfl)
    (allOk_cons (ok_none rfl (l_mvF 9 (.val (.slice (some ⟨g1, 0, none⟩) 64 cap1)) (.inl rfl) (by kernel_rfl) (by kernel_rfl) (by kernel_rfl)))
    <| allOk_cons (ok_none rfl (l_idxP (.tmp 5) _ (w.heap.size + 2) 1 (by decide) rfl (hs 5 _ (by kernel_rfl) (by kernel_rfl)) (hc _) (by kernel_rfl)))
    <| allOk_cons (ok_none rfl (l_load (.tmp 98) (⟨w.heap.size + 2, 1, none⟩) _ (.int .i64 (m1 : Int)) (by intro w; simp [go_sem, Try.underlying3]) rfl (hs 98 (.pointer (some ⟨w.heap.size + 2, 1, none⟩)) (by kernel_rfl) (by kernel_rfl)) (fun w hg => hlb w hg) (by kernel_rfl)))
    <| allOk_cons (ok_none rfl (l_quo8 (.tmp 99) _ m1 q1 rfl (hs 99 _ (by kernel_rfl) (by kernel_rfl)) (hc _) hd1 hwq1 (by kernel_rfl)))
    <| allOk_cons (ok_none rfl (l_mvF 9 (.val (.slice (some ⟨g1, 0, none⟩) 64 cap1)) (.inl rfl) (by kernel_rfl) (by kernel_rfl) (by kernel_rfl)))
    <| allOk_cons (ok_none rfl (l_idxP (.tmp 5) _ (w.heap.size + 2) 1 (by decide) rfl (hs 5 _ (by kernel_rfl) (by kernel_rfl)) (hc _) (by kernel_rfl)))
    <| allOk_cons (ok_none rfl (l_load (.tmp 102) (⟨w.heap.size + 2, 1, none⟩) _ (.int .i64 (m1 : Int)) (by intro w; simp [go_sem, Try.underlying3]) rfl (hs 102 (.pointer (some ⟨w.heap.size + 2, 1, none⟩)) (by kernel_rfl) (by kernel_rfl)) (fun w hg => hlb w hg) (by kernel_rfl)))
    <| allOk_cons (ok_none rfl (l_quo8 (.tmp 103) _ m1 q1 rfl (hs 103 _ (by kernel_rfl) (by kernel_rfl)) (hc _) hd1 hwq1 (by kernel_rfl)))
    <| allOk_cons (ok_none rfl (l_idxS (.tmp 101) (.tmp 104) g1 0 64 cap1 q1 hqn1 rfl (hs 101 _ (by kernel_rfl) (by kernel_rfl)) (hs 104 _ (by kernel_rfl) (by kernel_rfl)) (by kernel_rfl)))
    <| allOk_cons (ok_none rfl (l_load (.tmp 105) (⟨g1, 0 + q1, none⟩) _ (.int .u8 (BB : Int)) (by intro w; simp [go_sem, Try.underlying5]) rfl (hs 105 (.pointer (some ⟨g1, 0 + q1, none⟩)) (by kernel_rfl) (by kernel_rfl)) (fun w hg => hlc w hg) (by kernel_rfl)))
    <| allOk_cons (ok_none rfl (l_idxP (.tmp 5) _ (w.heap.size + 2) 1 (by decide) rfl (hs 5 _ (by kernel_rfl) (by kernel_rfl)) (hc _) (by kernel_rfl)))
    <| allOk_cons (ok_none rfl (l_load (.tmp 107) (⟨w.heap.size + 2, 1, none⟩) _ (.int .i64 (m1 : Int)) (by intro w; simp [go_sem, Try.underlying3]) rfl (hs 107 (.pointer (some ⟨w.heap.size + 2, 1, none⟩)) (by kernel_rfl) (by kernel_rfl)) (fun w hg => hlb w hg) (by kernel_rfl)))
    <| allOk_cons (ok_none rfl (l_rem8 (.tmp 108) _ m1 r1 rfl (hs 108 _ (by kernel_rfl) (by kernel_rfl)) (hc _) he1 hwr1 (by kernel_rfl)))
    <| allOk_cons (ok_none rfl (l_toU (.tmp 109) r1 hrr1 rfl (hs 109 _ (by kernel_rfl) (by kernel_rfl)) (by kernel_rfl)))
    <| allOk_cons (ok_none rfl (l_shl1 (.tmp 110) _ r1 hrr1 rfl (hs 110 _ (by kernel_rfl) (by kernel_rfl)) (hc _) (by kernel_rfl)))
    <| allOk_cons (ok_none rfl (l_xorB (.tmp 106) (.tmp 111) BB r1 y1 hy1 rfl (hs 106 _ (by kernel_rfl) (by kernel_rfl)) (hs 111 _ (by kernel_rfl) (by kernel_rfl)) (by kernel_rfl)))
    <| allOk_nil) ?_
  intro a W9 hsz hdef hGW9 hF hU
  have e97 : a.eval (.tmp 97) = .slice (some ⟨g1, 0, none⟩) 64 cap1 := hF 97
  have e100 : a.eval (.tmp 100) = .int .i64 (q1 : Int) := hF 100
  have e112 : a.eval (.tmp 112) = .int .u8 (y1 : Int) := hF 112
  have ha := Reg.acts_eq [97, 98, 99, 100, 101, 102, 103, 104, 105, 106, 107, 108, 109, 110, 111, 112] hsz hdef hU
  clear hF hU hdef
  simp only [List.foldl_cons, List.foldl_nil, e97, e100, e112] at ha
  clear e97 e100 e112 hsz
  generalize a.eval (.tmp 98) = v98 at *
  generalize a.eval (.tmp 99) = v99 at *
  generalize a.eval (.tmp 101) = v101 at *
  generalize a.eval (.tmp 102) = v102 at *
  generalize a.eval (.tmp 103) = v103 at *
  generalize a.eval (.tmp 104) = v104 at *
  generalize a.eval (.tmp 105) = v105 at *
  generalize a.eval (.tmp 106) = v106 at *
  generalize a.eval (.tmp 107) = v107 at *
  generalize a.eval (.tmp 108) = v108 at *
  generalize a.eval (.tmp 109) = v109 at *
  generalize a.eval (.tmp 110) = v110 at *
  generalize a.eval (.tmp 111) = v111 at *
  simp only [Act.put, List.setIfInBounds_toArray, List.set_cons_succ, List.set_cons_zero] at ha
  subst ha
  simp only [Reg.Rest, List.drop_succ_cons, List.drop_zero]
  have hB9 : Below w.heap.size w W9 := hB8.trans (hGW9.mono hB8.size)
  have own9 : OwnB W9 W3.heap.size (.slice (some ⟨g0, 0, none⟩) 576 cap0) X' := own8.later hGW9
  have own69 : OwnB W9 W5.heap.size (.slice (some ⟨g1, 0, none⟩) 64 cap1) Y := own68.later hGW9
  have hcell9 := own69.cell q1 hql1
  have hfree9 := own69.free q1
  have s39 : w.heap.size ≤ g1 := by omega
  clear hcell8 hlb hlc hj8 hB8 own8 own68 hGW9 hy1
  go_wp2_with fail
  have own10 := own69.set q1 y1 hyl1
  have own11 := own9.laterB (B := W5.heap.size) (w' := W9.setCell ⟨g1, q1, none⟩ (.int .u8 (y1 : Int))) ((Below.refl _ W9).setCell (p := ⟨g1, q1, none⟩) hgB1 _) (fun r hr => by injection hr with hr; subst hr; exact hg01)
  have hB10 := hB9.setCell (p := ⟨g1, q1, none⟩) s39 (.int .u8 (y1 : Int))
  clear own69 own9 hB9 hcell9 hfree9
  generalize W9.setCell ⟨g1, q1, none⟩ (.int .u8 (y1 : Int)) = W10 at *
  have hYs : (Y.set q1 (UInt8.ofNat y1)).length = 64 := by rw [List.length_set, HY.out]
  generalize Y.set q1 (UInt8.ofNat y1) = Y' at *
  have HYs := Lib.hid hYs
  clear hYs
  have inX : InB W10 W10.heap.size (some ⟨g0, 0, none⟩) cap0 X' := own11.inB'
  have inY : InB W10 W10.heap.size (some ⟨g1, 0, none⟩) cap1 Y' := own10.inB'
  have D1 := decode_gives W10 _ _ _ inX
  rw [HXs.out] at D1
  go_wp2_with fail
  refine D1.mono ?_
  rintro x W11 ⟨hB, hx⟩
  rw [HNX.out] at hx
  have hx : x = .returned (.tuple #[.agg zeroFr, .int .i64 150]) := hx
  subst hx
  have hB11 := hB10.trans (hB.mono hB10.size)
  have D2 := fun W hW => decodeHead_gives W _ _ _ (((inY.below hB).more hB.size).below (w' := W) hW |>.more hW.size)
  rw [HYs.out, decHV_no HNY.out] at D2
  have hz1 := zeroFr_one
  unfold zeroFr at *
  go_wp2_with (first
    | (refine wp_storeW rfl 120 (.tmp 11) (.tmp 117) rfl W11.heap.size rfl rfl rowFrame (BlkIs.new W11 120 _) (by rfl) (by rfl) hz1 ?_))
  have hBs := below_setRow ((Below.refl _ W11).alloc (Nat.le_refl W11.heap.size) (.cells #[.int .u64 0, .int .i64 0, .int .i64 0, .bool false, .int .i64 0, .int .u32 0, .slice none 0 0] 120)) (g := W11.heap.size) (Nat.le_refl _) #[.int .u64 0, .int .i64 0, .int .i64 0, .bool false, .int .i64 0, .int .u32 0, .slice none 0 0]
  refine (D2 _ hBs).mono ?_
  rintro x W12 ⟨rfl, hB⟩
  have hB12 : Below w.heap.size w W12 := hB11.trans ((hBs.mono hB11.size).trans (hB.mono (Nat.le_trans hB11.size hBs.size)))
  clear hBs D2 D1 hB11 hB10
  have hzh := zeroHead_one
  go_wp2_with (first
    | (refine wp_storeW rfl 109 (.tmp 13) (.tmp 122) rfl W12.heap.size rfl rfl rowHead (BlkIs.new W12 109 _) (by rfl) (by rfl) hzh ?_; have hB13 := below_setRow (hB12.alloc hB12.size (.cells #[.int .u64 0, .int .u64 0, .int .i64 0, .int .i64 0] 109)) (g := W12.heap.size) hB12.size #[.int .u64 0, .int .u64 0, .int .i64 0, .int .i64 0])
    | (go_at_call 60; refine (num5_gives _ _).mono ?_; rintro x w' ⟨rfl, rfl⟩)
    | (go_at_call 62; refine (works5_gives _).mono ?_; rintro x W14 ⟨rfl, hB⟩))
  go_ret
  exact ⟨rfl, hB13.trans (hB.mono hB13.size)⟩
end
end Go.Proofs.Ytlelckdcmlpmdaa
namespace Go.Proofs.Ytlelckdcmlpmdaa
open Go Go.RowKit Lou

theorem lawFHolds_walk (e : Nat) (i p : Int) (f : Bool) (z : Int) (n : Nat) (A : Option Addr) (k : Nat) (y : List UInt8) (s e' : Nat) (z' c' : Int) (x0 x1 : Int) (w : World) (hin : InB w w.heap.size A k y) :
    Calls Try.prog 16 #[.agg (frCells e i p f z n A y.length k), .agg #[.int .u64 (s : Int), .int .u64 (e' : Int), .int .i64 z', .int .i64 c'], .agg #[.int .i64 x0, .int .i64 x1]] w fun e w' => e = .returned (.bool true) ∧ Below w.heap.size w w' := by
  cases h1 : frOk y.length i p f z with
  | false => exact lawFHolds_bad e i p f z n A k y s e' z' c' x0 x1 w hin (.inl h1)
  | true =>
    cases h2 : headOk z' c' with
    | false => exact lawFHolds_bad e i p f z n A k y s e' z' c' x0 x1 w hin (.inr h2)
    | true =>
      have hy : y.length = 512 := ((frOk_iff _ _ _ _ _).1 h1).1
      obtain ⟨⟨hz0, hz1⟩, hc0, hc1⟩ := (headOk_iff z' c').1 h2
      obtain ⟨z', rfl⟩ : ∃ n : Nat, z' = n := ⟨z'.toNat, by omega⟩
      obtain ⟨c', rfl⟩ : ∃ n : Nat, c' = n := ⟨c'.toNat, by omega⟩
      have hX := frameB_length (e := e) (i := i.toNat) (p := p.toNat) (f := f) (z := z.toNat) (n := n) hy
      have hY := headW_length s e' z' c'
      have E1 : ∀ W, InB W W.heap.size A k y → Calls Try.prog 74 #[.agg (frCells e i p f z n A y.length k)] W (GivesBE W (frameB (partB e i.toNat p.toNat f z.toNat n) y) 0) := fun W h => by
        have H := encode_gives e i p f z n A k y W h
        rw [show fEnc e i p f z n y = frameB (partB e i.toNat p.toNat f z.toNat n) y by simp [fEnc, h1], show fErr i p f z y = 0 by simp [fErr, h1]] at H
        exact H
      have E2 : ∀ W, Calls Try.prog 70 #[.agg #[.int .u64 (s : Int), .int .u64 (e' : Int), .int .i64 (z' : Int), .int .i64 (c' : Int)]] W (GivesBE W (headW s e' z' c') 0) := fun W => by
        have H := encodeHead_gives s e' z' c' W
        rw [(hEnc_ok (by omega) (by omega)).1, (hEnc_ok (s := s) (e := e') (z := z') (c := c') (by omega) (by omega)).2] at H
        exact H
      by_cases hb : x0 < 0 ∨ (¬ x0 < 0 ∧ 4608 ≤ x0) ∨ (¬ x0 < 0 ∧ ¬ 4608 ≤ x0 ∧ x1 < 0) ∨ (¬ x0 < 0 ∧ ¬ 4608 ≤ x0 ∧ ¬ x1 < 0 ∧ 512 ≤ x1)
      · exact lawFHolds_bits e i p f z n A k y s e' z' c' w _ _ x0 x1 hin hX hY E1 E2 hb
      · obtain ⟨m0, rfl⟩ : ∃ n : Nat, x0 = n := ⟨x0.toNat, by omega⟩
        obtain ⟨m1, rfl⟩ : ∃ n : Nat, x1 = n := ⟨x1.toNat, by omega⟩
        exact lawFHolds_core e i p f z n A k y s e' z' c' w _ _ m0 m1 hin hX hY E1 E2 (by omega) (by omega)
          (fun q hq d hd => isFrame_set hy q (by rw [hX] at hq; exact hq) d hd) (fun q hq d hd => isHead_set q (by rw [hY] at hq; exact hq) d hd)
end Go.Proofs.Ytlelckdcmlpmdaa
