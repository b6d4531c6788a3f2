/- Texts that the proof of DiskHolds leans on, part 12. -/
import Derived.Deep.Slices
import Derived.Deep.Grids
import Derived.Test.YtlelckdcmlpmdaaDiskHoldsB11
/- loupelaw04.DiskHolds: the walk. -/
namespace Go.Proofs.Ytlelckdcmlpmdaa
open Go Go.RowKit Lou

/-- Where the law stands: a disk at p, the law's box at a4, two rows of bytes at a9 and a10. -/
structure DSt (w0 wr : World) (p n a4 a9 a10 : Nat) (box : Array Value) (g : Nat → List UInt8) (xs : List (Nat × List UInt8)) (l9 l10 : List UInt8) : Prop where
  disk : DkIs wr p n g xs 0 false
  b4 : BlkIs wr a4 23 box
  b9 : BlkIs wr a9 5 (l9.map b8).toArray
  b10 : BlkIs wr a10 5 (l10.map b8).toArray
  bel : Below w0.heap.size w0 wr
  n9 : l9.length = n
  n10 : l10.length = n
section
variable {w0 wr : World} {p n a4 a9 a10 : Nat} {box : Array Value} {g : Nat → List UInt8} {xs : List (Nat × List UInt8)} {l9 l10 : List UInt8}
theorem DSt.grow (h : DSt w0 wr p n a4 a9 a10 box g xs l9 l10) {w' : World} (hB : Below wr.heap.size wr w') : DSt w0 w' p n a4 a9 a10 box g xs l9 l10 :=
  ⟨h.disk.grow hB, h.b4.below hB h.b4.lt, h.b9.below hB h.b9.lt, h.b10.below hB h.b10.lt, h.bel.trans (hB.mono h.bel.size), h.n9, h.n10⟩
theorem DSt.step (h : DSt w0 wr p n a4 a9 a10 box g xs l9 l10) {w' : World} {g' : Nat → List UInt8} {xs' : List (Nat × List UInt8)} (hD : DkIs w' p n g' xs' 0 false) (hg : wr.grownBy w' (some p)) (h4 : a4 ≠ p) (h9 : a9 ≠ p) (h10 : a10 ≠ p) (hp : w0.heap.size ≤ p) : DSt w0 w' p n a4 a9 a10 box g' xs' l9 l10 :=
  ⟨hD, h.b4.grown hg (fun e => h4 (by injection e)), h.b9.grown hg (fun e => h9 (by injection e)), h.b10.grown hg (fun e => h10 (by injection e)), h.bel.trans (grown_below hg h.bel.size (fun r e => by injection e with e; omega)), h.n9, h.n10⟩
theorem DSt.set9 (h : DSt w0 wr p n a4 a9 a10 box g xs l9 l10) (j : Nat) (b : UInt8) (hp : p ≠ a9) (h4 : a4 ≠ a9) (h10 : a10 ≠ a9) (hn : n ≤ 12) (h0 : w0.heap.size ≤ a9) : DSt w0 (wr.setCell ⟨a9, j, none⟩ (.int .u8 (b.toNat : Int))) p n a4 a9 a10 box g xs (l9.set j b) l10 := by
  have hg : wr.grownBy (wr.setCell ⟨a9, j, none⟩ (.int .u8 (b.toNat : Int))) (some a9) := setCell_grownBy wr ⟨a9, j, none⟩ _
  refine ⟨h.disk.other h.b9 (by simp [h.n9]; omega) hp hg, h.b4.other h4 _, ?_, h.b10.other h10 _, h.bel.setCell h0 _, by rw [List.length_set, h.n9], h.n10⟩
  rw [← set_b8]
  exact h.b9.set j _
theorem DSt.set10 (h : DSt w0 wr p n a4 a9 a10 box g xs l9 l10) (j : Nat) (b : UInt8) (hp : p ≠ a10) (h4 : a4 ≠ a10) (h9 : a9 ≠ a10) (hn : n ≤ 12) (h0 : w0.heap.size ≤ a10) : DSt w0 (wr.setCell ⟨a10, j, none⟩ (.int .u8 (b.toNat : Int))) p n a4 a9 a10 box g xs l9 (l10.set j b) := by
  have hg : wr.grownBy (wr.setCell ⟨a10, j, none⟩ (.int .u8 (b.toNat : Int))) (some a10) := setCell_grownBy wr ⟨a10, j, none⟩ _
  refine ⟨h.disk.other h.b10 (by simp [h.n10]; omega) hp hg, h.b4.other h4 _, h.b9.other h9 _, ?_, h.bel.setCell h0 _, h.n9, by rw [List.length_set, h.n10]⟩
  rw [← set_b8]
  exact h.b10.set j _
theorem DSt.own15 (h : DSt w0 wr p n a4 a9 a10 box g xs l9 l10) {b m c : Nat} (hc : wr.cell? ⟨p, 2, none⟩ = some (.slice (some ⟨b, 0, none⟩) m c)) {base sz k : Nat} {T : TypeId} {v : Value} {cs : List Value} (own : wr.ownsRow base T sz v k cs) (hp : p < base) (h4 : a4 < base) (h9 : a9 < base) (h10 : a10 < base) (h0 : w0.heap.size ≤ base)
    (hb : ∀ r, v.ownBlock = some r → r ≠ b) {w' : World} (hg : wr.grownBy w' v.ownBlock) : DSt w0 w' p n a4 a9 a10 box g xs l9 l10 := by
  cases hv : v.ownBlock with
  | none =>
    rw [hv] at hg
    exact h.grow (grown_below hg (Nat.le_refl _) (fun r e => by cases e))
  | some r =>
    rw [hv] at hg
    have hr := ownG_ge own r hv
    have hbl : ∃ cur, BlkIs wr r T cur := by
      rcases own.2 with ⟨rfl, _⟩ | ⟨g', cap, cur, rfl, _, hq, _⟩
      · cases hv
      · injection hv with hv
        subst hv
        exact ⟨cur, hq⟩
    obtain ⟨cur, hbl⟩ := hbl
    exact ⟨h.disk.own hc (hb r hv).symm (by omega) hbl hg, h.b4.grown hg (fun e => by injection e with e; omega), h.b9.grown hg (fun e => by injection e with e; omega), h.b10.grown hg (fun e => by injection e with e; omega), h.bel.trans (grown_below hg h.bel.size (fun r' e => by injection e with e; omega)), h.n9, h.n10⟩
theorem DSt.apart (h : DSt w0 wr p n a4 a9 a10 box g xs l9 l10) {q many : Nat} {g' : Nat → List UInt8} {xs' : List (Nat × List UInt8)} {left : Int} {stops : Bool} (hq : DkIs wr q many g' xs' left stops) {w' : World} (hg : wr.grownBy w' (some q)) (hp : p ≠ q) (h4 : a4 ≠ q) (h9 : a9 ≠ q) (h10 : a10 ≠ q) (h0 : w0.heap.size ≤ q) : DSt w0 w' p n a4 a9 a10 box g xs l9 l10 := by
  obtain ⟨r, A, c, hb, _⟩ := hq.has
  exact ⟨h.disk.other hb (by simp [dkC]) hp hg, h.b4.grown hg (fun e => h4 (by injection e)), h.b9.grown hg (fun e => h9 (by injection e)), h.b10.grown hg (fun e => h10 (by injection e)), h.bel.trans (grown_below hg h.bel.size (fun r e => by injection e with e; omega)), h.n9, h.n10⟩
theorem DSt.setB (h : DSt w0 wr p n a4 a9 a10 box g xs l9 l10) {a14 : Nat} {kb : List Bool} (hb : BlkIs wr a14 4 (kb.map Value.bool).toArray) (hk : kb.length ≤ 12) (j : Nat) (b : Bool) (hp : p ≠ a14) (h4 : a4 ≠ a14) (h9 : a9 ≠ a14) (h10 : a10 ≠ a14) (h0 : w0.heap.size ≤ a14) : DSt w0 (wr.setCell ⟨a14, j, none⟩ (.bool b)) p n a4 a9 a10 box g xs l9 l10 := by
  have hg : wr.grownBy (wr.setCell ⟨a14, j, none⟩ (.bool b)) (some a14) := setCell_grownBy wr ⟨a14, j, none⟩ _
  exact ⟨h.disk.other hb (by simp; omega) hp hg, h.b4.other h4 _, h.b9.other h9 _, h.b10.other h10 _, h.bel.setCell h0 _, h.n9, h.n10⟩
end

theorem run_neS {ρ : Operand → Value} {w : World} {o : Oper} {x y : Operand} {T T' : TypeId} {b : ByteArray} (ho : o.op = .binOp .neq T x y T') (hx : ρ x = .string b) (hy : ρ y = .string b) :
    (execOp ρ o).run Try.prog w = .ok (.value (.bool false)) w := by
  simp [execOp, ho, hx, hy, go_sem, Result.andThen, bne]
namespace Reg
section
variable {ops : Array Oper} {L : List (Nat × Fact)} {w0 : World} {o : Oper}
theorem l_idxT (x y : Operand) (g q n c k : Nat) (hk : k < n) (ho : o.op = .indexAddr 24 x y) (hx : Has ops (FSof L) o x (.slice (some ⟨g, q, none⟩) n c)) (hy : Has ops (FSof L) o y (.int .i64 (k : Int))) (hd : FD L o.dst = .val (.pointer (some ⟨g, q + k, none⟩))) : RunOk Try.prog ops (FSof L) w0 o := by
  refine run2 x y hx hy (fun ρ w h1 h2 => ?_) fun _ => fsd hd rfl
  have ea : (⟨g, q, none⟩ : Addr).add k = ⟨g, q + k, none⟩ := by cases k <;> simp [Addr.add]
  have k0 : (0 : Int) ≤ (k : Int) := by omega
  have k1 : (k : Int) < (n : Int) := by omega
  simp [execOp, ho, h1, h2, go_sem, hk, k0, k1, Result.andThen, ea, Try.underlying24]
end
end Reg
theorem wrap64_byte (x : UInt8) : wrap64 (x.toNat : Int) = (x.toNat : Int) := by
  have := x.toNat_lt
  unfold wrap64
  omega
set_option maxRecDepth 100000 in
set_option maxHeartbeats 8000000 in
theorem lawDisk_out (n : Int) (w : World) (A0 : Option Addr) (c0 : Nat) (ls0 : List (UInt8 × UInt8)) (A1 : Option Addr) (c1 : Nat) (ls1 : List (UInt8 × UInt8)) (K : Option Addr) (kc : Nat) (bs : List Bool)
    (hi0 : InP w w.heap.size A0 c0 ls0) (hi1 : InP w w.heap.size A1 c1 ls1) (hk : InG w w.heap.size 1 K bs.length kc (bs.map Value.bool))
    (hout : n < 1 ∨ (1 ≤ n ∧ 12 < n) ∨ (1 ≤ n ∧ n ≤ 12 ∧ 20 < ls0.length) ∨ (1 ≤ n ∧ n ≤ 12 ∧ ls0.length ≤ 20 ∧ 20 < ls1.length) ∨ (1 ≤ n ∧ n ≤ 12 ∧ ls0.length ≤ 20 ∧ ls1.length ≤ 20 ∧ 40 < bs.length)) :
    Calls Try.prog 3 #[.int .i64 n, .agg #[.slice A0 ls0.length c0, .slice A1 ls1.length c1], .slice K bs.length kc] w fun e w' => e = .returned (.bool true) ∧ Below w.heap.size w w' := by
  have hle0 := hi0.le
  have hle1 := hi1.le
  have hlek := hk.le
  have hb1 : ∀ o, Below w.heap.size w (w.alloc o) := fun o => (Below.refl _ _).alloc (Nat.le_refl _) _
  rcases hout with h | ⟨h1, h⟩ | ⟨h1, h2, h⟩ | ⟨h1, h2, h3, h⟩ | ⟨h1, h2, h3, h4, h⟩
  all_goals
    go_enter Try.func3, Try.ntmps3
    go_wp2_with (go_at_call 18; refine (works4_gives _).mono ?_; rintro e w' ⟨rfl, hB⟩)
    go_ret
    exact ⟨rfl, (hb1 _).trans (hB.mono (hb1 _).size)⟩

set_option maxRecDepth 100000 in
set_option maxHeartbeats 16000000 in
theorem lawDisk_walk (n : Nat) (w : World) (A0 : Option Addr) (c0 : Nat) (ls0 : List (UInt8 × UInt8)) (A1 : Option Addr) (c1 : Nat) (ls1 : List (UInt8 × UInt8)) (K : Option Addr) (kc : Nat) (bs : List Bool)
    (hi0 : InP w w.heap.size A0 c0 ls0) (hi1 : InP w w.heap.size A1 c1 ls1) (hk : InG w w.heap.size 1 K bs.length kc (bs.map Value.bool))
    (h1 : 1 ≤ n) (h2 : n ≤ 12) (h3 : ls0.length ≤ 20) (h4 : ls1.length ≤ 20) (h5 : bs.length ≤ 40) :
    Calls Try.prog 3 #[.int .i64 (n : Int), .agg #[.slice A0 ls0.length c0, .slice A1 ls1.length c1], .slice K bs.length kc] w fun e w' => e = .returned (.bool true) ∧ Below w.heap.size w w' := by
  have hle0 := hi0.le
  have hle1 := hi1.le
  have hlek := hk.le
  have g1 : ¬ (n : Int) < 1 := by omega
  have g2 : ¬ (12 : Int) < (n : Int) := by omega
  have g3 : ¬ (20 : Int) < (ls0.length : Int) := by omega
  have g4 : ¬ (20 : Int) < (ls1.length : Int) := by omega
  have g5 : ¬ (40 : Int) < (bs.length : Int) := by omega
  have hb1 : Below w.heap.size w (w.alloc (.cells #[.slice A0 ls0.length c0, .slice A1 ls1.length c1] 23)) := (Below.refl _ _).alloc (Nat.le_refl _) _
  have b4 := BlkIs.new w 23 #[.slice A0 ls0.length c0, .slice A1 ls1.length c1]
  have hs1 : (w.alloc (.cells #[.slice A0 ls0.length c0, .slice A1 ls1.length c1] 23)).heap.size = w.heap.size + 1 := World.size_alloc _ _
  obtain ⟨W0, hW0⟩ : ∃ W0, W0 = w.alloc (.cells #[.slice A0 ls0.length c0, .slice A1 ls1.length c1] 23) := ⟨_, rfl⟩
  rw [← hW0] at hb1 b4 hs1
  have HW0 := Lib.hid hW0
  clear hW0
  go_enter Try.func3, Try.ntmps3
  go_wp2_with fail
  rw [← HW0.out]
  refine (new_gives W0 n h1 (by omega)).mono ?_
  rintro x W1 ⟨p, rfl, hp, hD1, hB1⟩
  have hp0 : w.heap.size < p := by omega
  have hB01 := hb1.trans (hB1.mono hb1.size)
  have b41 := b4.below hB1 b4.lt
  obtain ⟨Z, hZ⟩ : ∃ Z, Z = ((List.replicate n (0 : UInt8)).map b8).toArray := ⟨_, rfl⟩
  have XM : ∀ {ρ : Operand → Value} {o : Oper} {W : World} {x y : Operand}, o.op = .makeSlice 30 x y → ρ x = .int .i64 (n : Int) → ρ y = .int .i64 (n : Int) → (execOp ρ o).run Try.prog W = .ok (.value (.slice (some ⟨W.heap.size, 0, none⟩) n n)) (W.alloc (.cells Z 5)) := fun h1 h2 h3 => by
    rw [hZ]
    exact x_makeB h1 h2 h3 (by omega)
  have n9 := BlkIs.new W1 5 Z
  have n10 := BlkIs.new (W1.alloc (.cells Z 5)) 5 Z
  have hBa : Below W1.heap.size W1 (W1.alloc (.cells Z 5)) := (Below.refl _ _).alloc (Nat.le_refl _) _
  have hBb : Below (W1.alloc (.cells Z 5)).heap.size (W1.alloc (.cells Z 5)) ((W1.alloc (.cells Z 5)).alloc (.cells Z 5)) := (Below.refl _ _).alloc (Nat.le_refl _) _
  have hBab := hBa.trans (hBb.mono hBa.size)
  have e9 : (W1.alloc (.cells Z 5)).heap.size = W1.heap.size + 1 := World.size_alloc _ _
  have S0 : DSt w ((W1.alloc (.cells Z 5)).alloc (.cells Z 5)) p n w.heap.size W1.heap.size (W1.heap.size + 1) #[.slice A0 ls0.length c0, .slice A1 ls1.length c1] (fun _ => zer64) [] (List.replicate n 0) (List.replicate n 0) :=
    ⟨hD1.grow hBab, b41.below hBab b41.lt, (by rw [← hZ]; exact n9.below hBb n9.lt), (by rw [← e9, ← hZ]; exact n10), hB01.trans (hBab.mono hB01.size), List.length_replicate, List.length_replicate⟩
  have hpa : p < W1.heap.size := hD1.lt
  clear hZ hB1 b4 hb1 n9 n10 hBa hBb hBab hB01 b41 hD1
  go_wp2_with (refine wp_exec rfl (XM rfl rfl rfl) ?_)
  clear XM
  generalize (W1.alloc (.cells Z 5)).alloc (.cells Z 5) = W3 at *
  obtain ⟨a9, ha9⟩ : ∃ a9, a9 = W1.heap.size := ⟨_, rfl⟩
  rw [← ha9] at S0 hpa ⊢
  clear e9 ha9
  obtain ⟨a10, ha10⟩ : ∃ a10, a10 = a9 + 1 := ⟨_, rfl⟩
  rw [← ha10] at S0 ⊢
  obtain ⟨a4, ha4⟩ : ∃ a4, a4 = w.heap.size := ⟨_, rfl⟩
  rw [← ha4] at S0 ⊢
  have q1 : a4 ≠ p := by omega
  have q2 : a9 ≠ p := by omega
  have q3 : a10 ≠ p := by omega
  have q4 : a4 ≠ a9 := by omega
  have q5 : a4 ≠ a10 := by omega
  have q6 : a9 ≠ a10 := by omega
  have q7 : w.heap.size ≤ p := by omega
  have q8 : w.heap.size ≤ a9 := by omega
  have q9 : w.heap.size ≤ a10 := by omega
  clear ha4 ha10
  go_loopw [11] (fun i wr => ∃ (k : Nat) (xs : List (Nat × List UInt8)) (l : List UInt8), k ≤ ls0.length ∧ i = .int .i64 k ∧ xs.length = k ∧ DSt w wr p n a4 a9 a10 #[.slice A0 ls0.length c0, .slice A1 ls1.length c1] (fun _ => zer64) xs l l ∧ Full (laid (fun _ => zer64) xs) l) (fun i _ => ls0.length - (intOf i).toNat)
  case atStart => exact ⟨0, [], _, by omega, rfl, rfl, S0, full_zero n⟩
  case round =>
    obtain ⟨k, xs, l, hkl, rfl, hxk, S, hF⟩ := hrel
    have c40 : wr.cell? ⟨a4, 0, none⟩ = some (.slice A0 ls0.length c0) := by rw [S.b4.cell]; rfl
    by_cases hlt : k < ls0.length
    · obtain ⟨gA, oA, rfl, hgA, hrA⟩ := hi0.lies (by omega)
      obtain ⟨hx1, hx2⟩ := hrA k hlt
      generalize ls0[k] = x at hx1 hx2
      obtain ⟨x1, x2⟩ := x
      have d1 : wr.cell? ⟨gA, oA + k * 2, none⟩ = some (.int .u8 (x1.toNat : Int)) := (S.bel.cell (p := ⟨gA, oA + k * 2, none⟩) hgA).trans hx1
      have d2 : wr.cell? ⟨gA, oA + k * 2 + 1, none⟩ = some (.int .u8 (x2.toNat : Int)) := (S.bel.cell (p := ⟨gA, oA + k * 2 + 1, none⟩) hgA).trans hx2
      have hat0 : (wrap64 (x1.toNat : Int)).tmod (n : Int) = ((x1.toNat % n : Nat) : Int) := by rw [wrap64_byte x1, rem_byte _ n x1.toNat_lt h1 h2]
      have hatn : x1.toNat % n < n := Nat.mod_lt _ (by omega)
      generalize x1.toNat % n = at_ at hat0 hatn
      go_wp2_with fail
      clear hat0
      refine (sec4_gives wr x2).mono ?_
      rintro x W2 ⟨v2, rfl, own2, hB2⟩
      obtain ⟨A2, c2, rfl, hin2⟩ := own2.inB
      have S2 := S.grow hB2
      have hs64 : (secL x2).length = 64 := by simp [secL]
      go_wp2_with fail
      refine (write_ok W2 p n _ xs 0 false S2.disk rfl at_ hatn A2 c2 (secL x2) hs64 hin2 (by omega) (by decide) (by decide)).mono ?_
      rintro x W3 ⟨rfl, hD3, hg3, -⟩
      have S3 := S2.step hD3 hg3 q1 q2 q3 q7
      clear own2 hB2 hin2 hD3 hg3 S2 hs64 c40 d1 d2
      go_wp2_with (go_at_call 20; refine (num4_gives _ _).mono ?_; rintro x W ⟨rfl, rfl⟩)
      have S5 := S3.set9 at_ x2 q2.symm q4 q6.symm h2 q8
      have S6 := S5.set10 at_ x2 q3.symm q5 q6 h2 q9
      have k9 : W3.cell? ⟨a9, at_, none⟩ = some (b8 (l[at_]'(by rw [S3.n9]; exact hatn))) := by rw [S3.b9.cell]; simp [S3.n9, hatn]
      have f9 := S3.b9.free at_
      have k10 : W3.cell? ⟨a10, at_, none⟩ = some (b8 (l[at_]'(by rw [S3.n9]; exact hatn))) := by rw [S3.b10.cell]; simp [S3.n9, hatn]
      have f10 := S3.b10.free at_
      have q6' := q6.symm
      have S4d := S3.grow (Below.refl _ W3).drew
      have S5d := S5.grow (Below.refl _ _).drew
      have S6d := S6.grow (Below.refl _ _).drew
      have hSd : (W3.drew).cell? ⟨a4, 0, none⟩ = some (.slice (some ⟨gA, oA, none⟩) ls0.length c0) ∧ (W3.drew).cell? ⟨gA, oA + k * 2 + 1, none⟩ = some (.int .u8 (x2.toNat : Int)) := ⟨by rw [S4d.b4.cell]; rfl, (S4d.bel.cell (p := ⟨gA, oA + k * 2 + 1, none⟩) hgA).trans hx2⟩
      have hSs : ((W3.setCell ⟨a9, at_, none⟩ (.int .u8 (x2.toNat : Int))).drew).cell? ⟨a4, 0, none⟩ = some (.slice (some ⟨gA, oA, none⟩) ls0.length c0) ∧ ((W3.setCell ⟨a9, at_, none⟩ (.int .u8 (x2.toNat : Int))).drew).cell? ⟨gA, oA + k * 2 + 1, none⟩ = some (.int .u8 (x2.toNat : Int)) := ⟨by rw [S5d.b4.cell]; rfl, (S5d.bel.cell (p := ⟨gA, oA + k * 2 + 1, none⟩) hgA).trans hx2⟩
      have hSt : (((W3.setCell ⟨a9, at_, none⟩ (.int .u8 (x2.toNat : Int))).setCell ⟨a10, at_, none⟩ (.int .u8 (x2.toNat : Int))).drew).cell? ⟨a4, 0, none⟩ = some (.slice (some ⟨gA, oA, none⟩) ls0.length c0) ∧ (((W3.setCell ⟨a9, at_, none⟩ (.int .u8 (x2.toNat : Int))).setCell ⟨a10, at_, none⟩ (.int .u8 (x2.toNat : Int))).drew).cell? ⟨gA, oA + k * 2 + 1, none⟩ = some (.int .u8 (x2.toNat : Int)) := ⟨by rw [S6d.b4.cell]; rfl, (S6d.bel.cell (p := ⟨gA, oA + k * 2 + 1, none⟩) hgA).trans hx2⟩
      have h0at : (0 : Int) ≤ (at_ : Int) := by omega
      have hatn' : (at_ : Int) < (n : Int) := by omega
      go_region_held3 (fun W => W.cell? ⟨a4, 0, none⟩ = some (.slice (some ⟨gA, oA, none⟩) ls0.length c0) ∧ W.cell? ⟨gA, oA + k * 2 + 1, none⟩ = some (.int .u8 (x2.toNat : Int))) (first | exact hSd | exact hSs | exact hSt) (fail)
      generalize ((W3.setCell ⟨a9, at_, none⟩ (.int .u8 (x2.toNat : Int))).setCell ⟨a10, at_, none⟩ (.int .u8 (x2.toNat : Int))).drew = W7 at *
      clear S3 S4d S5 S5d S6 hSd hSs hSt k9 f9 k10 f10
      have hwk : IntKind.i64.wrap ((k : Int) + 1) = (k : Int) + 1 := wrap_i64_fr _ (by omega) (by omega)
      go_wp2
      exact ⟨⟨k + 1, xs ++ [(at_, secL x2)], l.set at_ x2, by omega, by simp, by simp [hxk], S6d, full_write hF at_ x2⟩, by simp [intOf]; omega⟩
    · obtain rfl : k = ls0.length := by omega
      clear S0
      go_wp2_with fail
      refine (sync_gives wr p n _ xs 0 false S.disk rfl (by omega) (by decide) (by decide)).mono ?_
      rintro x W4 ⟨rfl, hD4, hg4⟩
      have S4 := S.step hD4 hg4 q1 q2 q3 q7
      obtain ⟨G, hG⟩ : ∃ G, G = laid (fun _ => zer64) xs := ⟨_, rfl⟩
      rw [← hG] at S4 hF
      have hGl : ∀ m, (G m).length = 64 := by
        obtain ⟨r, A, c, hb, hm, hx⟩ := S4.disk.has
        exact hm.len
      clear hG hD4 hg4 S c40
      obtain ⟨T, hT⟩ : ∃ T, T = ((List.replicate n false).map Value.bool).toArray := ⟨_, rfl⟩
      have XT : ∀ {ρ : Operand → Value} {o : Oper} {W : World} {x y : Operand}, o.op = .makeSlice 24 x y → ρ x = .int .i64 (n : Int) → ρ y = .int .i64 (n : Int) → (execOp ρ o).run Try.prog W = .ok (.value (.slice (some ⟨W.heap.size, 0, none⟩) n n)) (W.alloc (.cells T 4)) := fun h1 h2 h3 => by
        rw [hT]
        exact x_makeT h1 h2 h3 (by omega)
      have n14 : BlkIs (W4.alloc (.cells T 4)) W4.heap.size 4 ((List.replicate n false).map Value.bool).toArray := by rw [← hT]; exact BlkIs.new W4 4 T
      have S5 := S4.grow ((Below.refl _ W4).alloc (Nat.le_refl _) (.cells T 4))
      have hs14 : (W4.alloc (.cells T 4)).heap.size = W4.heap.size + 1 := World.size_alloc _ _
      have p4 := S4.b4.lt
      have p9 := S4.b9.lt
      have p10 := S4.b10.lt
      have pp := S4.disk.lt
      have pw := S4.bel.size
      clear hT S4
      go_wp2_with (refine wp_exec rfl (XT rfl rfl rfl) ?_)
      clear XT
      generalize W4.alloc (.cells T 4) = W5 at *
      obtain ⟨a14, ha14⟩ : ∃ a14, a14 = W4.heap.size := ⟨_, rfl⟩
      rw [← ha14] at n14 hs14 p4 p9 p10 pp pw ⊢
      obtain ⟨base, hbase⟩ : ∃ base, base = W5.heap.size := ⟨_, rfl⟩
      have u0 : a14 < base := by omega
      have u1 : p ≠ a14 := by omega
      have u4 : a4 ≠ a14 := by omega
      have u9 : a9 ≠ a14 := by omega
      have u10 : a10 ≠ a14 := by omega
      have u14 : w.heap.size ≤ a14 := pw
      have HB := Lib.hid hbase
      clear ha14 hbase hs14
      go_loopw [15, 16] (fun v i wr => ∃ (k : Nat) (xs : List (Nat × List UInt8)) (m : List UInt8) (kb : List Bool) (A : Option Addr) (c : Nat), k ≤ ls1.length ∧ i = .int .i64 k ∧ v = .slice A k c ∧ xs.length = k ∧ DSt w wr p n a4 a9 a10 #[.slice A0 ls0.length c0, .slice A1 ls1.length c1] G xs l m ∧ BlkIs wr a14 4 (kb.map Value.bool).toArray ∧ kb.length = n ∧ Full (laid G xs) m ∧ Kept kb xs bs ∧ wr.ownsRow base 4 1 (.slice A k c) k (List.replicate k (.bool true)) ∧ base ≤ wr.heap.size) (fun _ i _ => ls1.length - (intOf i).toNat)
      case atStart => exact ⟨0, [], l, List.replicate n false, none, 0, by omega, rfl, rfl, rfl, S5, n14, List.length_replicate, hF, kept_none _ _, World.ownsRow_nil _ _ _ _, Nat.le_of_eq HB.out⟩
      case round =>
        obtain ⟨k, ys, m, kb, A, c, hkl, rfl, rfl, hyk, S, b14, n14, hF2, hK, own, hbs⟩ := hrel
        have c41 : wr.cell? ⟨a4, 1, none⟩ = some (.slice A1 ls1.length c1) := by rw [S.b4.cell]; rfl
        by_cases hlt : k < ls1.length
        · obtain ⟨gA, oA, rfl, hgA, hrA⟩ := hi1.lies (by omega)
          obtain ⟨hx1, hx2⟩ := hrA k hlt
          generalize ls1[k] = x at hx1 hx2
          obtain ⟨x1, x2⟩ := x
          have d1 : wr.cell? ⟨gA, oA + k * 2, none⟩ = some (.int .u8 (x1.toNat : Int)) := (S.bel.cell (p := ⟨gA, oA + k * 2, none⟩) hgA).trans hx1
          have d2 : wr.cell? ⟨gA, oA + k * 2 + 1, none⟩ = some (.int .u8 (x2.toNat : Int)) := (S.bel.cell (p := ⟨gA, oA + k * 2 + 1, none⟩) hgA).trans hx2
          have hat0 : (wrap64 (x1.toNat : Int)).tmod (n : Int) = ((x1.toNat % n : Nat) : Int) := by rw [wrap64_byte x1, rem_byte _ n x1.toNat_lt h1 h2]
          have hatn : x1.toNat % n < n := Nat.mod_lt _ (by omega)
          generalize x1.toNat % n = at_ at hat0 hatn
          go_wp2_with fail
          clear hat0
          refine (sec4_gives wr x2).mono ?_
          rintro x W2 ⟨v2, rfl, own2, hB2⟩
          obtain ⟨A2, c2, rfl, hin2⟩ := own2.inB
          have S2 := S.grow hB2
          have b142 := b14.below hB2 b14.lt
          have ownb := ownG_grow own hB2
          have hs64 : (secL x2).length = 64 := by simp [secL]
          go_wp2_with fail
          refine (write_ok W2 p n _ ys 0 false S2.disk rfl at_ hatn A2 c2 (secL x2) hs64 hin2 (by omega) (by decide) (by decide)).mono ?_
          rintro x W3 ⟨rfl, hD3, hg3, bL, cL, hcL, hbL⟩
          have S3 := S2.step hD3 hg3 q1 q2 q3 q7
          have b143 := b142.grown hg3 (fun e => u1 (by injection e with e; exact e.symm))
          have own3 := ownG_later ownb (fun r hr => hg3.block r (ownG_lt ownb r hr) (fun e => by injection e with e; have := ownG_ge ownb r hr; omega))
          have hb3 : base ≤ W3.heap.size := Nat.le_trans (Nat.le_trans hbs hB2.size) hg3.size
          have hrb : ∀ r, (Value.slice A k c).ownBlock = some r → r ≠ bL := fun r hr => by have := ownG_lt ownb r hr; omega
          clear own2 hB2 hin2 hD3 hg3 S2 b142 ownb hs64 c41 d1 d2
          have c43 : W3.cell? ⟨a4, 1, none⟩ = some (.slice (some ⟨gA, oA, none⟩) ls1.length c1) := by rw [S3.b4.cell]; rfl
          have d3 : W3.cell? ⟨gA, oA + k * 2 + 1, none⟩ = some (.int .u8 (x2.toNat : Int)) := (S3.bel.cell (p := ⟨gA, oA + k * 2 + 1, none⟩) hgA).trans hx2
          obtain ⟨y10, k10⟩ : ∃ y, W3.cell? ⟨a10, at_, none⟩ = some y := by rw [S3.b10.cell]; simp [S3.n10, hatn]
          have f10 := S3.b10.free at_
          have S4 := S3.set10 at_ x2 q3.symm q5 q6 h2 q9
          have b144 := b143.other (p := ⟨a10, at_, none⟩) (by exact u10.symm) (.int .u8 (x2.toNat : Int))
          have own4 := ownG_later own3 (fun r hr => Below.heap_setCell W3 ⟨a10, at_, none⟩ (.int .u8 (x2.toNat : Int)) r (fun e => by have h7 := ownG_ge own3 r hr; have h8 : r = a10 := e; omega))
          have hcL4 : (W3.setCell ⟨a10, at_, none⟩ (.int .u8 (x2.toNat : Int))).cell? ⟨p, 2, none⟩ = some (.slice (some ⟨bL, 0, none⟩) (ys.length + 1) cL) := by rw [World.cell?_setCell_other _ _ _ _ (fun e => q3 (by injection e))]; exact hcL
          obtain ⟨W4, hW4⟩ : ∃ W4, W4 = W3.setCell ⟨a10, at_, none⟩ (.int .u8 (x2.toNat : Int)) := ⟨_, rfl⟩
          rw [← hW4] at S4 b144 own4 hcL4
          have HW4 := Lib.hid hW4
          clear hW4 S3 b143 own3 hcL
          have hb4 : base ≤ W4.heap.size := by rw [HW4.out, World.size_setCell]; exact hb3
          have hBa4 : Below W4.heap.size W4 (W4.alloc (.cells #[.bool true] 4)) := (Below.refl _ _).alloc (Nat.le_refl _) _
          have HRW : Hid (InG (W4.alloc (.cells #[.bool true] 4)) (W4.alloc (.cells #[.bool true] 4)).heap.size 1 (some ⟨W3.heap.size, 0, none⟩) 1 1 [.bool true]) := Lib.hid (by
            have hs4 : W4.heap.size = W3.heap.size := by rw [HW4.out, World.size_setCell]
            rw [← hs4]
            exact row_true W4 true)
          have S4a := S4.grow hBa4
          have b14a := b144.below hBa4 b144.lt
          have owna := ownG_grow own4 hBa4
          have hcLa : (W4.alloc (.cells #[.bool true] 4)).cell? ⟨p, 2, none⟩ = some (.slice (some ⟨bL, 0, none⟩) (ys.length + 1) cL) := (hBa4.cell (p := ⟨p, 2, none⟩) S4.disk.lt).trans hcL4
          have hba : base ≤ (W4.alloc (.cells #[.bool true] 4)).heap.size := Nat.le_trans hb4 hBa4.size
          have hatk : at_ < kb.length := by omega
          obtain ⟨nv, hnv⟩ : ∃ nv, nv = (kb[at_] || bs.getD ys.length false) := ⟨_, rfl⟩
          have hK6 := kept_write hK at_ hatk (secL x2)
          rw [← hnv] at hK6
          obtain ⟨kv, hkv⟩ : ∃ kv, kv = kb[at_] := ⟨_, rfl⟩
          rw [← hkv, hyk] at hnv
          have D : (kv = true ∧ nv = true) ∨ (kv = false ∧ ¬ ((k : Int) < (bs.length : Int)) ∧ nv = false) ∨ (kv = false ∧ (k : Int) < (bs.length : Int) ∧ ∃ gK oK, K = some ⟨gK, oK, none⟩ ∧ gK < w.heap.size ∧ w.cell? ⟨gK, oK + k, none⟩ = some (.bool nv)) := by
            cases kv with
            | true => exact .inl ⟨rfl, by rw [hnv]; rfl⟩
            | false =>
              rw [Bool.false_or] at hnv
              by_cases hkl : k < bs.length
              · refine .inr (.inr ⟨rfl, by omega, ?_⟩)
                obtain ⟨gK, oK, e, hgK, hrK⟩ := hk.lies (by omega)
                refine ⟨gK, oK, e, hgK, hrK k _ ?_⟩
                rw [hnv, List.getElem?_map, List.getD_eq_getElem?_getD, List.getElem?_eq_getElem hkl]
                rfl
              · exact .inr (.inl ⟨rfl, by omega, by rw [hnv, List.getD_eq_getElem?_getD, List.getElem?_eq_none (by omega)]; rfl⟩)
          have hkv' : (kb.map Value.bool).toArray[at_]? = some (.bool kv) := by rw [hkv]; simp [hatk]
          have HKV := Lib.hid hkv'
          have h0k : (0 : Int) ≤ (k : Int) := by omega
          have h0at : (0 : Int) ≤ (at_ : Int) := by omega
          have hatn' : (at_ : Int) < (n : Int) := by omega
          have HRL := Lib.hid hrb
          have hwk : IntKind.i64.wrap ((k : Int) + 1) = (k : Int) + 1 := wrap_i64_fr _ (by omega) (by omega)
          clear hnv hkv hkv' hK S4 b144 own4 hcL4 hrb
          rcases D with ⟨rfl, rfl⟩ | ⟨rfl, hkb, rfl⟩ | ⟨rfl, hkb, gK, oK, rfl, hgK, hcK⟩
          all_goals
            go_wp2_with (first
              | (go_at_call 20; refine (num4_gives _ _).mono ?_; rintro x W ⟨rfl, rfl⟩)
              | (at_builtin; rw [← HW4.out]; refine wp_appG rfl elBool (.tmp 146) (.tmp 147) rfl base (.slice A k c) k (List.replicate k (.bool true)) rfl owna _ _ 1 1 [.bool true] rfl HRW.out (by unfold maxLen; omega) (by omega) hba ?_; intro v5 w5 own5 hg5; have S5 := S4a.own15 hcLa owna (by omega) (by omega) (by omega) (by omega) (by omega) HRL.out hg5; have b145 := b14a.grown hg5 (fun e => by have := ownG_ge owna _ e.symm; omega); have k14 : w5.cell? ⟨a14, at_, none⟩ = some _ := (b145.cell at_).trans HKV.out; have f14 := b145.free at_; have hK5 := fun g o v (hg : g < w.heap.size) (hc : w.cell? ⟨g, o, none⟩ = some v) => (S5.bel.cell (p := ⟨g, o, none⟩) hg).trans hc; (try have hcK5 := hK5 _ _ _ hgK hcK); clear hK5))
          all_goals
            obtain ⟨A5, c5, rfl, _⟩ := ownG_in own5 (fun v hv => by
              rcases List.mem_append.1 hv with h | h
              · obtain rfl := List.eq_of_mem_replicate h; rfl
              · obtain rfl := List.mem_singleton.1 h; rfl)
            refine ⟨⟨k + 1, ys ++ [(at_, secL x2)], m.set at_ x2, kb.set at_ _, A5, c5, by omega, by simp, by simp, by simp [hyk], S5.setB b145 (by omega) at_ _ u1 u4 u9 u10 u14, (by rw [← set_bool]; exact b145.set at_ _), by simp [n14], full_write hF2 at_ x2, hK6, ?_, ?_⟩, by simp [intOf]; omega⟩
            · rw [List.replicate_succ']
              exact ownG_later own5 (fun r hr => Below.heap_setCell w5 ⟨a14, at_, none⟩ _ r (fun e => by have h7 := ownG_ge own5 r hr; have h8 : r = a14 := e; omega))
            · rw [World.size_setCell]
              exact Nat.le_trans hba hg5.size
        · obtain rfl : k = ls1.length := by omega
          clear S5
          go_wp2_with fail
          clear c41
          refine (copy_gives wr p n G ys 0 false S.disk (by omega)).mono ?_
          rintro x W6 ⟨q, rfl, hq, hDq, hB6⟩
          have r4 := S.b4.lt
          have r9 := S.b9.lt
          have r10 := S.b10.lt
          have rp := S.disk.lt
          have r14 := b14.lt
          have S6 := S.grow hB6
          have b146 := b14.below hB6 b14.lt
          have own6 := ownG_grow own hB6
          have k6 := hk.grow S6.bel
          have t1 : p ≠ q := by omega
          have t4 : a4 ≠ q := by omega
          have t9 : a9 ≠ q := by omega
          have t10 : a10 ≠ q := by omega
          have t14 : a14 ≠ q := by omega
          have tq : w.heap.size ≤ q := by omega
          clear S b14 own hB6 r4 r9 r10 rp r14
          go_wp2_with fail
          refine (crash_gives W6 p n G ys 0 false S6.disk bs.length (by omega) K kc bs k6 (by omega)).mono ?_
          rintro x W7 ⟨rfl, hD7, hg7⟩
          have S7 := S6.step hD7 hg7 q1 q2 q3 q7
          have hDq7 : DkIs W7 q n G ys 0 false := by
            obtain ⟨r, A', c', hb, _⟩ := S6.disk.has
            exact hDq.other hb (by simp [dkC]) (fun e => t1 e.symm) hg7
          have b147 := b146.grown hg7 (fun e => u1 (by injection e with e; exact e.symm))
          have own7 := ownG_later own6 (fun r hr => hg7.block r (ownG_lt own6 r hr) (fun e => by injection e with e; have := ownG_ge own6 r hr; omega))
          have hin7 : InG W7 W7.heap.size 1 A ls1.length c ((List.replicate ls1.length true).map Value.bool) := by
            rw [List.map_replicate]
            obtain ⟨A', c', e, h⟩ := ownG_in own7 (fun v hv => by obtain rfl := List.eq_of_mem_replicate hv; rfl)
            injection e with e1 e2 e3
            subst e1 e3
            exact h
          have HC : Calls Try.prog 25 #[.pointer (some ⟨q, 0, none⟩), .int .i64 0, .slice A ls1.length c] W7 fun e w' => e = .returned (.int .i64 0) ∧ DkIs w' q n (laid G ys) [] 0 false ∧ W7.grownBy w' (some q) := by
            have h := crash_gives W7 q n G ys 0 false hDq7 0 (by decide) A c (List.replicate ls1.length true) (by rw [List.length_replicate]; exact hin7) (by omega)
            rw [List.length_replicate, crash_all G ys _ (fun j hj => by rw [List.getD_eq_getElem?_getD, List.getElem?_replicate, if_pos (by omega)]; rfl)] at h
            exact h
          clear S6 hDq b146 own6 k6 hD7 hg7 own7 hin7
          go_wp2_with fail
          refine HC.mono ?_
          rintro x W8 ⟨rfl, hD8, hg8⟩
          have S8 := S7.apart hDq7 hg8 t1 t4 t9 t10 tq
          have b148 := b147.grown hg8 (fun e => t14 (by injection e))
          clear HC S7 hDq7 b147 hg8
          have hGP : ∀ k, kb[k]? = some false → laid G (torn G (keptTo ys bs ys.length) bs.length) k = G k := fun k h => crash_away G ys bs _ k (hK k h)
          generalize laid G (torn G (keptTo ys bs ys.length) bs.length) = GP at *
          generalize laid G ys = GQ at *
          clear hK hyk hkl hlt
          have S8d := S8
          go_wp2_with (go_at_call 20; refine (num4_gives _ _).mono ?_; rintro x W ⟨rfl, rfl⟩)
          go_loopw [21] (fun i wr => ∃ (k : Nat), k ≤ n ∧ i = .int .i64 k ∧ DSt w wr p n a4 a9 a10 #[.slice A0 ls0.length c0, .slice A1 ls1.length c1] GP [] l m ∧ DkIs wr q n GQ [] 0 false ∧ BlkIs wr a14 4 (kb.map Value.bool).toArray) (fun i _ => n - (intOf i).toNat)
          case atStart => exact ⟨0, by omega, rfl, S8d, hD8, b148⟩
          case round =>
            obtain ⟨k, hkl, rfl, S, hDq, b14⟩ := hrel
            by_cases hlt : k < n
            · go_wp2_with fail
              refine (read_gives wr p n GP [] 0 false S.disk rfl k hlt (by decide)).mono ?_
              rintro x W2 ⟨qx, rfl, hinX2, hB2⟩
              have S2 := S.grow hB2
              have hDq2 := hDq.grow hB2
              have b142 := b14.below hB2 b14.lt
              replace hinX2 : InB W2 W2.heap.size (some ⟨qx, 0, none⟩) 64 (GP k) := hinX2
              clear S hDq b14 hB2
              go_wp2_with fail
              refine (read_gives W2 q n GQ [] 0 false hDq2 rfl k hlt (by decide)).mono ?_
              rintro x W3 ⟨qy, rfl, hinY2, hB3⟩
              have S3 := S2.grow hB3
              have hDq3 := hDq2.grow hB3
              have b143 := b142.below hB3 b142.lt
              have hinX : InB W3 W3.heap.size (some ⟨qx, 0, none⟩) 64 (GP k) := (hinX2.below hB3).more hB3.size
              have hinY : InB W3 W3.heap.size (some ⟨qy, 0, none⟩) 64 (GQ k) := hinY2
              clear S2 hDq2 b142 hB3 hinX2 hinY2
              have hm9 : k < l.length := by rw [S3.n9]; exact hlt
              have hm10 : k < m.length := by rw [S3.n10]; exact hlt
              have eX : G k = secL l[k] := hF k hm9
              have eY : GQ k = secL m[k] := hF2 k hm10
              have hcy0 : W3.cell? ⟨a10, 0 + k, none⟩ = some (.int .u8 (m[k].toNat : Int)) := by rw [S3.b10.cell, Nat.zero_add]; simp [hm10, b8]
              have hcx0 : W3.cell? ⟨a9, 0 + k, none⟩ = some (.int .u8 (l[k].toNat : Int)) := by rw [S3.b9.cell, Nat.zero_add]; simp [hm9, b8]
              have hk14 : k < kb.length := by omega
              have hck0 : W3.cell? ⟨a14, 0 + k, none⟩ = some (.bool kb[k]) := by rw [b143.cell, Nat.zero_add]; simp [hk14]
              have hGk := hGP k
              rw [List.getElem?_eq_getElem hk14] at hGk
              rw [eY] at hinY
              generalize m[k] = y at hinY hcy0
              generalize l[k] = x at eX hcx0
              generalize kb[k] = kv at hGk hck0
              have hcy : ∀ w', Grow W3 w' → w'.cell? ⟨a10, 0 + k, none⟩ = some (.int .u8 (y.toNat : Int)) := fun w' hg => (hg.cell (p := ⟨a10, 0 + k, none⟩) S3.b10.lt).trans hcy0
              have hcx : ∀ w', Grow W3 w' → w'.cell? ⟨a9, 0 + k, none⟩ = some (.int .u8 (x.toNat : Int)) := fun w' hg => (hg.cell (p := ⟨a9, 0 + k, none⟩) S3.b9.lt).trans hcx0
              have hck' : ∀ w', Grow W3 w' → w'.cell? ⟨a14, 0 + k, none⟩ = some (.bool kv) := fun w' hg => (hg.cell (p := ⟨a14, 0 + k, none⟩) b143.lt).trans hck0
              have hy64 : (secL y).length = 64 := by simp [secL]
              have hx64 : (secL x).length = 64 := by simp [secL]
              have hkn : k < n := hlt
              have hwk : IntKind.i64.wrap ((k : Int) + 1) = (k : Int) + 1 := wrap_i64_fr _ (by omega) (by omega)
              clear hcy0 hcx0 hck0 eY hm9 hm10
              cases kv with
              | true =>
                have hck : ∀ w', Grow W3 w' → w'.cell? ⟨a14, 0 + k, none⟩ = some (.bool true) := hck'
                clear hGk eX hinX hck'
                go_wp2
                open Reg in
                refine region_acts (by kernel_rfl) (by kernel_rfl) 243 rfl (by kernel_rfl) [207, 208, 209, 210, 211, 212, 213, 214, 215, 216, 217, 218, 219, 220, 221, 222, 223, 224, 225, 226, 227, 228, 229, 230, 231, 232, 233, 234, 235, 236, 237, 238, 239, 240, 241] (by kernel_rfl)
                  [(23, .val (.int .i64 0)), (25, .val (.int .i64 0)), (24, .res (secL y)), (10, .val (.slice (some ⟨a10, 0, none⟩) n n)), (14, .val (.slice (some ⟨a14, 0, none⟩) n n)), (21, .val (.int .i64 (k : Int)))]
                  [(207, .val (.int .i64 0)), (208, .val (.int .i64 0)), (209, .val (.int .i64 0)), (210, .val (.int .i64 0)), (211, .val (.int .i64 0)), (212, .val (.bool false)), (213, .val (.bool false)), (214, .res (secL y)), (215, .val (.string (str (secL y)))), (216, .val (.slice (some ⟨a10, 0, none⟩) n n)), (217, .val (.int .i64 (k : Int))), (218, .val (.pointer (some ⟨a10, 0 + k, none⟩))), (219, .val (.int .u8 (y.toNat : Int))), (220, .res (secL y)), (221, .val (.string (str (secL y)))), (222, .val (.bool false)), (223, .val (.bool false)), (224, .val (.bool false)), (225, .val (.slice (some ⟨a14, 0, none⟩) n n)), (226, .val (.int .i64 (k : Int))), (227, .val (.pointer (some ⟨a14, 0 + k, none⟩))), (228, .val (.bool true)), (229, .val (.bool false)), (230, .val (.bool false)), (231, .any), (232, .any), (233, .any), (234, .any), (235, .any), (236, .any), (237, .any), (238, .any), (239, .any), (240, .val ((Go.Value.bool false))), (241, .val ((Go.Value.bool false)))]
                  ⟨rfl, rfl, ⟨_, _, (by rw [hy64]; rfl), hinY⟩, rfl, rfl, rfl, trivial⟩ (by kernel_rfl)
                  (allOk_cons (ok_none rfl (l_mvF 23 (.val (.int .i64 0)) (.inl rfl) (by kernel_rfl) (by kernel_rfl) (by kernel_rfl)))
                  <| allOk_cons (ok_none rfl (l_call 20 _ _ rfl (enters_of Try.func20 (by kernel_rfl) rfl) #[.int .i64 0] (.val (.int .i64 0)) (args1 (hs 207 (.int .i64 0) (by kernel_rfl) (by kernel_rfl))) (fun w hg => gives_num4 _ _) (by kernel_rfl)))
                  <| allOk_cons (ok_none rfl (l_mvF 25 (.val (.int .i64 0)) (.inl rfl) (by kernel_rfl) (by kernel_rfl) (by kernel_rfl)))
                  <| allOk_cons (ok_none rfl (l_call 20 _ _ rfl (enters_of Try.func20 (by kernel_rfl) rfl) #[.int .i64 0] (.val (.int .i64 0)) (args1 (hs 209 (.int .i64 0) (by kernel_rfl) (by kernel_rfl))) (fun w hg => gives_num4 _ _) (by kernel_rfl)))
                  <| allOk_cons (ok_none rfl (l_add (.tmp 208) (.tmp 210) _ _ .i64 0 0 0 rfl Try.underlying3 (hs 208 (.int .i64 0) (by kernel_rfl) (by kernel_rfl)) (hs 210 (.int .i64 0) (by kernel_rfl) (by kernel_rfl)) (by decide) (by kernel_rfl)))
                  <| allOk_cons (ok_none rfl (l_neI (.tmp 211) (.const (.int .i64 0)) _ _ .i64 0 0 false rfl Try.underlying3 (hs 211 _ (by kernel_rfl) (by kernel_rfl)) (hc _) (by decide) (by kernel_rfl)))
                  <| allOk_cons (ok_none rfl (l_mvF 212 (.val (.bool false)) (.inl rfl) (by kernel_rfl) (by kernel_rfl) (by kernel_rfl)))
                  <| allOk_cons (okg 6 false 213 rfl (by kernel_rfl) (by kernel_rfl) (by kernel_rfl) (l_mvF 24 (.res (secL y)) (.inl rfl) (by kernel_rfl) (by kernel_rfl) (by kernel_rfl)))
                  <| allOk_cons (okg 6 false 213 rfl (by kernel_rfl) (by kernel_rfl) (by kernel_rfl) (l_conv 214 (secL y) rfl (by kernel_rfl) (by kernel_rfl) (by kernel_rfl)))
                  <| allOk_cons (okg 6 false 213 rfl (by kernel_rfl) (by kernel_rfl) (by kernel_rfl) (l_mvF 10 (.val (.slice (some ⟨a10, 0, none⟩) n n)) (.inl rfl) (by kernel_rfl) (by kernel_rfl) (by kernel_rfl)))
                  <| allOk_cons (okg 6 false 213 rfl (by kernel_rfl) (by kernel_rfl) (by kernel_rfl) (l_mvF 21 (.val (.int .i64 (k : Int))) (.inl rfl) (by kernel_rfl) (by kernel_rfl) (by kernel_rfl)))
                  <| allOk_cons (okg 6 false 213 rfl (by kernel_rfl) (by kernel_rfl) (by kernel_rfl) (l_idxS (.tmp 216) (.tmp 217) a10 0 n n k hkn rfl (hs 216 (.slice (some ⟨a10, 0, none⟩) n n) (by kernel_rfl) (by kernel_rfl)) (hs 217 (.int .i64 (k : Int)) (by kernel_rfl) (by kernel_rfl)) (by kernel_rfl)))
                  <| allOk_cons (okg 6 false 213 rfl (by kernel_rfl) (by kernel_rfl) (by kernel_rfl) (l_load (.tmp 218) (⟨a10, 0 + k, none⟩) _ (.int .u8 (y.toNat : Int)) (by intro w; simp [go_sem, Try.underlying5]) rfl (hs 218 (.pointer (some ⟨a10, 0 + k, none⟩)) (by kernel_rfl) (by kernel_rfl)) (fun w hg => hcy w hg) (by kernel_rfl)))
                  <| allOk_cons (okg 6 false 213 rfl (by kernel_rfl) (by kernel_rfl) (by kernel_rfl) (l_call 22 _ _ rfl (enters_of Try.func22 (by kernel_rfl) rfl) #[.int .u8 (y.toNat : Int)] (.res (secL y)) (args1 (hs 219 (.int .u8 (y.toNat : Int)) (by kernel_rfl) (by kernel_rfl))) (fun w hg => gives_res (sec4_gives w y)) (by kernel_rfl)))
                  <| allOk_cons (okg 6 false 213 rfl (by kernel_rfl) (by kernel_rfl) (by kernel_rfl) (l_conv 220 (secL y) rfl (by kernel_rfl) (by kernel_rfl) (by kernel_rfl)))
                  <| allOk_cons (okg 6 false 213 rfl (by kernel_rfl) (by kernel_rfl) (by kernel_rfl) (l_run2W (.tmp 215) (.tmp 221) (.val (.bool false)) (.string (str (secL y))) (.string (str (secL y))) (hs 215 _ (by kernel_rfl) (by kernel_rfl)) (hs 221 _ (by kernel_rfl) (by kernel_rfl)) (fun ρ w hg h1 h2 => ⟨_, w, run_neS rfl h1 h2, Grow.refl _, rfl⟩) (by kernel_rfl)))
                  <| allOk_cons (ok_none rfl (l_pickF (.tmp 213) (.const (Go.Value.bool true)) (.tmp 222) (.bool false) rfl (hs 213 (.bool false) (by kernel_rfl) (by kernel_rfl)) (hs 222 (.bool false) (by kernel_rfl) (by kernel_rfl)) (by kernel_rfl)))
                  <| allOk_cons (ok_none rfl (l_mvF 223 (.val (.bool false)) (.inl rfl) (by kernel_rfl) (by kernel_rfl) (by kernel_rfl)))
                  <| allOk_cons (okg 17 false 224 rfl (by kernel_rfl) (by kernel_rfl) (by kernel_rfl) (l_mvF 14 (.val (.slice (some ⟨a14, 0, none⟩) n n)) (.inl rfl) (by kernel_rfl) (by kernel_rfl) (by kernel_rfl)))
                  <| allOk_cons (okg 17 false 224 rfl (by kernel_rfl) (by kernel_rfl) (by kernel_rfl) (l_mvF 21 (.val (.int .i64 (k : Int))) (.inl rfl) (by kernel_rfl) (by kernel_rfl) (by kernel_rfl)))
                  <| allOk_cons (okg 17 false 224 rfl (by kernel_rfl) (by kernel_rfl) (by kernel_rfl) (l_idxT (.tmp 225) (.tmp 226) a14 0 n n k hkn rfl (hs 225 (.slice (some ⟨a14, 0, none⟩) n n) (by kernel_rfl) (by kernel_rfl)) (hs 226 (.int .i64 (k : Int)) (by kernel_rfl) (by kernel_rfl)) (by kernel_rfl)))
                  <| allOk_cons (okg 17 false 224 rfl (by kernel_rfl) (by kernel_rfl) (by kernel_rfl) (l_load (.tmp 227) (⟨a14, 0 + k, none⟩) _ (.bool true) (by intro w; simp [go_sem, Try.underlying4]) rfl (hs 227 (.pointer (some ⟨a14, 0 + k, none⟩)) (by kernel_rfl) (by kernel_rfl)) (fun w hg => hck w hg) (by kernel_rfl)))
                  <| allOk_cons (okg 17 false 224 rfl (by kernel_rfl) (by kernel_rfl) (by kernel_rfl) (l_not (.tmp 228) true rfl (hs 228 _ (by kernel_rfl) (by kernel_rfl)) (by kernel_rfl)))
                  <| allOk_cons (okg 17 false 224 rfl (by kernel_rfl) (by kernel_rfl) (by kernel_rfl) (l_mvF 229 (.val (.bool false)) (.inl rfl) (by kernel_rfl) (by kernel_rfl) (by kernel_rfl)))
                  <| allOk_cons (okg_not 23 true 230 rfl (by kernel_rfl) (by kernel_rfl) (by kernel_rfl) (by kernel_rfl))
                  <| allOk_cons (okg_not 23 true 230 rfl (by kernel_rfl) (by kernel_rfl) (by kernel_rfl) (by kernel_rfl))
                  <| allOk_cons (okg_not 23 true 230 rfl (by kernel_rfl) (by kernel_rfl) (by kernel_rfl) (by kernel_rfl))
                  <| allOk_cons (okg_not 23 true 230 rfl (by kernel_rfl) (by kernel_rfl) (by kernel_rfl) (by kernel_rfl))
                  <| allOk_cons (okg_not 23 true 230 rfl (by kernel_rfl) (by kernel_rfl) (by kernel_rfl) (by kernel_rfl))
                  <| allOk_cons (okg_not 23 true 230 rfl (by kernel_rfl) (by kernel_rfl) (by kernel_rfl) (by kernel_rfl))
                  <| allOk_cons (okg_not 23 true 230 rfl (by kernel_rfl) (by kernel_rfl) (by kernel_rfl) (by kernel_rfl))
                  <| allOk_cons (okg_not 23 true 230 rfl (by kernel_rfl) (by kernel_rfl) (by kernel_rfl) (by kernel_rfl))
                  <| allOk_cons (okg_not 23 true 230 rfl (by kernel_rfl) (by kernel_rfl) (by kernel_rfl) (by kernel_rfl))
                  <| allOk_cons (okg 17 false 224 rfl (by kernel_rfl) (by kernel_rfl) (by kernel_rfl) (l_pickF (.tmp 230) (.tmp 239) (.const (Go.Value.bool false)) ((Go.Value.bool false)) rfl (hs 230 (.bool false) (by kernel_rfl) (by kernel_rfl)) (hc _) (by kernel_rfl)))
                  <| allOk_cons (ok_none rfl (l_pickF (.tmp 224) (.const (Go.Value.bool true)) (.tmp 240) ((Go.Value.bool false)) rfl (hs 224 (.bool false) (by kernel_rfl) (by kernel_rfl)) (hs 240 ((Go.Value.bool false)) (by kernel_rfl) (by kernel_rfl)) (by kernel_rfl)))
                  <| allOk_nil) ?_
                intro a W9 hsz hdef hGW9 hF hU
                have e241 : a.eval (.tmp 241) = (Go.Value.bool false) := hF 241
                have ha := Reg.acts_eq [207, 208, 209, 210, 211, 212, 213, 214, 215, 216, 217, 218, 219, 220, 221, 222, 223, 224, 225, 226, 227, 228, 229, 230, 231, 232, 233, 234, 235, 236, 237, 238, 239, 240, 241] hsz hdef hU
                clear hF hU hdef
                simp only [List.foldl_cons, List.foldl_nil, e241] at ha
                clear e241 hsz
                generalize a.eval (.tmp 207) = v207 at *
                generalize a.eval (.tmp 208) = v208 at *
                generalize a.eval (.tmp 209) = v209 at *
                generalize a.eval (.tmp 210) = v210 at *
                generalize a.eval (.tmp 211) = v211 at *
                generalize a.eval (.tmp 212) = v212 at *
                generalize a.eval (.tmp 213) = v213 at *
                generalize a.eval (.tmp 214) = v214 at *
                generalize a.eval (.tmp 215) = v215 at *
                generalize a.eval (.tmp 216) = v216 at *
                generalize a.eval (.tmp 217) = v217 at *
                generalize a.eval (.tmp 218) = v218 at *
                generalize a.eval (.tmp 219) = v219 at *
                generalize a.eval (.tmp 220) = v220 at *
                generalize a.eval (.tmp 221) = v221 at *
                generalize a.eval (.tmp 222) = v222 at *
                generalize a.eval (.tmp 223) = v223 at *
                generalize a.eval (.tmp 224) = v224 at *
                generalize a.eval (.tmp 225) = v225 at *
                generalize a.eval (.tmp 226) = v226 at *
                generalize a.eval (.tmp 227) = v227 at *
                generalize a.eval (.tmp 228) = v228 at *
                generalize a.eval (.tmp 229) = v229 at *
                generalize a.eval (.tmp 230) = v230 at *
                generalize a.eval (.tmp 231) = v231 at *
                generalize a.eval (.tmp 232) = v232 at *
                generalize a.eval (.tmp 233) = v233 at *
                generalize a.eval (.tmp 234) = v234 at *
                generalize a.eval (.tmp 235) = v235 at *
                generalize a.eval (.tmp 236) = v236 at *
                generalize a.eval (.tmp 237) = v237 at *
                generalize a.eval (.tmp 238) = v238 at *
                generalize a.eval (.tmp 239) = v239 at *
                generalize a.eval (.tmp 240) = v240 at *
                simp only [Act.put, List.setIfInBounds_toArray, List.set_cons_succ, List.set_cons_zero] at ha
                subst ha
                simp only [Exit.then]
                refine ‹∀ (a : Act) (w : World), Code.wp Try.prog _ _ a w → _› _ W9 ?_
                have S9 := S3.grow hGW9
                have hDq9 := hDq3.grow hGW9
                have b149 := b143.below hGW9 b143.lt
                go_wp2
                exact ⟨⟨k + 1, by omega, by simp, S9, hDq9, b149⟩, by simp [intOf]; omega⟩
              | false =>
                have hck : ∀ w', Grow W3 w' → w'.cell? ⟨a14, 0 + k, none⟩ = some (.bool false) := hck'
                rw [hGk rfl, eX] at hinX
                clear hGk eX hck'
                go_wp2
                open Reg in
                refine region_acts (by kernel_rfl) (by kernel_rfl) 243 rfl (by kernel_rfl) [207, 208, 209, 210, 211, 212, 213, 214, 215, 216, 217, 218, 219, 220, 221, 222, 223, 224, 225, 226, 227, 228, 229, 230, 231, 232, 233, 234, 235, 236, 237, 238, 239, 240, 241] (by kernel_rfl)
                  [(23, .val (.int .i64 0)), (25, .val (.int .i64 0)), (24, .res (secL y)), (22, .res (secL x)), (10, .val (.slice (some ⟨a10, 0, none⟩) n n)), (9, .val (.slice (some ⟨a9, 0, none⟩) n n)), (14, .val (.slice (some ⟨a14, 0, none⟩) n n)), (21, .val (.int .i64 (k : Int)))]
                  [(207, .val (.int .i64 0)), (208, .val (.int .i64 0)), (209, .val (.int .i64 0)), (210, .val (.int .i64 0)), (211, .val (.int .i64 0)), (212, .val (.bool false)), (213, .val (.bool false)), (214, .res (secL y)), (215, .val (.string (str (secL y)))), (216, .val (.slice (some ⟨a10, 0, none⟩) n n)), (217, .val (.int .i64 (k : Int))), (218, .val (.pointer (some ⟨a10, 0 + k, none⟩))), (219, .val (.int .u8 (y.toNat : Int))), (220, .res (secL y)), (221, .val (.string (str (secL y)))), (222, .val (.bool false)), (223, .val (.bool false)), (224, .val (.bool false)), (225, .val (.slice (some ⟨a14, 0, none⟩) n n)), (226, .val (.int .i64 (k : Int))), (227, .val (.pointer (some ⟨a14, 0 + k, none⟩))), (228, .val (.bool false)), (229, .val (.bool true)), (230, .val (.bool true)), (231, .res (secL x)), (232, .val (.string (str (secL x)))), (233, .val (.slice (some ⟨a9, 0, none⟩) n n)), (234, .val (.int .i64 (k : Int))), (235, .val (.pointer (some ⟨a9, 0 + k, none⟩))), (236, .val (.int .u8 (x.toNat : Int))), (237, .res (secL x)), (238, .val (.string (str (secL x)))), (239, .val (.bool false)), (240, .val (.bool false)), (241, .val (.bool false))]
                  ⟨rfl, rfl, ⟨_, _, (by rw [hy64]; rfl), hinY⟩, ⟨_, _, (by rw [hx64]; rfl), hinX⟩, rfl, rfl, rfl, rfl, trivial⟩ (by kernel_rfl)
                  (allOk_cons (ok_none rfl (l_mvF 23 (.val (.int .i64 0)) (.inl rfl) (by kernel_rfl) (by kernel_rfl) (by kernel_rfl)))
                  <| allOk_cons (ok_none rfl (l_call 20 _ _ rfl (enters_of Try.func20 (by kernel_rfl) rfl) #[.int .i64 0] (.val (.int .i64 0)) (args1 (hs 207 (.int .i64 0) (by kernel_rfl) (by kernel_rfl))) (fun w hg => gives_num4 _ _) (by kernel_rfl)))
                  <| allOk_cons (ok_none rfl (l_mvF 25 (.val (.int .i64 0)) (.inl rfl) (by kernel_rfl) (by kernel_rfl) (by kernel_rfl)))
                  <| allOk_cons (ok_none rfl (l_call 20 _ _ rfl (enters_of Try.func20 (by kernel_rfl) rfl) #[.int .i64 0] (.val (.int .i64 0)) (args1 (hs 209 (.int .i64 0) (by kernel_rfl) (by kernel_rfl))) (fun w hg => gives_num4 _ _) (by kernel_rfl)))
                  <| allOk_cons (ok_none rfl (l_add (.tmp 208) (.tmp 210) _ _ .i64 0 0 0 rfl Try.underlying3 (hs 208 (.int .i64 0) (by kernel_rfl) (by kernel_rfl)) (hs 210 (.int .i64 0) (by kernel_rfl) (by kernel_rfl)) (by decide) (by kernel_rfl)))
                  <| allOk_cons (ok_none rfl (l_neI (.tmp 211) (.const (.int .i64 0)) _ _ .i64 0 0 false rfl Try.underlying3 (hs 211 _ (by kernel_rfl) (by kernel_rfl)) (hc _) (by decide) (by kernel_rfl)))
                  <| allOk_cons (ok_none rfl (l_mvF 212 (.val (.bool false)) (.inl rfl) (by kernel_rfl) (by kernel_rfl) (by kernel_rfl)))
                  <| allOk_cons (okg 6 false 213 rfl (by kernel_rfl) (by kernel_rfl) (by kernel_rfl) (l_mvF 24 (.res (secL y)) (.inl rfl) (by kernel_rfl) (by kernel_rfl) (by kernel_rfl)))
                  <| allOk_cons (okg 6 false 213 rfl (by kernel_rfl) (by kernel_rfl) (by kernel_rfl) (l_conv 214 (secL y) rfl (by kernel_rfl) (by kernel_rfl) (by kernel_rfl)))
                  <| allOk_cons (okg 6 false 213 rfl (by kernel_rfl) (by kernel_rfl) (by kernel_rfl) (l_mvF 10 (.val (.slice (some ⟨a10, 0, none⟩) n n)) (.inl rfl) (by kernel_rfl) (by kernel_rfl) (by kernel_rfl)))
                  <| allOk_cons (okg 6 false 213 rfl (by kernel_rfl) (by kernel_rfl) (by kernel_rfl) (l_mvF 21 (.val (.int .i64 (k : Int))) (.inl rfl) (by kernel_rfl) (by kernel_rfl) (by kernel_rfl)))
                  <| allOk_cons (okg 6 false 213 rfl (by kernel_rfl) (by kernel_rfl) (by kernel_rfl) (l_idxS (.tmp 216) (.tmp 217) a10 0 n n k hkn rfl (hs 216 (.slice (some ⟨a10, 0, none⟩) n n) (by kernel_rfl) (by kernel_rfl)) (hs 217 (.int .i64 (k : Int)) (by kernel_rfl) (by kernel_rfl)) (by kernel_rfl)))
                  <| allOk_cons (okg 6 false 213 rfl (by kernel_rfl) (by kernel_rfl) (by kernel_rfl) (l_load (.tmp 218) (⟨a10, 0 + k, none⟩) _ (.int .u8 (y.toNat : Int)) (by intro w; simp [go_sem, Try.underlying5]) rfl (hs 218 (.pointer (some ⟨a10, 0 + k, none⟩)) (by kernel_rfl) (by kernel_rfl)) (fun w hg => hcy w hg) (by kernel_rfl)))
                  <| allOk_cons (okg 6 false 213 rfl (by kernel_rfl) (by kernel_rfl) (by kernel_rfl) (l_call 22 _ _ rfl (enters_of Try.func22 (by kernel_rfl) rfl) #[.int .u8 (y.toNat : Int)] (.res (secL y)) (args1 (hs 219 (.int .u8 (y.toNat : Int)) (by kernel_rfl) (by kernel_rfl))) (fun w hg => gives_res (sec4_gives w y)) (by kernel_rfl)))
                  <| allOk_cons (okg 6 false 213 rfl (by kernel_rfl) (by kernel_rfl) (by kernel_rfl) (l_conv 220 (secL y) rfl (by kernel_rfl) (by kernel_rfl) (by kernel_rfl)))
                  <| allOk_cons (okg 6 false 213 rfl (by kernel_rfl) (by kernel_rfl) (by kernel_rfl) (l_run2W (.tmp 215) (.tmp 221) (.val (.bool false)) (.string (str (secL y))) (.string (str (secL y))) (hs 215 _ (by kernel_rfl) (by kernel_rfl)) (hs 221 _ (by kernel_rfl) (by kernel_rfl)) (fun ρ w hg h1 h2 => ⟨_, w, run_neS rfl h1 h2, Grow.refl _, rfl⟩) (by kernel_rfl)))
                  <| allOk_cons (ok_none rfl (l_pickF (.tmp 213) (.const (Go.Value.bool true)) (.tmp 222) (.bool false) rfl (hs 213 (.bool false) (by kernel_rfl) (by kernel_rfl)) (hs 222 (.bool false) (by kernel_rfl) (by kernel_rfl)) (by kernel_rfl)))
                  <| allOk_cons (ok_none rfl (l_mvF 223 (.val (.bool false)) (.inl rfl) (by kernel_rfl) (by kernel_rfl) (by kernel_rfl)))
                  <| allOk_cons (okg 17 false 224 rfl (by kernel_rfl) (by kernel_rfl) (by kernel_rfl) (l_mvF 14 (.val (.slice (some ⟨a14, 0, none⟩) n n)) (.inl rfl) (by kernel_rfl) (by kernel_rfl) (by kernel_rfl)))
                  <| allOk_cons (okg 17 false 224 rfl (by kernel_rfl) (by kernel_rfl) (by kernel_rfl) (l_mvF 21 (.val (.int .i64 (k : Int))) (.inl rfl) (by kernel_rfl) (by kernel_rfl) (by kernel_rfl)))
                  <| allOk_cons (okg 17 false 224 rfl (by kernel_rfl) (by kernel_rfl) (by kernel_rfl) (l_idxT (.tmp 225) (.tmp 226) a14 0 n n k hkn rfl (hs 225 (.slice (some ⟨a14, 0, none⟩) n n) (by kernel_rfl) (by kernel_rfl)) (hs 226 (.int .i64 (k : Int)) (by kernel_rfl) (by kernel_rfl)) (by kernel_rfl)))
                  <| allOk_cons (okg 17 false 224 rfl (by kernel_rfl) (by kernel_rfl) (by kernel_rfl) (l_load (.tmp 227) (⟨a14, 0 + k, none⟩) _ (.bool false) (by intro w; simp [go_sem, Try.underlying4]) rfl (hs 227 (.pointer (some ⟨a14, 0 + k, none⟩)) (by kernel_rfl) (by kernel_rfl)) (fun w hg => hck w hg) (by kernel_rfl)))
                  <| allOk_cons (okg 17 false 224 rfl (by kernel_rfl) (by kernel_rfl) (by kernel_rfl) (l_not (.tmp 228) false rfl (hs 228 _ (by kernel_rfl) (by kernel_rfl)) (by kernel_rfl)))
                  <| allOk_cons (okg 17 false 224 rfl (by kernel_rfl) (by kernel_rfl) (by kernel_rfl) (l_mvF 229 (.val (.bool true)) (.inl rfl) (by kernel_rfl) (by kernel_rfl) (by kernel_rfl)))
                  <| allOk_cons (okg 23 true 230 rfl (by kernel_rfl) (by kernel_rfl) (by kernel_rfl) (l_mvF 22 (.res (secL x)) (.inl rfl) (by kernel_rfl) (by kernel_rfl) (by kernel_rfl)))
                  <| allOk_cons (okg 23 true 230 rfl (by kernel_rfl) (by kernel_rfl) (by kernel_rfl) (l_conv 231 (secL x) rfl (by kernel_rfl) (by kernel_rfl) (by kernel_rfl)))
                  <| allOk_cons (okg 23 true 230 rfl (by kernel_rfl) (by kernel_rfl) (by kernel_rfl) (l_mvF 9 (.val (.slice (some ⟨a9, 0, none⟩) n n)) (.inl rfl) (by kernel_rfl) (by kernel_rfl) (by kernel_rfl)))
                  <| allOk_cons (okg 23 true 230 rfl (by kernel_rfl) (by kernel_rfl) (by kernel_rfl) (l_mvF 21 (.val (.int .i64 (k : Int))) (.inl rfl) (by kernel_rfl) (by kernel_rfl) (by kernel_rfl)))
                  <| allOk_cons (okg 23 true 230 rfl (by kernel_rfl) (by kernel_rfl) (by kernel_rfl) (l_idxS (.tmp 233) (.tmp 234) a9 0 n n k hkn rfl (hs 233 (.slice (some ⟨a9, 0, none⟩) n n) (by kernel_rfl) (by kernel_rfl)) (hs 234 (.int .i64 (k : Int)) (by kernel_rfl) (by kernel_rfl)) (by kernel_rfl)))
                  <| allOk_cons (okg 23 true 230 rfl (by kernel_rfl) (by kernel_rfl) (by kernel_rfl) (l_load (.tmp 235) (⟨a9, 0 + k, none⟩) _ (.int .u8 (x.toNat : Int)) (by intro w; simp [go_sem, Try.underlying5]) rfl (hs 235 (.pointer (some ⟨a9, 0 + k, none⟩)) (by kernel_rfl) (by kernel_rfl)) (fun w hg => hcx w hg) (by kernel_rfl)))
                  <| allOk_cons (okg 23 true 230 rfl (by kernel_rfl) (by kernel_rfl) (by kernel_rfl) (l_call 22 _ _ rfl (enters_of Try.func22 (by kernel_rfl) rfl) #[.int .u8 (x.toNat : Int)] (.res (secL x)) (args1 (hs 236 (.int .u8 (x.toNat : Int)) (by kernel_rfl) (by kernel_rfl))) (fun w hg => gives_res (sec4_gives w x)) (by kernel_rfl)))
                  <| allOk_cons (okg 23 true 230 rfl (by kernel_rfl) (by kernel_rfl) (by kernel_rfl) (l_conv 237 (secL x) rfl (by kernel_rfl) (by kernel_rfl) (by kernel_rfl)))
                  <| allOk_cons (okg 23 true 230 rfl (by kernel_rfl) (by kernel_rfl) (by kernel_rfl) (l_run2W (.tmp 232) (.tmp 238) (.val (.bool false)) (.string (str (secL x))) (.string (str (secL x))) (hs 232 _ (by kernel_rfl) (by kernel_rfl)) (hs 238 _ (by kernel_rfl) (by kernel_rfl)) (fun ρ w hg h1 h2 => ⟨_, w, run_neS rfl h1 h2, Grow.refl _, rfl⟩) (by kernel_rfl)))
                  <| allOk_cons (okg 17 false 224 rfl (by kernel_rfl) (by kernel_rfl) (by kernel_rfl) (l_pickT (.tmp 230) (.tmp 239) (.const (Go.Value.bool false)) (.bool false) rfl (hs 230 (.bool true) (by kernel_rfl) (by kernel_rfl)) (hs 239 (.bool false) (by kernel_rfl) (by kernel_rfl)) (by kernel_rfl)))
                  <| allOk_cons (ok_none rfl (l_pickF (.tmp 224) (.const (Go.Value.bool true)) (.tmp 240) (.bool false) rfl (hs 224 (.bool false) (by kernel_rfl) (by kernel_rfl)) (hs 240 (.bool false) (by kernel_rfl) (by kernel_rfl)) (by kernel_rfl)))
                  <| allOk_nil) ?_
                intro a W9 hsz hdef hGW9 hF hU
                have e241 : a.eval (.tmp 241) = .bool false := hF 241
                have ha := Reg.acts_eq [207, 208, 209, 210, 211, 212, 213, 214, 215, 216, 217, 218, 219, 220, 221, 222, 223, 224, 225, 226, 227, 228, 229, 230, 231, 232, 233, 234, 235, 236, 237, 238, 239, 240, 241] hsz hdef hU
                clear hF hU hdef
                simp only [List.foldl_cons, List.foldl_nil, e241] at ha
                clear e241 hsz
                generalize a.eval (.tmp 207) = v207 at *
                generalize a.eval (.tmp 208) = v208 at *
                generalize a.eval (.tmp 209) = v209 at *
                generalize a.eval (.tmp 210) = v210 at *
                generalize a.eval (.tmp 211) = v211 at *
                generalize a.eval (.tmp 212) = v212 at *
                generalize a.eval (.tmp 213) = v213 at *
                generalize a.eval (.tmp 214) = v214 at *
                generalize a.eval (.tmp 215) = v215 at *
                generalize a.eval (.tmp 216) = v216 at *
                generalize a.eval (.tmp 217) = v217 at *
                generalize a.eval (.tmp 218) = v218 at *
                generalize a.eval (.tmp 219) = v219 at *
                generalize a.eval (.tmp 220) = v220 at *
                generalize a.eval (.tmp 221) = v221 at *
                generalize a.eval (.tmp 222) = v222 at *
                generalize a.eval (.tmp 223) = v223 at *
                generalize a.eval (.tmp 224) = v224 at *
                generalize a.eval (.tmp 225) = v225 at *
                generalize a.eval (.tmp 226) = v226 at *
                generalize a.eval (.tmp 227) = v227 at *
                generalize a.eval (.tmp 228) = v228 at *
                generalize a.eval (.tmp 229) = v229 at *
                generalize a.eval (.tmp 230) = v230 at *
                generalize a.eval (.tmp 231) = v231 at *
                generalize a.eval (.tmp 232) = v232 at *
                generalize a.eval (.tmp 233) = v233 at *
                generalize a.eval (.tmp 234) = v234 at *
                generalize a.eval (.tmp 235) = v235 at *
                generalize a.eval (.tmp 236) = v236 at *
                generalize a.eval (.tmp 237) = v237 at *
                generalize a.eval (.tmp 238) = v238 at *
                generalize a.eval (.tmp 239) = v239 at *
                generalize a.eval (.tmp 240) = v240 at *
                simp only [Act.put, List.setIfInBounds_toArray, List.set_cons_succ, List.set_cons_zero] at ha
                subst ha
                simp only [Exit.then]
                refine ‹∀ (a : Act) (w : World), Code.wp Try.prog _ _ a w → _› _ W9 ?_
                have S9 := S3.grow hGW9
                have hDq9 := hDq3.grow hGW9
                have b149 := b143.below hGW9 b143.lt
                go_wp2
                exact ⟨⟨k + 1, by omega, by simp, S9, hDq9, b149⟩, by simp [intOf]; omega⟩
            · obtain rfl : k = n := by omega
              go_wp2_with (go_at_call 18; refine (works4_gives _).mono ?_; rintro e w' ⟨rfl, hB⟩)
              go_ret
              exact ⟨rfl, S.bel.trans (hB.mono S.bel.size)⟩
end Go.Proofs.Ytlelckdcmlpmdaa
/- From a row's own reading of slices of pairs and of truths that came in to their parts. -/
namespace Go.Proofs.Ytlelckdcmlpmdaa
open Go Lou Go.ChangeShapes Go.WideShapes Go.ChangeAt Go.RowKit

theorem fpC_get (ls : List (UInt8 × UInt8)) (j : Nat) (v : Value) (h : (fpC ls)[j]? = some v) : ∃ i, ∃ hi : i < ls.length, (j = i * 2 ∧ v = b8 ls[i].1) ∨ (j = i * 2 + 1 ∧ v = b8 ls[i].2) := by
  have hj := (List.getElem?_eq_some_iff.1 h).1
  rw [fpC_length] at hj
  have hi : j / 2 < ls.length := by omega
  obtain ⟨h1, h2⟩ := fpC_at ls (j / 2) hi
  refine ⟨j / 2, hi, ?_⟩
  rcases Nat.mod_two_eq_zero_or_one j with hm | hm
  · left
    have e : j = j / 2 * 2 := by omega
    refine ⟨e, ?_⟩
    rw [← e, h] at h1
    injection h1
  · right
    have e : j = j / 2 * 2 + 1 := by omega
    refine ⟨e, ?_⟩
    rw [← e, h] at h2
    injection h2
section
variable {H : Type} {enc : TypeId × Value → H} {W : World} {r : Reach} {b0 b1 : Nat} {held : Bool} {v : Value} {d : DataW H} {p : List MemPlace}
theorem u8_of {n : Int} (h : (Lit.int .u8 n).wf = true) : ∃ b : UInt8, Value.int .u8 n = b8 b := by
  have := u8_wf h
  refine ⟨UInt8.ofNat n.toNat, ?_⟩
  unfold b8
  congr 1
  simp
  omega
set_option maxRecDepth 100000 in
theorem pair_of {n : Nat} {cs : List Value} {x : DataW H × List MemPlace} (hl : cs.length = 2) (h : DataW.trod enc Try.prog W b1 (fun _ => true) held n 31 cs = some x) : ∃ q : UInt8 × UInt8, cs = [b8 q.1, b8 q.2] := by
  have h1 : Try.prog.cellsOf 5 = 1 := by kernel_rfl
  obtain ⟨xs, m, _, _, _, hl2, hi⟩ := DataW.trod_array Try.underlying31 h
  match cs, hl with
  | [c0, c1], _ =>
    have e0 := hi 0 (by omega)
    have e1 := hi 1 (by omega)
    rw [List.getElem?_eq_getElem (by omega)] at e0 e1
    obtain ⟨n0, g0, _, q0⟩ := DataW.trod_int Try.underlying5 e0
    obtain ⟨n1, g1, _, q1⟩ := DataW.trod_int Try.underlying5 e1
    rw [h1] at g0 g1
    simp at g0 g1
    subst g0 g1
    obtain ⟨b0, e0⟩ := u8_of q0
    obtain ⟨b1, e1⟩ := u8_of q1
    exact ⟨(b0, b1), by rw [e0, e1]⟩
set_option maxRecDepth 100000 in
theorem one_pairs {n : Nat} {c : Value} {l : List Value} {x : DataW H × List MemPlace} (h : DataW.trod enc Try.prog W b1 (fun _ => true) held n 22 ((c :: l).take (Try.prog.cellsOf 22)) = some x) : ∃ A k, ∃ s : List (UInt8 × UInt8), c = .slice A s.length k ∧ InP W W.heap.size A k s := by
  have hc : Try.prog.cellsOf 22 = 1 := by kernel_rfl
  have h2 : Try.prog.cellsOf 31 = 2 := by kernel_rfl
  rw [hc] at h
  rcases Go.Deep.open_slice Try.underlying22 h with ⟨hcs, _⟩ | ⟨a, len, cap, m, n', D, Pl, hcs, hb, hl, hm, hmm, _, hx⟩
  · simp at hcs
    exact ⟨none, 0, [], hcs, InG.mt _ _ _⟩
  · simp at hcs
    simp only [if_true] at hmm
    subst hmm
    rw [h2] at hx
    obtain ⟨B, hB⟩ := Go.Deep.choose_lt (α := UInt8 × UInt8) (p := fun i q => W.cell? (a.add (i * 2)) = some (b8 q.1) ∧ W.cell? ((a.add (i * 2)).add 1) = some (b8 q.2)) (fun i hi => by
      obtain ⟨cs', h3, h4⟩ := hx i hi
      obtain ⟨_, hlen, hcell⟩ := World.cells?_some h3
      obtain ⟨q, rfl⟩ := pair_of hlen h4
      refine ⟨q, ?_, hcell 1 (by omega)⟩
      have := hcell 0 (by omega)
      rwa [show (a.add (i * 2)).add 0 = a.add (i * 2) from by simp [Addr.add]] at this)
    refine ⟨some a, m, (List.range len).map B, by simpa using hcs, ?_⟩
    have hln : ((List.range len).map B).length = len := by simp
    refine ⟨by rw [hln]; exact hl, by unfold maxLen at hm; omega, (fun e => by cases e), fpC_length _, ?_, fun h0 => ?_⟩
    · intro v hv
      obtain ⟨j, hj, e⟩ := List.getElem_of_mem hv
      obtain ⟨i, hi, ⟨_, rfl⟩ | ⟨_, rfl⟩⟩ := fpC_get _ j v (List.getElem?_eq_some_iff.2 ⟨hj, e⟩) <;> rfl
    · rw [hln] at h0
      obtain ⟨b, off, spot⟩ := a
      have hc0 := (hB 0 (by omega)).1
      have hspot : spot = none := by simpa [Addr.add] using World.cell?_spot hc0
      subst hspot
      refine ⟨b, off, rfl, cell_block_lt hc0, fun j v hj => ?_⟩
      obtain ⟨i, hi, ⟨rfl, rfl⟩ | ⟨rfl, rfl⟩⟩ := fpC_get _ j v hj
      · rw [hln] at hi
        have := (hB i (by omega)).1
        rw [Addr.add_mid] at this
        rw [this]
        simp
      · rw [hln] at hi
        have := (hB i (by omega)).2
        rw [Addr.add_mid, Addr.add_mid] at this
        rw [← Nat.add_assoc, this]
        simp
set_option maxRecDepth 100000 in
theorem open_lists (hval : Value.okWide Try.prog W r b0 23 v) (h : DataW.Trod enc Try.prog W b1 (fun _ => true) held 23 v d p) : ∃ (A0 : Option Addr) (k0 : Nat) (s0 : List (UInt8 × UInt8)) (A1 : Option Addr) (k1 : Nat) (s1 : List (UInt8 × UInt8)), v = .agg #[.slice A0 s0.length k0, .slice A1 s1.length k1] ∧ InP W W.heap.size A0 k0 s0 ∧ InP W W.heap.size A1 k1 s1 := by
  obtain ⟨cs, rfl, hl, hi⟩ := open_arr Try.underlying23 hval h
  have h2 : Try.prog.cellsOf 23 = 2 := by kernel_rfl
  have h1 : Try.prog.cellsOf 22 = 1 := by kernel_rfl
  rw [h2] at hl
  match cs, hl with
  | [c0, c1], _ =>
    obtain ⟨_, _, e0⟩ := hi 0 (by omega)
    obtain ⟨_, _, e1⟩ := hi 1 (by omega)
    have e0' : ([c0, c1].drop (0 * Try.prog.cellsOf 22)) = c0 :: [c1] := by rw [h1]; rfl
    have e1' : ([c0, c1].drop (1 * Try.prog.cellsOf 22)) = c1 :: [] := by rw [h1]; rfl
    rw [e0'] at e0
    rw [e1'] at e1
    obtain ⟨A0, k0, s0, rfl, i0⟩ := one_pairs e0
    obtain ⟨A1, k1, s1, rfl, i1⟩ := one_pairs e1
    exact ⟨A0, k0, s0, A1, k1, s1, rfl, i0, i1⟩
set_option maxRecDepth 100000 in
theorem open_truths (hval : Value.okWide Try.prog W r b0 24 v) (h : DataW.Trod enc Try.prog W b1 (fun _ => true) held 24 v d p) : ∃ (A : Option Addr) (k : Nat) (s : List Bool), v = .slice A s.length k ∧ InG W W.heap.size 1 A s.length k (s.map Value.bool) := by
  obtain ⟨A, n, k, rfl⟩ := okWide_slice Try.underlying24 hval
  obtain ⟨fuel, hf⟩ := h
  have hc : Try.prog.cellsOf 4 = 1 := by kernel_rfl
  rcases Go.Deep.open_bools Try.underlying24 Try.underlying4 hc hf with ⟨hcs, _⟩ | ⟨a, len, cap, B, hcs, hb, hl, hm, _, hx⟩
  · simp [Value.cells] at hcs
    obtain ⟨rfl, rfl, rfl⟩ := hcs
    exact ⟨none, 0, [], rfl, InG.mt _ _ _⟩
  · simp [Value.cells] at hcs
    obtain ⟨rfl, rfl, rfl⟩ := hcs
    have hln : ((List.range n).map B).length = n := by simp
    refine ⟨some a, k, (List.range n).map B, by rw [hln], ?_⟩
    refine ⟨by rw [hln]; exact hl, by unfold maxLen at hm; omega, (fun e => by cases e), by simp, ?_, fun h0 => ?_⟩
    · intro v hv
      obtain ⟨b, _, rfl⟩ := List.mem_map.1 hv
      rfl
    · rw [hln] at h0
      obtain ⟨b, off, spot⟩ := a
      have hc0 := hx 0 (by omega)
      have hspot : spot = none := by simpa [Addr.add] using World.cell?_spot hc0
      subst hspot
      refine ⟨b, off, rfl, cell_block_lt hc0, fun j v hj => ?_⟩
      have hj2 := (List.getElem?_eq_some_iff.1 hj).1
      simp at hj2
      have := hx j (by omega)
      rw [Addr.add_mid] at this
      rw [this]
      simpa [hj2] using hj
end
end Go.Proofs.Ytlelckdcmlpmdaa
