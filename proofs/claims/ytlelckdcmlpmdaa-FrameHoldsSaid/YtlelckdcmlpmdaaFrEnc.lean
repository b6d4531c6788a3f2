/- frame.EncodeHead and the reference's. -/
import Derived.Test.YtlelckdcmlpmdaaFrHead
namespace Go.Proofs.Ytlelckdcmlpmdaa
open Go Go.RowKit Lou

/-- Bytes and an error that a call gives. -/
def GivesBE (w0 : World) (l : List UInt8) (n : Int) (e : Ending) (w' : World) : Prop :=
  ∃ A c, e = .returned (.tuple #[.slice A l.length c, .int .i64 n]) ∧ InB w' w'.heap.size A c l ∧ Below w0.heap.size w0 w'
def hEnc (s e : Nat) (z c : Int) : List UInt8 := if headOk z c then headW s e z.toNat c.toNat else []
def hErr (z c : Int) : Int := if headOk z c then 0 else 2
theorem hEnc_ok {s e : Nat} {z c : Nat} (hz : z ≤ 2000) (hc : c ≤ 2000) : hEnc s e z c = headW s e z c ∧ hErr z c = 0 := by
  have : headOk z c = true := by rw [headOk_iff]; omega
  simp [hEnc, hErr, this]
theorem InB.mt (w : World) (B : Nat) : InB w B none 0 [] := ⟨by simp, by omega, fun _ => rfl, fun h => by simp at h⟩
theorem BlkIs.inBT {w : World} {g : Nat} {T : TypeId} {l : List UInt8} (h : BlkIs w g T (l.map b8).toArray) (hm : l.length ≤ 9223372036854775807) : InB w w.heap.size (some ⟨g, 0, none⟩) l.length l :=
  ⟨Nat.le_refl _, hm, (fun e => by cases e), fun _ => ⟨g, 0, rfl, h.lt, fun j hj => by
    rw [h.cell]
    simp [hj, b8]⟩⟩

set_option maxRecDepth 100000 in
set_option maxHeartbeats 4000000 in
theorem encodeHead_gives (s e : Nat) (z c : Int) (w : World) :
    Calls Try.prog 70 #[.agg #[.int .u64 (s : Int), .int .u64 (e : Int), .int .i64 z, .int .i64 c]] w (GivesBE w (hEnc s e z c) (hErr z c)) := by
  have hBw : Below w.heap.size w (w.alloc (.cells #[.int .u64 (s : Int), .int .u64 (e : Int), .int .i64 z, .int .i64 c] 109)) := (Below.refl _ w).alloc (Nat.le_refl _) _
  have hbh := BlkIs.new w 109 #[.int .u64 (s : Int), .int .u64 (e : Int), .int .i64 z, .int .i64 c]
  cases hk : headOk z c with
  | false =>
    have H := fits_gives s e z c (w.alloc (.cells #[.int .u64 (s : Int), .int .u64 (e : Int), .int .i64 z, .int .i64 c] 109))
    rw [hk] at H
    have h1 : hEnc s e z c = [] := by simp [hEnc, hk]
    have h2 : hErr z c = 2 := by simp [hErr, hk]
    rw [h1, h2]
    clear h1 h2 hk
    go_enter Try.func70, Try.ntmps70
    go_wp2_with (first
      | (go_at_call 136; refine H.mono ?_; rintro x w2 ⟨rfl, hB2⟩)
      | (refine wp_loadW rfl 109 (.tmp 1) rfl w.heap.size rfl rowHead hbh (by rfl) ?_))
    refine bodyPost_ret (results_tmp2 rfl _ _ _) rfl ?_
    exact ⟨none, 0, rfl, InB.mt _ _, hBw.trans (hB2.mono hBw.size)⟩
  | true =>
    obtain ⟨⟨hz0, hz1⟩, hc0, hc1⟩ := (headOk_iff z c).1 hk
    obtain ⟨zn, rfl⟩ : ∃ zn : Nat, z = zn := ⟨z.toNat, by omega⟩
    obtain ⟨cn, rfl⟩ : ∃ cn : Nat, c = cn := ⟨c.toNat, by omega⟩
    have H := fits_gives s e zn cn (w.alloc (.cells #[.int .u64 (s : Int), .int .u64 (e : Int), .int .i64 zn, .int .i64 cn] 109))
    rw [hk] at H
    have h1 : hEnc s e zn cn = headW s e zn cn := by simp [hEnc, hk]
    have h2 : hErr zn cn = 0 := by simp [hErr, hk]
    rw [h1, h2]
    clear h1 h2 hk
    have hlen := headW_length s e zn cn
    have HH := fun W => head_gives s e zn cn (by omega) (by omega) W
    generalize headW s e zn cn = L at *
    have HL := Lib.hid hlen
    have hRow : RowTy Try.prog 236 (L.map b8).toArray.size := by
      have : (L.map b8).toArray.size = 64 := by simp [hlen]
      rw [this]
      exact rowSector
    clear hlen
    go_enter Try.func70, Try.ntmps70
    go_wp2_with (first
      | (go_at_call 136; refine H.mono ?_; rintro x w2 ⟨rfl, hB2⟩; have hbh2 := hbh.below hB2 hbh.lt; have hB02 := hBw.trans (hB2.mono hBw.size); clear H hbh)
      | (go_at_call 137; refine (HH _).mono ?_; rintro x w3 ⟨rfl, hB3⟩; have hB03 := hB02.trans (hB3.mono hB02.size))
      | (refine wp_loadW rfl 109 (.tmp 1) rfl w.heap.size rfl rowHead (by assumption) (by rfl) ?_)
      | (refine wp_storeW rfl 236 (.tmp 4) (.tmp 9) rfl w3.heap.size rfl rfl rowSector (BlkIs.new w3 236 #[.int .u8 0, .int .u8 0, .int .u8 0, .int .u8 0, .int .u8 0, .int .u8 0, .int .u8 0, .int .u8 0, .int .u8 0, .int .u8 0, .int .u8 0, .int .u8 0, .int .u8 0, .int .u8 0, .int .u8 0, .int .u8 0, .int .u8 0, .int .u8 0, .int .u8 0, .int .u8 0, .int .u8 0, .int .u8 0, .int .u8 0, .int .u8 0, .int .u8 0, .int .u8 0, .int .u8 0, .int .u8 0, .int .u8 0, .int .u8 0, .int .u8 0, .int .u8 0, .int .u8 0, .int .u8 0, .int .u8 0, .int .u8 0, .int .u8 0, .int .u8 0, .int .u8 0, .int .u8 0, .int .u8 0, .int .u8 0, .int .u8 0, .int .u8 0, .int .u8 0, .int .u8 0, .int .u8 0, .int .u8 0, .int .u8 0, .int .u8 0, .int .u8 0, .int .u8 0, .int .u8 0, .int .u8 0, .int .u8 0, .int .u8 0, .int .u8 0, .int .u8 0, .int .u8 0, .int .u8 0, .int .u8 0, .int .u8 0, .int .u8 0, .int .u8 0]) (by rfl) (by have := HL.out; simp; omega) (b8_one _) ?_))
    have hb4 := (BlkIs.new w3 236 #[.int .u8 0, .int .u8 0, .int .u8 0, .int .u8 0, .int .u8 0, .int .u8 0, .int .u8 0, .int .u8 0, .int .u8 0, .int .u8 0, .int .u8 0, .int .u8 0, .int .u8 0, .int .u8 0, .int .u8 0, .int .u8 0, .int .u8 0, .int .u8 0, .int .u8 0, .int .u8 0, .int .u8 0, .int .u8 0, .int .u8 0, .int .u8 0, .int .u8 0, .int .u8 0, .int .u8 0, .int .u8 0, .int .u8 0, .int .u8 0, .int .u8 0, .int .u8 0, .int .u8 0, .int .u8 0, .int .u8 0, .int .u8 0, .int .u8 0, .int .u8 0, .int .u8 0, .int .u8 0, .int .u8 0, .int .u8 0, .int .u8 0, .int .u8 0, .int .u8 0, .int .u8 0, .int .u8 0, .int .u8 0, .int .u8 0, .int .u8 0, .int .u8 0, .int .u8 0, .int .u8 0, .int .u8 0, .int .u8 0, .int .u8 0, .int .u8 0, .int .u8 0, .int .u8 0, .int .u8 0, .int .u8 0, .int .u8 0, .int .u8 0, .int .u8 0]).setRow (L.map b8).toArray
    have hB4 : Below w.heap.size w ((w3.alloc (.cells #[.int .u8 0, .int .u8 0, .int .u8 0, .int .u8 0, .int .u8 0, .int .u8 0, .int .u8 0, .int .u8 0, .int .u8 0, .int .u8 0, .int .u8 0, .int .u8 0, .int .u8 0, .int .u8 0, .int .u8 0, .int .u8 0, .int .u8 0, .int .u8 0, .int .u8 0, .int .u8 0, .int .u8 0, .int .u8 0, .int .u8 0, .int .u8 0, .int .u8 0, .int .u8 0, .int .u8 0, .int .u8 0, .int .u8 0, .int .u8 0, .int .u8 0, .int .u8 0, .int .u8 0, .int .u8 0, .int .u8 0, .int .u8 0, .int .u8 0, .int .u8 0, .int .u8 0, .int .u8 0, .int .u8 0, .int .u8 0, .int .u8 0, .int .u8 0, .int .u8 0, .int .u8 0, .int .u8 0, .int .u8 0, .int .u8 0, .int .u8 0, .int .u8 0, .int .u8 0, .int .u8 0, .int .u8 0, .int .u8 0, .int .u8 0, .int .u8 0, .int .u8 0, .int .u8 0, .int .u8 0, .int .u8 0, .int .u8 0, .int .u8 0, .int .u8 0] 236)).setRow w3.heap.size (L.map b8).toArray) := below_setRow (hB03.alloc hB03.size _) hB03.size _
    have hin4 := hb4.inBT (by rw [HL.out]; omega)
    rw [HL.out] at hin4
    refine bodyPost_ret (results_tmp2 rfl _ _ _) rfl ?_
    exact ⟨_, 64, by rw [HL.out]; rfl, hin4, hB4⟩

/-- What appends of a call's own row leave as it was. -/
theorem OwnB.belowG {w0 w w' : World} {v : Value} {l : List UInt8} {b : Nat} (h : OwnB w b v l) (hb : Below w0.heap.size w0 w) (hB : w0.heap.size ≤ b) (hg : w.grownBy w' v.ownBlock) : Below w0.heap.size w0 w' :=
  (h.base hB).below hb hg
theorem InB.grown {w w' : World} {B : Nat} {A : Option Addr} {c : Nat} {l : List UInt8} {row : Option Nat} (h : InB w B A c l) (hB : B ≤ w.heap.size) (hg : w.grownBy w' row) (hr : ∀ r, row = some r → B ≤ r) : InB w' B A c l :=
  h.keep fun p hp => World.cell?_of_block (hg.block p.block (by omega) (fun e => by have := hr _ e.symm; omega))

set_option maxRecDepth 100000 in
set_option maxHeartbeats 4000000 in
theorem refEncodeHead_bad (s e : Nat) (z c : Int) (w : World) (hk : headOk z c = false) :
    Calls Try.prog 71 #[.agg #[.int .u64 (s : Int), .int .u64 (e : Int), .int .i64 z, .int .i64 c]] w (GivesBE w (hEnc s e z c) (hErr z c)) := by
  have hBw : Below w.heap.size w (w.alloc (.cells #[.int .u64 (s : Int), .int .u64 (e : Int), .int .i64 z, .int .i64 c] 109)) := (Below.refl _ w).alloc (Nat.le_refl _) _
  have h1 : hEnc s e z c = [] := by simp [hEnc, hk]
  have h2 : hErr z c = 2 := by simp [hErr, hk]
  rw [h1, h2]
  have h3 : ¬ ((0 ≤ z ∧ z ≤ 2000) ∧ (0 ≤ c ∧ c ≤ 2000)) := by rw [← headOk_iff, hk]; simp
  clear h1 h2 hk
  by_cases a1 : z < 0
  · go_enter Try.func71, Try.ntmps71
    go_wp2
    exact bodyPost_ret (results_tmp2 rfl _ _ _) rfl ⟨none, 0, rfl, InB.mt _ _, hBw⟩
  · by_cases a2 : 2000 < z
    · go_enter Try.func71, Try.ntmps71
      go_wp2
      exact bodyPost_ret (results_tmp2 rfl _ _ _) rfl ⟨none, 0, rfl, InB.mt _ _, hBw⟩
    · by_cases a3 : c < 0
      · go_enter Try.func71, Try.ntmps71
        go_wp2
        exact bodyPost_ret (results_tmp2 rfl _ _ _) rfl ⟨none, 0, rfl, InB.mt _ _, hBw⟩
      · have a4 : 2000 < c := by omega
        go_enter Try.func71, Try.ntmps71
        go_wp2
        exact bodyPost_ret (results_tmp2 rfl _ _ _) rfl ⟨none, 0, rfl, InB.mt _ _, hBw⟩

set_option maxRecDepth 100000 in
set_option maxHeartbeats 4000000 in
theorem refEncodeHead_ok (s e z c : Nat) (w : World) (hs : s < 2 ^ 64) (he : e < 2 ^ 64) (hz : z ≤ 2000) (hc : c ≤ 2000) :
    Calls Try.prog 71 #[.agg #[.int .u64 (s : Int), .int .u64 (e : Int), .int .i64 z, .int .i64 c]] w (GivesBE w (headW s e z c) 0) := by
  have hBw : Below w.heap.size w (w.alloc (.cells #[.int .u64 (s : Int), .int .u64 (e : Int), .int .i64 (z : Int), .int .i64 (c : Int)] 109)) := (Below.refl _ w).alloc (Nat.le_refl _) _
  have hbh := BlkIs.new w 109 #[.int .u64 (s : Int), .int .u64 (e : Int), .int .i64 (z : Int), .int .i64 (c : Int)]
  have F8 : ∀ n : Nat, n < 2 ^ 64 → ∀ W, Calls Try.prog 44 #[.int .u64 (n : Int), .int .i64 8] W (GivesB W (fixL 8 n)) := fun n h W => refFixed_gives 8 n (by omega) h W
  have F4 : ∀ n : Nat, n < 2 ^ 64 → ∀ W, Calls Try.prog 44 #[.int .u64 (n : Int), .int .i64 4] W (GivesB W (fixL 4 n)) := fun n h W => refFixed_gives 4 n (by omega) h W
  have FS := F8 s hs
  have FE := F8 e he
  have FZ := F4 z (by omega)
  have FC := F4 c (by omega)
  clear F8 F4 hs he
  have z0 : (0 : Int) ≤ (z : Int) := by omega
  have c0 : (0 : Int) ≤ (c : Int) := by omega
  have z1 : (z : Int) ≤ 2000 := by omega
  have c1 : (c : Int) ≤ 2000 := by omega
  go_enter Try.func71, Try.ntmps71
  go_wp2_with fail
  generalize w.alloc (.cells #[.int .u64 (s : Int), .int .u64 (e : Int), .int .i64 (z : Int), .int .i64 (c : Int)] 109) = w1 at *
  have hg1 := hbh.lt
  have hc0 : w1.cell? ⟨w.heap.size, 0, none⟩ = some (.int .u64 (s : Int)) := by rw [hbh.cell]; rfl
  have hc1 : w1.cell? ⟨w.heap.size, 1, none⟩ = some (.int .u64 (e : Int)) := by rw [hbh.cell]; rfl
  go_region_held3 (fun W => Below w1.heap.size w1 W ∧ W.cell? ⟨w.heap.size, 0, none⟩ = some (.int .u64 (s : Int)) ∧ W.cell? ⟨w.heap.size, 1, none⟩ = some (.int .u64 (e : Int)))
    (first | exact ⟨(Below.refl _ _).drew, hc0, hc1⟩ | exact keepB2 (by assumption) (by assumption) hg1)
    (first
      | (go_at_call 44; first
        | (with_reducible refine (FS _).mono ?_); rintro x W2 ⟨v2, rfl, own2, hB2⟩; have hB2' : Below w1.heap.size w1.drew W2 := hB2
        | (with_reducible refine (FE _).mono ?_); rintro x W3 ⟨v3, rfl, own3, hB3⟩; have own2' := own2.later hB3; obtain ⟨A3, c3, rfl, hin3⟩ := own3.inB; have hB3' : Below w1.heap.size W2 W3 := hB3.mono hB2'.size)
      | (revert own2'; intro own2'; refine step_appB (by rfl) (.tmp 25) (.tmp 28) (by rfl) w1.heap.size v2 (fixL 8 s) (by rfl) own2' _ A3 c3 (fixL 8 e) (by rfl) hin3 (by simp [fixL_length]) (by have := hB2'.size; have := hB3'.size; simp at *; omega) ?_; intro v4 W4 own4 hg4 hat4; have hB4' : Below w1.heap.size W3 W4 := grown_below hg4 (by have := hB2'.size; have := hB3'.size; simp at *; omega) own2'.ownGe))
  rename_i hS4
  have hB14 := hS4.1
  have hc2 : W4.cell? ⟨w.heap.size, 2, none⟩ = some (.int .i64 (z : Int)) := (hB14.cell (p := ⟨w.heap.size, 2, none⟩) hg1).trans (by rw [hbh.cell]; rfl)
  have hc3 : W4.cell? ⟨w.heap.size, 3, none⟩ = some (.int .i64 (c : Int)) := (hB14.cell (p := ⟨w.heap.size, 3, none⟩) hg1).trans (by rw [hbh.cell]; rfl)
  clear hS4 hB2' hB3' hB4' hB2 hB3 own2 own2' own3 hin3 hg4 hat4 hc0 hc1
  go_wp2_with fail
  have s14 := hB14.size
  have hzw : IntKind.u64.wrap (z : Int) = (z : Int) := by
    show (z : Int) % 18446744073709551616 = _
    omega
  have hcw : IntKind.u64.wrap (c : Int) = (c : Int) := by
    show (c : Int) % 18446744073709551616 = _
    omega
  have hl8 : ∀ n, (fixL 8 n).length = 8 := fixL_length 8
  have hl4 : ∀ n, (fixL 4 n).length = 4 := fixL_length 4
  have L8 := Lib.hid hl8
  have L4 := Lib.hid hl4
  clear hl8 hl4
  go_region_held3 (fun W => Below w1.heap.size w1 W ∧ W.cell? ⟨w.heap.size, 2, none⟩ = some (.int .i64 (z : Int)) ∧ W.cell? ⟨w.heap.size, 3, none⟩ = some (.int .i64 (c : Int)))
    (first | exact ⟨hB14.drew, hc2, hc3⟩ | exact keepB2 (by assumption) (by assumption) hg1)
    (first
      | (go_at_call 44; first
        | ((with_reducible refine (FZ _).mono ?_); rintro x W5 ⟨v5, rfl, own5, hB5⟩; have own4' := OwnB.later (w := W4.drew) own4 hB5; obtain ⟨A5, c5, rfl, hin5⟩ := own5.inB; have hB5' : Below w1.heap.size W4.drew W5 := hB5.mono s14; have s15 := Nat.le_trans s14 hB5.size)
        | ((with_reducible refine (FC _).mono ?_); rintro x W7 ⟨v7, rfl, own7, hB7⟩; have own6' := own6.later hB7; obtain ⟨A7, c7, rfl, hin7⟩ := own7.inB; have hB7' : Below w1.heap.size W6 W7 := hB7.mono s16; have s17 := Nat.le_trans s16 hB7.size))
      | (revert own4'; intro own4'; refine step_appB (by rfl) (.tmp 30) (.tmp 34) (by rfl) w1.heap.size v4 (fixL 8 s ++ fixL 8 e) (by rfl) own4' _ A5 c5 (fixL 4 z) (by rfl) hin5 (by simp only [List.length_append, L8.out, L4.out]; omega) s15 ?_; clear own4'; intro v6 W6 own6 hg6 hat6; have hB6' : Below w1.heap.size W5 W6 := grown_below hg6 s15 own4.ownGe; have s16 := Nat.le_trans s15 hB6'.size)
      | (revert own6'; intro own6'; refine step_appB (by rfl) (.tmp 35) (.tmp 39) (by rfl) w1.heap.size v6 (fixL 8 s ++ fixL 8 e ++ fixL 4 z) (by rfl) own6' _ A7 c7 (fixL 4 c) (by rfl) hin7 (by simp only [List.length_append, L8.out, L4.out]; omega) s17 ?_; clear own6'; intro v8 W8 own8 hg8 hat8; have hB8' : Below w1.heap.size W7 W8 := grown_below hg8 s17 own6.ownGe; have s18 := Nat.le_trans s17 hB8'.size))
  rename_i hS8
  have hB08 : Below w.heap.size w W8 := hBw.trans (hS8.1.mono hBw.size)
  have hBs := hBw.size
  have hb : fixL 8 s ++ fixL 8 e ++ fixL 4 z ++ fixL 4 c = headB s e z c := by rw [headB_eq]; simp only [List.append_assoc]
  have hl24 := headB_length s e z c
  have hWd : headW s e z c = twiceB (headB s e z c) := rfl
  rw [hb] at own8
  clear hS8 hB14 hc2 hc3 hzw hcw own4 hg6 hat6 own6 hB5' own5 hin5 own7 hin7 hB7 hB7' hB6' hg8 hat8 hB8' hb FS FE FZ FC
  generalize headB s e z c = b at *
  have HL := Lib.hid hl24
  have HW := Lib.hid hWd
  clear hWd
  have hsl := sumL_lt b
  have FX : ∀ W, Calls Try.prog 44 #[.int .u64 (sumL b : Int), .int .i64 4] W (GivesB W (fixL 4 (sumL b))) := fun W => refFixed_gives 4 (sumL b) (by omega) (by omega) W
  obtain ⟨S, hS⟩ : ∃ S, S = sumL b := ⟨_, rfl⟩
  have hon : b ++ fixL 4 S = onceB b := by rw [hS]; rfl
  rw [← hS] at hsl FX
  have HON := Lib.hid hon
  have hsw : IntKind.u64.wrap (S : Int) = (S : Int) := by
    show (S : Int) % 18446744073709551616 = _
    omega
  have hol : (b ++ fixL 4 S).length = 28 := by rw [hon, onceB_length, hl24]
  have HO := Lib.hid hol
  obtain ⟨A8, c8, rfl, hin8⟩ := own8.inB
  have HS := refSum_gives W8 _ A8 c8 b hin8
  rw [← hS] at HS
  clear hl24 hS hon hol hsl
  go_wp2_with fail
  refine HS.mono ?_
  rintro x w' ⟨rfl, rfl⟩
  go_wp2_with fail
  refine (FX _).mono ?_
  rintro x W9 ⟨v9, rfl, own9, hB9⟩
  have own8' := own8.later hB9
  obtain ⟨A9, c9, rfl, hin9⟩ := own9.inB
  have s19 := Nat.le_trans s18 hB9.size
  have hB09 : Below w.heap.size w W9 := hB08.trans (hB9.mono hB08.size)
  go_wp2_with (first
    | (at_builtin; refine wp_appB rfl (.tmp 41) (.tmp 45) rfl w1.heap.size (.slice A8 b.length c8) b rfl own8' _ A9 c9 (fixL 4 S) rfl hin9 (by rw [HL.out, L4.out]; omega) s19 ?_; intro v10 W10 own10 hg10; have hB10 : Below w.heap.size w W10 := hB09.trans (grown_below hg10 hB09.size (fun r hr => Nat.le_trans hBs (own8'.ownGe r hr))); rw [HON.out] at own10; obtain ⟨A10, c10, rfl, hin10⟩ := own10.inB; have e0 : OwnB (W10.alloc (.cells #[] 5)) W10.heap.size (.slice (some ⟨W10.heap.size, 0, none⟩) 0 0) [] := World.ownsRow_lit W10 #[] 0 (Nat.le_refl _) (by unfold maxLen; omega) rfl; have hin10' := hin10.below ((Below.refl _ W10).alloc (Nat.le_refl _) (.cells #[] 5)); have hB10' : Below w.heap.size w (W10.alloc (.cells #[] 5)) := hB10.alloc hB10.size _)
    | (revert e0; intro e0; at_builtin; refine wp_appB rfl (.tmp 47) (.tmp 48) rfl W10.heap.size (.slice (some ⟨W10.heap.size, 0, none⟩) 0 0) [] rfl e0 _ A10 c10 (onceB b) rfl hin10' (by rw [onceB_length, HL.out]; simp) (by simp) ?_; intro v11 W11 own11 hg11; have hB11 : Below w.heap.size w W11 := hB10'.trans (grown_below hg11 hB10'.size (fun r hr => Nat.le_trans hB10.size (e0.ownGe r hr))); have hin11 := hin10'.grown (by simp) hg11 e0.ownGe; have s11 : W10.heap.size ≤ W11.heap.size := Nat.le_trans (by simp) hg11.size; rw [List.nil_append] at own11; clear e0)
    | (revert own11; intro own11; at_builtin; refine wp_appB rfl (.tmp 49) (.tmp 50) rfl W10.heap.size v11 (onceB b) rfl own11 _ A10 c10 (onceB b) rfl hin11 (by rw [onceB_length, HL.out]; omega) s11 ?_; intro v12 W12 own12 hg12; have hB12 : Below w.heap.size w W12 := hB11.trans (grown_below hg12 hB11.size (fun r hr => Nat.le_trans hB10.size (own11.ownGe r hr))); have s12 : W10.heap.size ≤ W12.heap.size := Nat.le_trans s11 hg12.size; clear own11)
    | (revert own12; intro own12; refine wp_appZ rfl (.tmp 51) (.const (.int .i64 8)) rfl W10.heap.size v12 (onceB b ++ onceB b) rfl own12 8 rfl (by omega) (by simp only [List.length_append]; rw [onceB_length, HL.out]; omega) s12 ?_; intro v13 W13 own13 hg13 hat13; have hB13 : Below w.heap.size w W13 := hB12.trans (grown_below hg13 hB12.size (fun r hr => Nat.le_trans hB10.size (own12.ownGe r hr)))))
  obtain ⟨A13, c13, rfl, hin13⟩ := own13.inB
  refine bodyPost_ret (results_tmp2 rfl _ _ _) rfl ?_
  show GivesBE w (headW s e z c) 0 _ _
  rw [HW.out]
  exact ⟨A13, c13, rfl, hin13, hB13⟩
/-- .. whatever the head. -/
theorem refEncodeHead_gives (s e : Nat) (z c : Int) (w : World) (hs : s < 2 ^ 64) (he : e < 2 ^ 64) :
    Calls Try.prog 71 #[.agg #[.int .u64 (s : Int), .int .u64 (e : Int), .int .i64 z, .int .i64 c]] w (GivesBE w (hEnc s e z c) (hErr z c)) := by
  cases hk : headOk z c with
  | false => exact refEncodeHead_bad s e z c w hk
  | true =>
    obtain ⟨⟨hz0, hz1⟩, hc0, hc1⟩ := (headOk_iff z c).1 hk
    obtain ⟨zn, rfl⟩ : ∃ zn : Nat, z = zn := ⟨z.toNat, by omega⟩
    obtain ⟨cn, rfl⟩ : ∃ cn : Nat, c = cn := ⟨c.toNat, by omega⟩
    obtain ⟨h1, h2⟩ := hEnc_ok (s := s) (e := e) (z := zn) (c := cn) (by omega) (by omega)
    rw [h1, h2]
    exact refEncodeHead_ok s e zn cn w hs he (by omega) (by omega)
end Go.Proofs.Ytlelckdcmlpmdaa
