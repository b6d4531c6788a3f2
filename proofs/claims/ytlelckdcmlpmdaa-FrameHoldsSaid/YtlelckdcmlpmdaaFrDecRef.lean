/- louperef05.DecodeHead. -/
import Derived.Test.YtlelckdcmlpmdaaFrDec
import Derived.Test.YtlelckdcmlpmdaaLawHolds
namespace Go.Proofs.Ytlelckdcmlpmdaa
open Go Go.RowKit Lou

theorem InB.dropAt {w : World} {B g o c : Nat} {l : List UInt8} (h : InB w B (some ⟨g, o, none⟩) c l) (n : Nat) (hn : n ≤ l.length) (hc : n < c) : InB w B (some ⟨g, o + n, none⟩) (c - n) (l.drop n) := by
  have := h.drop n hn
  unfold cutA at this
  rw [if_neg (by omega)] at this
  have e : (⟨g, o, none⟩ : Addr).add n = ⟨g, o + n, none⟩ := by cases n <;> simp [Addr.add]
  simpa [e] using this

set_option maxRecDepth 100000 in
set_option maxHeartbeats 4000000 in
theorem refDecodeHead_len (w : World) (A : Option Addr) (c : Nat) (l : List UInt8) (h : InB w w.heap.size A c l) (hl : l.length ≠ 64) :
    Calls Try.prog 73 #[.slice A l.length c] w fun x w' => x = .returned (decHV l) ∧ Below w.heap.size w w' := by
  have hb0 := BlkIs.new w 109 #[.int .u64 0, .int .u64 0, .int .i64 0, .int .i64 0]
  have hB0 : Below w.heap.size w (w.alloc (.cells #[.int .u64 0, .int .u64 0, .int .i64 0, .int .i64 0] 109)) := (Below.refl _ w).alloc (Nat.le_refl _) _
  have hle := h.le
  have hmx := h.max
  have hno : isHead l = false := by cases hi : isHead l; rfl; exact absurd ((isHead_iff l).1 hi).1 hl
  rw [decHV_no hno]
  have hq : ((l.length : Int) == 64) = false := by simp; omega
  have hq2 : ((l.length : Int) != 64) = true := by simp; omega
  clear hno hl
  go_enter Try.func73, Try.ntmps73
  go_wp2_with (refine wp_storeW rfl 109 (.tmp 2) (.tmp 18) rfl w.heap.size rfl rfl rowHead hb0 (by rfl) (by rfl) zeroHead_one ?_)
  refine bodyPost_ret_by (results_cellW_tmp 2 3 rfl rfl rfl rowHead (hb0.setRow _) (by rfl)) rfl ⟨rfl, below_setRow hB0 (Nat.le_refl _) _⟩

set_option maxRecDepth 100000 in
set_option maxHeartbeats 8000000 in
theorem refDecodeHead_64 (w : World) (A : Option Addr) (c : Nat) (l : List UInt8) (h : InB w w.heap.size A c l) (hl64 : l.length = 64) :
    Calls Try.prog 73 #[.slice A 64 c] w fun x w' => x = .returned (decHV l) ∧ Below w.heap.size w w' := by
  have hle := h.le
  have hmx := h.max
  rw [hl64] at hle
  have hle' : (64 : Int) ≤ (c : Int) := by omega
  obtain ⟨g, o, rfl, hg, hcs⟩ := h.lies (by omega)
  have hb0 := BlkIs.new w 109 #[.int .u64 0, .int .u64 0, .int .i64 0, .int .i64 0]
  have hB0 : Below w.heap.size w (w.alloc (.cells #[.int .u64 0, .int .u64 0, .int .i64 0, .int .i64 0] 109)) := (Below.refl _ w).alloc (Nat.le_refl _) _
  have h0 := h.below hB0
  have hlen : ∀ n, (l.drop n).length = 64 - n := fun n => by simp [hl64]
  have F : ∀ (n m : Nat), m ≤ 8 → n + m ≤ 64 → ∀ W (A : Option Addr) k, InB W w.heap.size A k (l.drop n) → Calls Try.prog 41 #[.slice A (64 - n) k, .int .i64 (m : Int)] W fun x w' => x = .returned (.tuple #[.int .u64 (rfix ((l.drop n).take m) : Int), .int .i64 0]) ∧ W = w' := by
    intro n m hm hnm W A k hin
    have := refReadFixed_gives W _ A k (l.drop n) m hm hin
    rw [hlen, fixV_ge (by rw [hlen]; omega)] at this
    exact this
  have F0 : Calls Try.prog 41 #[.slice (some ⟨g, o, none⟩) 64 (c), .int .i64 8] (w.alloc (.cells #[.int .u64 0, .int .u64 0, .int .i64 0, .int .i64 0] 109)) fun x w' => x = .returned (.tuple #[.int .u64 (rfix ((l.drop 0).take 8) : Int), .int .i64 0]) ∧ (w.alloc (.cells #[.int .u64 0, .int .u64 0, .int .i64 0, .int .i64 0] 109)) = w' := F 0 8 (by omega) (by omega) _ (some ⟨g, o, none⟩) c h0
  have F1 : Calls Try.prog 41 #[.slice (some ⟨g, o + 8, none⟩) 56 (c - 8), .int .i64 8] (w.alloc (.cells #[.int .u64 0, .int .u64 0, .int .i64 0, .int .i64 0] 109)) fun x w' => x = .returned (.tuple #[.int .u64 (rfix ((l.drop 8).take 8) : Int), .int .i64 0]) ∧ (w.alloc (.cells #[.int .u64 0, .int .u64 0, .int .i64 0, .int .i64 0] 109)) = w' := F 8 8 (by omega) (by omega) _ _ _ (h0.dropAt 8 (by rw [hl64]; omega) (by omega))
  have F2 : Calls Try.prog 41 #[.slice (some ⟨g, o + 16, none⟩) 48 (c - 16), .int .i64 4] (w.alloc (.cells #[.int .u64 0, .int .u64 0, .int .i64 0, .int .i64 0] 109)) fun x w' => x = .returned (.tuple #[.int .u64 (rfix ((l.drop 16).take 4) : Int), .int .i64 0]) ∧ (w.alloc (.cells #[.int .u64 0, .int .u64 0, .int .i64 0, .int .i64 0] 109)) = w' := F 16 4 (by omega) (by omega) _ _ _ (h0.dropAt 16 (by rw [hl64]; omega) (by omega))
  have F3 : Calls Try.prog 41 #[.slice (some ⟨g, o + 20, none⟩) 44 (c - 20), .int .i64 4] (w.alloc (.cells #[.int .u64 0, .int .u64 0, .int .i64 0, .int .i64 0] 109)) fun x w' => x = .returned (.tuple #[.int .u64 (rfix ((l.drop 20).take 4) : Int), .int .i64 0]) ∧ (w.alloc (.cells #[.int .u64 0, .int .u64 0, .int .i64 0, .int .i64 0] 109)) = w' := F 20 4 (by omega) (by omega) _ _ _ (h0.dropAt 20 (by rw [hl64]; omega) (by omega))
  have eS : rfix ((l.drop 0).take 8) = hdS l := rfl
  have eE : rfix ((l.drop 8).take 8) = hdE l := rfl
  have eZ : rfix ((l.drop 16).take 4) = hdZ l := rfl
  have eC : rfix ((l.drop 20).take 4) = hdC l := rfl
  have hzb : hdZ l < 4294967296 := rfix_take4 _
  have hcb : hdC l < 4294967296 := rfix_take4 _
  have hsb : hdS l < 2 ^ 64 := rfix_take8 _
  have heb : hdE l < 2 ^ 64 := rfix_take8 _
  have hiff : isHead l = (headOk (hdZ l) (hdC l) && (headW (hdS l) (hdE l) (hdZ l) (hdC l) == l)) := by
    rw [Bool.eq_iff_iff, isHead_iff, Bool.and_eq_true, headOk_iff, beq_iff_eq]
    constructor
    · rintro ⟨_, a1, a2, a3⟩
      exact ⟨by omega, a3⟩
    · rintro ⟨a1, a2⟩
      exact ⟨hl64, by omega, by omega, a2⟩
  have hdv : decHV l = if isHead l then .tuple #[.agg #[.int .u64 (hdS l : Int), .int .u64 (hdE l : Int), .int .i64 (hdZ l : Int), .int .i64 (hdC l : Int)], .int .i64 0] else .tuple #[.agg #[.int .u64 0, .int .u64 0, .int .i64 0, .int .i64 0], .int .i64 150] := rfl
  rw [eS] at F0
  rw [eE] at F1
  rw [eZ] at F2
  rw [eC] at F3
  have EN := fun W => refEncodeHead_gives (hdS l) (hdE l) (hdZ l) (hdC l) W hsb heb
  clear eS eE eZ eC F hsb heb hlen
  generalize hdS l = s at *
  generalize hdE l = e at *
  generalize hdZ l = z at *
  generalize hdC l = cc at *
  have hzw : IntKind.i64.wrap (z : Int) = (z : Int) := wrap_i64_fr _ (by omega) (by omega)
  have hcw : IntKind.i64.wrap (cc : Int) = (cc : Int) := wrap_i64_fr _ (by omega) (by omega)
  have HI := Lib.hid hiff
  have HD := Lib.hid hdv
  have HL := Lib.hid hl64
  clear hiff hdv hl64
  go_enter Try.func73, Try.ntmps73
  go_wp2_with (first
    | (go_at_call 41; first
      | ((with_reducible refine F0.mono ?_); rintro x w' ⟨rfl, rfl⟩)
      | ((with_reducible refine F1.mono ?_); rintro x w' ⟨rfl, rfl⟩)
      | ((with_reducible refine F2.mono ?_); rintro x w' ⟨rfl, rfl⟩)
      | ((with_reducible refine F3.mono ?_); rintro x w' ⟨rfl, rfl⟩)))
  have hz2 := hb0.alloc (.cells #[.int .u64 (s : Int), .int .u64 (e : Int), .int .i64 (z : Int), .int .i64 (cc : Int)] 109)
  have hk2 := BlkIs.new (w.alloc (.cells #[.int .u64 0, .int .u64 0, .int .i64 0, .int .i64 0] 109)) 109 #[.int .u64 (s : Int), .int .u64 (e : Int), .int .i64 (z : Int), .int .i64 (cc : Int)]
  rw [World.size_alloc] at hk2
  have hin2 := h0.below ((Below.refl w.heap.size (w.alloc (.cells #[.int .u64 0, .int .u64 0, .int .i64 0, .int .i64 0] 109))).alloc (by simp) (.cells #[.int .u64 (s : Int), .int .u64 (e : Int), .int .i64 (z : Int), .int .i64 (cc : Int)] 109))
  have hB2 : Below w.heap.size w ((w.alloc (.cells #[.int .u64 0, .int .u64 0, .int .i64 0, .int .i64 0] 109)).alloc (.cells #[.int .u64 (s : Int), .int .u64 (e : Int), .int .i64 (z : Int), .int .i64 (cc : Int)] 109)) := hB0.alloc (by simp) _
  clear F0 F1 F2 F3 hb0 h0 hcs hB0
  refine (EN _).mono ?_
  generalize (w.alloc (.cells #[.int .u64 0, .int .u64 0, .int .i64 0, .int .i64 0] 109)).alloc (.cells #[.int .u64 (s : Int), .int .u64 (e : Int), .int .i64 (z : Int), .int .i64 (cc : Int)] 109) = W2 at *
  rintro x W4 ⟨A4, c4, rfl, hin4, hB4⟩
  have hz4 := hz2.below hB4 hz2.lt
  have hk4 := hk2.below hB4 hk2.lt
  have hl4 := (hin2.more hB2.size).below hB4
  have hB04 : Below w.heap.size w W4 := hB2.trans (hB4.mono hB2.size)
  clear EN hz2 hk2 hin2 hB2 hB4
  cases hk : headOk z cc with
  | false =>
    have h1 : hEnc s e z cc = [] := by simp [hEnc, hk]
    have h2 : hErr z cc = 2 := by simp [hErr, hk]
    have hno : isHead l = false := by rw [HI.out, hk]; rfl
    have HN := Lib.hid hno
    rw [h1, h2]
    clear h1 h2 hk hin4 hno
    go_wp2_with (refine wp_storeW rfl 109 (.tmp 2) (.tmp 63) rfl w.heap.size rfl rfl rowHead hz4 (by rfl) (by rfl) zeroHead_one ?_)
    refine bodyPost_ret_by (results_cellW_tmp 2 3 rfl rfl rfl rowHead (hz4.setRow _) (by rfl)) rfl ⟨?_, below_setRow hB04 (Nat.le_refl _) _⟩
    rw [HD.out, HN.out]
    rfl
  | true =>
    obtain ⟨⟨_, hz1⟩, _, hc1⟩ := (headOk_iff _ _).1 hk
    obtain ⟨h1, h2⟩ := hEnc_ok (s := s) (e := e) (z := z) (c := cc) (by omega) (by omega)
    rw [h1] at hin4
    rw [h1, h2]
    have hyes : isHead l = (headW s e z cc == l) := by rw [HI.out, hk]; rfl
    clear h1 h2 HI
    generalize headW s e z cc = HW at *
    have HY := Lib.hid hyes
    have hst1 := hin4.string
    have hst2 := hl4.string
    rw [HL.out] at hst2
    clear hyes hk
    cases hq : (HW == l) with
    | false =>
      have hs1 : ((str HW).toList == (str l).toList) = false := by rw [str_toList, str_toList]; exact hq
      have hs2 : ((str HW).toList != (str l).toList) = true := by rw [bne, hs1]; rfl
      have HQ := Lib.hid hq
      clear hq
      go_wp2_with (refine wp_storeW rfl 109 (.tmp 2) (.tmp 63) rfl w.heap.size rfl rfl rowHead hz4 (by rfl) (by rfl) zeroHead_one ?_)
      refine bodyPost_ret_by (results_cellW_tmp 2 3 rfl rfl rfl rowHead (hz4.setRow _) (by rfl)) rfl ⟨?_, below_setRow hB04 (Nat.le_refl _) _⟩
      rw [HD.out, HY.out, HQ.out]
      rfl
    | true =>
      have hs1 : ((str HW).toList == (str l).toList) = true := by rw [str_toList, str_toList]; exact hq
      have hs2 : ((str HW).toList != (str l).toList) = false := by rw [bne, hs1]; rfl
      have HQ := Lib.hid hq
      clear hq
      go_wp2_with (first
        | (refine wp_loadW rfl 109 (.tmp 12) rfl (w.heap.size + 1) rfl rowHead hk4 (by rfl) ?_)
        | (refine wp_storeW rfl 109 (.tmp 2) (.tmp 64) rfl w.heap.size rfl rfl rowHead hz4 (by rfl) (by rfl) (head_one _ _ _ _) ?_))
      refine bodyPost_ret_by (results_cellW_tmp 2 3 rfl rfl rfl rowHead (hz4.setRow _) (by rfl)) rfl ⟨?_, below_setRow hB04 (Nat.le_refl _) _⟩
      rw [HD.out, HY.out, HQ.out]
      rfl
theorem refDecodeHead_gives (w : World) (A : Option Addr) (c : Nat) (l : List UInt8) (h : InB w w.heap.size A c l) :
    Calls Try.prog 73 #[.slice A l.length c] w fun x w' => x = .returned (decHV l) ∧ Below w.heap.size w w' := by
  by_cases hl : l.length = 64
  · rw [hl]
    exact refDecodeHead_64 w A c l h hl
  · exact refDecodeHead_len w A c l h hl
end Go.Proofs.Ytlelckdcmlpmdaa
