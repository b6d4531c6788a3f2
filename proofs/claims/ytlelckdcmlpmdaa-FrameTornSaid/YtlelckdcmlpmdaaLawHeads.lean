/- loupelaw05.FrameHeads: the walk. -/
import Derived.Test.YtlelckdcmlpmdaaFrDecRef
import Derived.Test.YtlelckdcmlpmdaaFrWorks
namespace Go.Proofs.Ytlelckdcmlpmdaa
open Go Go.RowKit Lou

theorem decHV_form (l : List UInt8) : ∃ s e z c r : Int, decHV l = .tuple #[.agg #[.int .u64 s, .int .u64 e, .int .i64 z, .int .i64 c], .int .i64 r] := by
  unfold decHV
  split
  · exact ⟨_, _, _, _, _, rfl⟩
  · exact ⟨_, _, _, _, _, rfl⟩
theorem decHV_headW {s e z c : Nat} (hs : s < 2 ^ 64) (he : e < 2 ^ 64) (hz : z ≤ 2000) (hc : c ≤ 2000) : decHV (headW s e z c) = .tuple #[.agg #[.int .u64 (s : Int), .int .u64 (e : Int), .int .i64 (z : Int), .int .i64 (c : Int)], .int .i64 0] := by
  obtain ⟨h1, h2, h3, h4⟩ := headW_read hs he hz hc
  rw [decHV_yes (isHead_headW hs he hz hc), h1, h2, h3, h4]
set_option maxRecDepth 100000 in
set_option maxHeartbeats 4000000 in
theorem lawHeads_long (s e : Nat) (z c : Int) (w : World) (A : Option Addr) (cap : Nat) (l : List UInt8) (h : InB w w.heap.size A cap l) (hl : 100 < l.length) :
    Calls Try.prog 13 #[.agg #[.int .u64 (s : Int), .int .u64 (e : Int), .int .i64 z, .int .i64 c], .slice A l.length cap] w fun e w' => e = .returned (.bool true) ∧ Below w.heap.size w w' := by
  have hle := h.le
  have hmx := h.max
  have hB0 : Below w.heap.size w (w.alloc (.cells #[.int .u64 (s : Int), .int .u64 (e : Int), .int .i64 z, .int .i64 c] 109)) := (Below.refl _ w).alloc (Nat.le_refl _) _
  go_enter Try.func13, Try.ntmps13
  go_wp2_with (go_at_call 62; refine (works5_gives _).mono ?_; rintro x W6 ⟨rfl, hB⟩)
  go_ret
  exact ⟨rfl, hB0.trans (hB.mono hB0.size)⟩
set_option maxRecDepth 100000 in
set_option maxHeartbeats 8000000 in
theorem lawHeads_walk (s e : Nat) (z c : Int) (w : World) (A : Option Addr) (cap : Nat) (l : List UInt8) (hs : s < 2 ^ 64) (he : e < 2 ^ 64) (h : InB w w.heap.size A cap l) :
    Calls Try.prog 13 #[.agg #[.int .u64 (s : Int), .int .u64 (e : Int), .int .i64 z, .int .i64 c], .slice A l.length cap] w fun e w' => e = .returned (.bool true) ∧ Below w.heap.size w w' := by
  by_cases hl : 100 < l.length
  · exact lawHeads_long s e z c w A cap l h hl
  have hle := h.le
  have hmx := h.max
  have hB0 : Below w.heap.size w (w.alloc (.cells #[.int .u64 (s : Int), .int .u64 (e : Int), .int .i64 z, .int .i64 c] 109)) := (Below.refl _ w).alloc (Nat.le_refl _) _
  have hb0 := BlkIs.new w 109 #[.int .u64 (s : Int), .int .u64 (e : Int), .int .i64 z, .int .i64 c]
  have E1 := fun W => encodeHead_gives s e z c W
  have E2 := fun W => refEncodeHead_gives s e z c W hs he
  obtain ⟨s', e', z', c', r', hdv⟩ := decHV_form l
  cases hk : headOk z c with
  | false =>
    have h1 : hEnc s e z c = [] := by simp [hEnc, hk]
    have h2 : hErr z c = 2 := by simp [hErr, hk]
    rw [h1, h2] at E1 E2
    have HDV := Lib.hid (decHV_no (l := []) (by simp [isHead]))
    clear h1 h2 hk hs he
    go_enter Try.func13, Try.ntmps13
    go_wp2_with fail
    refine (E1 _).mono ?_
    rintro x W2 ⟨A2, c2, rfl, hin2, hB⟩
    have hB2 : Below w.heap.size w W2 := hB0.trans (hB.mono hB0.size)
    have hb2 := hb0.below hB hb0.lt
    clear hB hb0 hB0 E1
    go_wp2_with (refine wp_loadW rfl 109 (.tmp 2) rfl w.heap.size rfl rowHead hb2 (by rfl) ?_)
    refine (E2 _).mono ?_
    rintro x W3 ⟨A3, c3, rfl, hin3, hB⟩
    have hB3 := hB2.trans (hB.mono hB2.size)
    have hb3 := hb2.below hB hb2.lt
    replace hin2 := (hin2.below hB).more hB.size
    have hinl := (h.below hB3).more hB3.size
    clear hB hb2 hB2 E2
    go_wp2_with fail
    have D1 := decodeHead_gives W3 A cap l hinl
    rw [hdv] at D1
    refine D1.mono ?_
    rintro x W4 ⟨rfl, hB⟩
    have hB4 := hB3.trans (hB.mono hB3.size)
    have hb4 := hb3.below hB hb3.lt
    replace hin2 := (hin2.below hB).more hB.size
    replace hin3 := (hin3.below hB).more hB.size
    replace hinl := (hinl.below hB).more hB.size
    have ha := (Below.refl W4.heap.size W4).alloc (Nat.le_refl _) (.cells #[.int .u64 s', .int .u64 e', .int .i64 z', .int .i64 c'] 109)
    have hb5 := hb4.alloc (.cells #[.int .u64 s', .int .u64 e', .int .i64 z', .int .i64 c'] 109)
    have hk5 := BlkIs.new W4 109 #[.int .u64 s', .int .u64 e', .int .i64 z', .int .i64 c']
    have hB5 := hB4.trans (ha.mono hB4.size)
    replace hin2 := (hin2.below ha).more ha.size
    replace hin3 := (hin3.below ha).more ha.size
    replace hinl := (hinl.below ha).more ha.size
    clear hB hb3 hB3 hB4 hb4 D1 ha
    go_wp2_with fail
    generalize W4.alloc (.cells #[.int .u64 s', .int .u64 e', .int .i64 z', .int .i64 c'] 109) = W5 at *
    generalize W4.heap.size = g4 at *
    have D2 := refDecodeHead_gives W5 A cap l hinl
    rw [hdv] at D2
    refine D2.mono ?_
    rintro x W6 ⟨rfl, hB⟩
    have hB6 := hB5.trans (hB.mono hB5.size)
    have hb6 := hb5.below hB hb5.lt
    have hk6 := hk5.below hB hk5.lt
    replace hin2 := (hin2.below hB).more hB.size
    replace hin3 := (hin3.below hB).more hB.size
    have ha := (Below.refl W6.heap.size W6).alloc (Nat.le_refl _) (.cells #[.int .u64 s', .int .u64 e', .int .i64 z', .int .i64 c'] 109)
    have hb7 := hb6.alloc (.cells #[.int .u64 s', .int .u64 e', .int .i64 z', .int .i64 c'] 109)
    have hk7 := hk6.alloc (.cells #[.int .u64 s', .int .u64 e', .int .i64 z', .int .i64 c'] 109)
    have hm7 := BlkIs.new W6 109 #[.int .u64 s', .int .u64 e', .int .i64 z', .int .i64 c']
    have hB7 := hB6.trans (ha.mono hB6.size)
    replace hin2 := (hin2.below ha).more ha.size
    replace hin3 := (hin3.below ha).more ha.size
    have hst2 := hin2.string
    have hst3 := hin3.string
    try rw [List.length_nil] at hst2 hst3
    have cA0 : (W6.alloc (.cells #[.int .u64 s', .int .u64 e', .int .i64 z', .int .i64 c'] 109)).cell? ⟨g4, 0, none⟩ = some (.int .u64 s') := by rw [hk7.cell]; rfl
    have cA1 : (W6.alloc (.cells #[.int .u64 s', .int .u64 e', .int .i64 z', .int .i64 c'] 109)).cell? ⟨g4, 1, none⟩ = some (.int .u64 e') := by rw [hk7.cell]; rfl
    have cA2 : (W6.alloc (.cells #[.int .u64 s', .int .u64 e', .int .i64 z', .int .i64 c'] 109)).cell? ⟨g4, 2, none⟩ = some (.int .i64 z') := by rw [hk7.cell]; rfl
    have cA3 : (W6.alloc (.cells #[.int .u64 s', .int .u64 e', .int .i64 z', .int .i64 c'] 109)).cell? ⟨g4, 3, none⟩ = some (.int .i64 c') := by rw [hk7.cell]; rfl
    have cB0 : (W6.alloc (.cells #[.int .u64 s', .int .u64 e', .int .i64 z', .int .i64 c'] 109)).cell? ⟨W6.heap.size, 0, none⟩ = some (.int .u64 s') := by rw [hm7.cell]; rfl
    have cB1 : (W6.alloc (.cells #[.int .u64 s', .int .u64 e', .int .i64 z', .int .i64 c'] 109)).cell? ⟨W6.heap.size, 1, none⟩ = some (.int .u64 e') := by rw [hm7.cell]; rfl
    have cB2 : (W6.alloc (.cells #[.int .u64 s', .int .u64 e', .int .i64 z', .int .i64 c'] 109)).cell? ⟨W6.heap.size, 2, none⟩ = some (.int .i64 z') := by rw [hm7.cell]; rfl
    have cB3 : (W6.alloc (.cells #[.int .u64 s', .int .u64 e', .int .i64 z', .int .i64 c'] 109)).cell? ⟨W6.heap.size, 3, none⟩ = some (.int .i64 c') := by rw [hm7.cell]; rfl
    clear hB hb5 hk5 hB5 D2 ha hinl hdv hb6 hk6 hB6
    go_wp2_with (first
      | (go_at_call 60; refine (num5_gives _ _).mono ?_; rintro x w' ⟨rfl, rfl⟩))
    generalize W6.alloc (.cells #[.int .u64 s', .int .u64 e', .int .i64 z', .int .i64 c'] 109) = W7 at *
    clear hst2 hst3 cA0 cA1 cA2 cA3 cB0 cB1 cB2 cB3 hin3 hk7 hm7
    have D3 := decodeHead_gives W7 A2 c2 _ hin2
    rw [HDV.out] at D3
    try rw [List.length_nil] at D3
    refine D3.mono ?_
    rintro x W8 ⟨rfl, hB⟩
    have hB8 := hB7.trans (hB.mono hB7.size)
    have hb8 := hb7.below hB hb7.lt
    have ha := (Below.refl W8.heap.size W8).alloc (Nat.le_refl _) (.cells #[.int .u64 0, .int .u64 0, .int .i64 0, .int .i64 0] 109)
    have hb9 := hb8.alloc (.cells #[.int .u64 0, .int .u64 0, .int .i64 0, .int .i64 0] 109)
    have hm9 := BlkIs.new W8 109 #[.int .u64 0, .int .u64 0, .int .i64 0, .int .i64 0]
    have hB9 := hB8.trans (ha.mono hB8.size)
    have cC0 : (W8.alloc (.cells #[.int .u64 0, .int .u64 0, .int .i64 0, .int .i64 0] 109)).cell? ⟨W8.heap.size, 0, none⟩ = some (.int .u64 0) := by rw [hm9.cell]; rfl
    have cC1 : (W8.alloc (.cells #[.int .u64 0, .int .u64 0, .int .i64 0, .int .i64 0] 109)).cell? ⟨W8.heap.size, 1, none⟩ = some (.int .u64 0) := by rw [hm9.cell]; rfl
    have cC2 : (W8.alloc (.cells #[.int .u64 0, .int .u64 0, .int .i64 0, .int .i64 0] 109)).cell? ⟨W8.heap.size, 2, none⟩ = some (.int .i64 0) := by rw [hm9.cell]; rfl
    have cC3 : (W8.alloc (.cells #[.int .u64 0, .int .u64 0, .int .i64 0, .int .i64 0] 109)).cell? ⟨W8.heap.size, 3, none⟩ = some (.int .i64 0) := by rw [hm9.cell]; rfl
    have cD0 : (W8.alloc (.cells #[.int .u64 0, .int .u64 0, .int .i64 0, .int .i64 0] 109)).cell? ⟨w.heap.size, 0, none⟩ = some (.int .u64 (s : Int)) := by rw [hb9.cell]; rfl
    have cD1 : (W8.alloc (.cells #[.int .u64 0, .int .u64 0, .int .i64 0, .int .i64 0] 109)).cell? ⟨w.heap.size, 1, none⟩ = some (.int .u64 (e : Int)) := by rw [hb9.cell]; rfl
    have cD2 : (W8.alloc (.cells #[.int .u64 0, .int .u64 0, .int .i64 0, .int .i64 0] 109)).cell? ⟨w.heap.size, 2, none⟩ = some (.int .i64 z) := by rw [hb9.cell]; rfl
    have cD3 : (W8.alloc (.cells #[.int .u64 0, .int .u64 0, .int .i64 0, .int .i64 0] 109)).cell? ⟨w.heap.size, 3, none⟩ = some (.int .i64 c) := by rw [hb9.cell]; rfl
    clear D3 hB hb7 hB7 hb8 hB8 ha hb9 hm9 hin2 HDV
    go_wp2_with (first
      | (go_at_call 60; refine (num5_gives _ _).mono ?_; rintro x w' ⟨rfl, rfl⟩)
      | (go_at_call 62; refine (works5_gives _).mono ?_; rintro x W10 ⟨rfl, hB⟩))
    go_ret
    exact ⟨rfl, hB9.trans (hB.mono hB9.size)⟩
  | true =>
    obtain ⟨⟨hz0, hz1⟩, hc0, hc1⟩ := (headOk_iff z c).1 hk
    obtain ⟨z, rfl⟩ : ∃ zn : Nat, z = zn := ⟨z.toNat, by omega⟩
    obtain ⟨c, rfl⟩ : ∃ cn : Nat, c = cn := ⟨c.toNat, by omega⟩
    obtain ⟨h1, h2⟩ := hEnc_ok (s := s) (e := e) (z := z) (c := c) (by omega) (by omega)
    rw [h1, h2] at E1 E2
    have hdv2 := decHV_headW hs he (show z ≤ 2000 by omega) (show c ≤ 2000 by omega)
    generalize headW s e z c = L at *
    have HDV := Lib.hid hdv2
    clear h1 h2 hk hs he hdv2
    go_enter Try.func13, Try.ntmps13
    go_wp2_with fail
    refine (E1 _).mono ?_
    rintro x W2 ⟨A2, c2, rfl, hin2, hB⟩
    have hB2 : Below w.heap.size w W2 := hB0.trans (hB.mono hB0.size)
    have hb2 := hb0.below hB hb0.lt
    clear hB hb0 hB0 E1
    go_wp2_with (refine wp_loadW rfl 109 (.tmp 2) rfl w.heap.size rfl rowHead hb2 (by rfl) ?_)
    refine (E2 _).mono ?_
    rintro x W3 ⟨A3, c3, rfl, hin3, hB⟩
    have hB3 := hB2.trans (hB.mono hB2.size)
    have hb3 := hb2.below hB hb2.lt
    replace hin2 := (hin2.below hB).more hB.size
    have hinl := (h.below hB3).more hB3.size
    clear hB hb2 hB2 E2
    go_wp2_with fail
    have D1 := decodeHead_gives W3 A cap l hinl
    rw [hdv] at D1
    refine D1.mono ?_
    rintro x W4 ⟨rfl, hB⟩
    have hB4 := hB3.trans (hB.mono hB3.size)
    have hb4 := hb3.below hB hb3.lt
    replace hin2 := (hin2.below hB).more hB.size
    replace hin3 := (hin3.below hB).more hB.size
    replace hinl := (hinl.below hB).more hB.size
    have ha := (Below.refl W4.heap.size W4).alloc (Nat.le_refl _) (.cells #[.int .u64 s', .int .u64 e', .int .i64 z', .int .i64 c'] 109)
    have hb5 := hb4.alloc (.cells #[.int .u64 s', .int .u64 e', .int .i64 z', .int .i64 c'] 109)
    have hk5 := BlkIs.new W4 109 #[.int .u64 s', .int .u64 e', .int .i64 z', .int .i64 c']
    have hB5 := hB4.trans (ha.mono hB4.size)
    replace hin2 := (hin2.below ha).more ha.size
    replace hin3 := (hin3.below ha).more ha.size
    replace hinl := (hinl.below ha).more ha.size
    clear hB hb3 hB3 hB4 hb4 D1 ha
    go_wp2_with fail
    generalize W4.alloc (.cells #[.int .u64 s', .int .u64 e', .int .i64 z', .int .i64 c'] 109) = W5 at *
    generalize W4.heap.size = g4 at *
    have D2 := refDecodeHead_gives W5 A cap l hinl
    rw [hdv] at D2
    refine D2.mono ?_
    rintro x W6 ⟨rfl, hB⟩
    have hB6 := hB5.trans (hB.mono hB5.size)
    have hb6 := hb5.below hB hb5.lt
    have hk6 := hk5.below hB hk5.lt
    replace hin2 := (hin2.below hB).more hB.size
    replace hin3 := (hin3.below hB).more hB.size
    have ha := (Below.refl W6.heap.size W6).alloc (Nat.le_refl _) (.cells #[.int .u64 s', .int .u64 e', .int .i64 z', .int .i64 c'] 109)
    have hb7 := hb6.alloc (.cells #[.int .u64 s', .int .u64 e', .int .i64 z', .int .i64 c'] 109)
    have hk7 := hk6.alloc (.cells #[.int .u64 s', .int .u64 e', .int .i64 z', .int .i64 c'] 109)
    have hm7 := BlkIs.new W6 109 #[.int .u64 s', .int .u64 e', .int .i64 z', .int .i64 c']
    have hB7 := hB6.trans (ha.mono hB6.size)
    replace hin2 := (hin2.below ha).more ha.size
    replace hin3 := (hin3.below ha).more ha.size
    have hst2 := hin2.string
    have hst3 := hin3.string
    try rw [List.length_nil] at hst2 hst3
    have cA0 : (W6.alloc (.cells #[.int .u64 s', .int .u64 e', .int .i64 z', .int .i64 c'] 109)).cell? ⟨g4, 0, none⟩ = some (.int .u64 s') := by rw [hk7.cell]; rfl
    have cA1 : (W6.alloc (.cells #[.int .u64 s', .int .u64 e', .int .i64 z', .int .i64 c'] 109)).cell? ⟨g4, 1, none⟩ = some (.int .u64 e') := by rw [hk7.cell]; rfl
    have cA2 : (W6.alloc (.cells #[.int .u64 s', .int .u64 e', .int .i64 z', .int .i64 c'] 109)).cell? ⟨g4, 2, none⟩ = some (.int .i64 z') := by rw [hk7.cell]; rfl
    have cA3 : (W6.alloc (.cells #[.int .u64 s', .int .u64 e', .int .i64 z', .int .i64 c'] 109)).cell? ⟨g4, 3, none⟩ = some (.int .i64 c') := by rw [hk7.cell]; rfl
    have cB0 : (W6.alloc (.cells #[.int .u64 s', .int .u64 e', .int .i64 z', .int .i64 c'] 109)).cell? ⟨W6.heap.size, 0, none⟩ = some (.int .u64 s') := by rw [hm7.cell]; rfl
    have cB1 : (W6.alloc (.cells #[.int .u64 s', .int .u64 e', .int .i64 z', .int .i64 c'] 109)).cell? ⟨W6.heap.size, 1, none⟩ = some (.int .u64 e') := by rw [hm7.cell]; rfl
    have cB2 : (W6.alloc (.cells #[.int .u64 s', .int .u64 e', .int .i64 z', .int .i64 c'] 109)).cell? ⟨W6.heap.size, 2, none⟩ = some (.int .i64 z') := by rw [hm7.cell]; rfl
    have cB3 : (W6.alloc (.cells #[.int .u64 s', .int .u64 e', .int .i64 z', .int .i64 c'] 109)).cell? ⟨W6.heap.size, 3, none⟩ = some (.int .i64 c') := by rw [hm7.cell]; rfl
    clear hB hb5 hk5 hB5 D2 ha hinl hdv hb6 hk6 hB6
    go_wp2_with (first
      | (go_at_call 60; refine (num5_gives _ _).mono ?_; rintro x w' ⟨rfl, rfl⟩))
    generalize W6.alloc (.cells #[.int .u64 s', .int .u64 e', .int .i64 z', .int .i64 c'] 109) = W7 at *
    clear hst2 hst3 cA0 cA1 cA2 cA3 cB0 cB1 cB2 cB3 hin3 hk7 hm7
    have D3 := decodeHead_gives W7 A2 c2 _ hin2
    rw [HDV.out] at D3
    try rw [List.length_nil] at D3
    refine D3.mono ?_
    rintro x W8 ⟨rfl, hB⟩
    have hB8 := hB7.trans (hB.mono hB7.size)
    have hb8 := hb7.below hB hb7.lt
    have ha := (Below.refl W8.heap.size W8).alloc (Nat.le_refl _) (.cells #[.int .u64 (s : Int), .int .u64 (e : Int), .int .i64 (z : Int), .int .i64 (c : Int)] 109)
    have hb9 := hb8.alloc (.cells #[.int .u64 (s : Int), .int .u64 (e : Int), .int .i64 (z : Int), .int .i64 (c : Int)] 109)
    have hm9 := BlkIs.new W8 109 #[.int .u64 (s : Int), .int .u64 (e : Int), .int .i64 (z : Int), .int .i64 (c : Int)]
    have hB9 := hB8.trans (ha.mono hB8.size)
    have cC0 : (W8.alloc (.cells #[.int .u64 (s : Int), .int .u64 (e : Int), .int .i64 (z : Int), .int .i64 (c : Int)] 109)).cell? ⟨W8.heap.size, 0, none⟩ = some (.int .u64 (s : Int)) := by rw [hm9.cell]; rfl
    have cC1 : (W8.alloc (.cells #[.int .u64 (s : Int), .int .u64 (e : Int), .int .i64 (z : Int), .int .i64 (c : Int)] 109)).cell? ⟨W8.heap.size, 1, none⟩ = some (.int .u64 (e : Int)) := by rw [hm9.cell]; rfl
    have cC2 : (W8.alloc (.cells #[.int .u64 (s : Int), .int .u64 (e : Int), .int .i64 (z : Int), .int .i64 (c : Int)] 109)).cell? ⟨W8.heap.size, 2, none⟩ = some (.int .i64 (z : Int)) := by rw [hm9.cell]; rfl
    have cC3 : (W8.alloc (.cells #[.int .u64 (s : Int), .int .u64 (e : Int), .int .i64 (z : Int), .int .i64 (c : Int)] 109)).cell? ⟨W8.heap.size, 3, none⟩ = some (.int .i64 (c : Int)) := by rw [hm9.cell]; rfl
    have cD0 : (W8.alloc (.cells #[.int .u64 (s : Int), .int .u64 (e : Int), .int .i64 (z : Int), .int .i64 (c : Int)] 109)).cell? ⟨w.heap.size, 0, none⟩ = some (.int .u64 (s : Int)) := by rw [hb9.cell]; rfl
    have cD1 : (W8.alloc (.cells #[.int .u64 (s : Int), .int .u64 (e : Int), .int .i64 (z : Int), .int .i64 (c : Int)] 109)).cell? ⟨w.heap.size, 1, none⟩ = some (.int .u64 (e : Int)) := by rw [hb9.cell]; rfl
    have cD2 : (W8.alloc (.cells #[.int .u64 (s : Int), .int .u64 (e : Int), .int .i64 (z : Int), .int .i64 (c : Int)] 109)).cell? ⟨w.heap.size, 2, none⟩ = some (.int .i64 (z : Int)) := by rw [hb9.cell]; rfl
    have cD3 : (W8.alloc (.cells #[.int .u64 (s : Int), .int .u64 (e : Int), .int .i64 (z : Int), .int .i64 (c : Int)] 109)).cell? ⟨w.heap.size, 3, none⟩ = some (.int .i64 (c : Int)) := by rw [hb9.cell]; rfl
    clear D3 hB hb7 hB7 hb8 hB8 ha hb9 hm9 hin2 HDV
    go_wp2_with (first
      | (go_at_call 60; refine (num5_gives _ _).mono ?_; rintro x w' ⟨rfl, rfl⟩)
      | (go_at_call 62; refine (works5_gives _).mono ?_; rintro x W10 ⟨rfl, hB⟩))
    go_ret
    exact ⟨rfl, hB9.trans (hB.mono hB9.size)⟩

end Go.Proofs.Ytlelckdcmlpmdaa
