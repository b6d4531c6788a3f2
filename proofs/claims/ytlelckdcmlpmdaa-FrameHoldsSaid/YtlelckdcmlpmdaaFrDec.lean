/- frame: the reader's take and number. -/
import Derived.Test.YtlelckdcmlpmdaaFrEnc
import Derived.Test.YtlelckdcmlpmdaaOctRdFix
import Derived.Test.YtlelckdcmlpmdaaActs2
namespace Go.Proofs.Ytlelckdcmlpmdaa
open Go Go.RowKit Lou

theorem ftake_gives (w : World) (g o : Nat) (A : Option Addr) (len c n : Nat) (hlen : len ≤ c) (hcc : c ≤ 9223372036854775807) (hn : n ≤ len) (hc : w.cell? ⟨g, o, none⟩ = some (.slice A len c)) (hf : w.frozen? ⟨g, o, none⟩ = false) :
    Calls Try.prog 143 #[.pointer (some ⟨g, o, none⟩), .int .i64 n] w fun e w' => e = .returned (.slice A n n) ∧ w.setCell ⟨g, o, none⟩ (.slice (cutA A c n) (len - n) (c - n)) = w' := by
  by_cases hcn : c = n
  · obtain rfl : len = c := by omega
    subst hcn
    go_enter Try.func143, Try.ntmps143
    go_wp2
    go_ret
    refine ⟨rfl, ?_⟩
    simp [cutA]
  · go_enter Try.func143, Try.ntmps143
    go_wp2
    go_ret
    refine ⟨rfl, ?_⟩
    simp [cutA, hcn]

/-- A reader stands at bytes l. -/
structure RdrAt (w : World) (g : Nat) (A : Option Addr) (c : Nat) (l : List UInt8) : Prop where
  blk : BlkIs w g 242 #[.slice A l.length c]
  inb : InB w g A c l
theorem RdrAt.below {w w' : World} {g : Nat} {A : Option Addr} {c : Nat} {l : List UInt8} (h : RdrAt w g A c l) (hB : Below w.heap.size w w') : RdrAt w' g A c l :=
  ⟨h.blk.below hB h.blk.lt, h.inb.below (hB.mono (Nat.le_of_lt h.blk.lt))⟩
theorem RdrAt.cut {w : World} {g : Nat} {A : Option Addr} {c : Nat} {l : List UInt8} (h : RdrAt w g A c l) (n : Nat) (hn : n ≤ l.length) : RdrAt (w.setCell ⟨g, 0, none⟩ (.slice (cutA A c n) (l.length - n) (c - n))) g (cutA A c n) (c - n) (l.drop n) := by
  refine ⟨?_, (h.inb.drop n hn).keep fun p hp => World.cell?_setCell_other w _ p _ (fun e => by subst e; simp at hp)⟩
  have := h.blk.set 0 (.slice (cutA A c n) (l.length - n) (c - n))
  rw [List.length_drop]
  exact this

set_option maxRecDepth 100000 in
set_option maxHeartbeats 1000000 in
theorem number64_gives (w : World) (g : Nat) (A : Option Addr) (c : Nat) (l : List UInt8) (h : RdrAt w g A c l) (hl : 8 ≤ l.length) :
    Calls Try.prog 138 #[.pointer (some ⟨g, 0, none⟩), .int .i64 8, .func (.func 40) #[] #[]] w fun e w' => e = .returned (.int .u64 (rfix (l.take 8) : Int)) ∧ RdrAt w' g (cutA A c 8) (c - 8) (l.drop 8) ∧ Below g w w' := by
  have hle := h.inb.le
  have hmx := h.inb.max
  have T := ftake_gives w g 0 A l.length c 8 hle hmx hl (by rw [h.blk.cell]; rfl) (h.blk.free 0)
  have hR := h.cut 8 hl
  have hB1 : Below g w (w.setCell ⟨g, 0, none⟩ (.slice (cutA A c 8) (l.length - 8) (c - 8))) := (Below.refl g w).setCell (p := ⟨g, 0, none⟩) (Nat.le_refl g) _
  have hin := h.inb.below hB1
  clear h
  generalize w.setCell ⟨g, 0, none⟩ (.slice (cutA A c 8) (l.length - 8) (c - 8)) = w1 at *
  have ht := hin.take 8 8 hl (Nat.le_refl _) (by omega)
  have E := readEight_gives w1 A 8 (l.take 8) (ht.more (Nat.le_of_lt hR.blk.lt))
  have hl8 : (l.take 8).length = 8 := by simp; omega
  rw [fixV_ge (by omega), hl8, List.take_take, Nat.min_self] at E
  have hg := hR.blk.lt
  go_enter Try.func138, Try.ntmps138
  go_wp2_with (first | (go_at_call 143; refine T.mono ?_; rintro e w' ⟨rfl, rfl⟩) | (go_at_call 40; refine E.mono ?_; rintro e w' ⟨rfl, hB2⟩))
  go_ret
  exact ⟨rfl, hR.below hB2, hB1.trans (hB2.mono (Nat.le_of_lt hg))⟩
set_option maxRecDepth 100000 in
set_option maxHeartbeats 1000000 in
theorem number32_gives (w : World) (g : Nat) (A : Option Addr) (c : Nat) (l : List UInt8) (h : RdrAt w g A c l) (hl : 4 ≤ l.length) :
    Calls Try.prog 139 #[.pointer (some ⟨g, 0, none⟩), .int .i64 4, .func (.func 39) #[] #[]] w fun e w' => e = .returned (.int .u32 (rfix (l.take 4) : Int)) ∧ RdrAt w' g (cutA A c 4) (c - 4) (l.drop 4) ∧ Below g w w' := by
  have hle := h.inb.le
  have hmx := h.inb.max
  have T := ftake_gives w g 0 A l.length c 4 hle hmx hl (by rw [h.blk.cell]; rfl) (h.blk.free 0)
  have hR := h.cut 4 hl
  have hB1 : Below g w (w.setCell ⟨g, 0, none⟩ (.slice (cutA A c 4) (l.length - 4) (c - 4))) := (Below.refl g w).setCell (p := ⟨g, 0, none⟩) (Nat.le_refl g) _
  have hin := h.inb.below hB1
  clear h
  generalize w.setCell ⟨g, 0, none⟩ (.slice (cutA A c 4) (l.length - 4) (c - 4)) = w1 at *
  have ht := hin.take 4 4 hl (Nat.le_refl _) (by omega)
  have E := readFour_gives w1 A 4 (l.take 4) (ht.more (Nat.le_of_lt hR.blk.lt))
  have hl4 : (l.take 4).length = 4 := by simp; omega
  rw [fixV32_ge (by omega), hl4, List.take_take, Nat.min_self] at E
  have hg := hR.blk.lt
  go_enter Try.func139, Try.ntmps139
  go_wp2_with (first | (go_at_call 143; refine T.mono ?_; rintro e w' ⟨rfl, rfl⟩) | (go_at_call 39; refine E.mono ?_; rintro e w' ⟨rfl, hB2⟩))
  go_ret
  exact ⟨rfl, hR.below hB2, hB1.trans (hB2.mono (Nat.le_of_lt hg))⟩

/-- What DecodeHead tells of bytes. -/
def decHV (l : List UInt8) : Value := if isHead l then .tuple #[.agg #[.int .u64 (hdS l : Int), .int .u64 (hdE l : Int), .int .i64 (hdZ l : Int), .int .i64 (hdC l : Int)], .int .i64 0] else .tuple #[.agg #[.int .u64 0, .int .u64 0, .int .i64 0, .int .i64 0], .int .i64 150]
theorem decHV_no {l : List UInt8} (h : isHead l = false) : decHV l = .tuple #[.agg #[.int .u64 0, .int .u64 0, .int .i64 0, .int .i64 0], .int .i64 150] := by simp [decHV, h]
theorem decHV_yes {l : List UInt8} (h : isHead l = true) : decHV l = .tuple #[.agg #[.int .u64 (hdS l : Int), .int .u64 (hdE l : Int), .int .i64 (hdZ l : Int), .int .i64 (hdC l : Int)], .int .i64 0] := by simp [decHV, h]
theorem rfix_take4 (l : List UInt8) : rfix (l.take 4) < 4294967296 := by
  have h1 := rfix_lt (l.take 4)
  have h2 : 256 ^ (l.take 4).length ≤ 256 ^ 4 := Nat.pow_le_pow_right (by omega) (by simp; omega)
  have h3 : (256 : Nat) ^ 4 = 4294967296 := by decide
  omega
theorem rfix_take8 (l : List UInt8) : rfix (l.take 8) < 2 ^ 64 := by
  have h1 := rfix_lt (l.take 8)
  have h2 : 256 ^ (l.take 8).length ≤ 256 ^ 8 := Nat.pow_le_pow_right (by omega) (by simp; omega)
  have h3 : (256 : Nat) ^ 8 = 2 ^ 64 := by decide
  omega
theorem zeroHead_one : ∀ v ∈ (#[.int .u64 0, .int .u64 0, .int .i64 0, .int .i64 0] : Array Value).toList, v.oneCell' = true := by
  intro v hv
  simp at hv
  rcases hv with rfl | rfl <;> rfl
theorem head_one (s e z c : Int) : ∀ v ∈ (#[.int .u64 s, .int .u64 e, .int .i64 z, .int .i64 c] : Array Value).toList, v.oneCell' = true := by
  intro v hv
  simp at hv
  rcases hv with rfl | rfl | rfl | rfl <;> rfl

set_option maxRecDepth 100000 in
set_option maxHeartbeats 4000000 in
theorem decodeHead_len (w : World) (A : Option Addr) (c : Nat) (l : List UInt8) (h : InB w w.heap.size A c l) (hl : l.length ≠ 64) :
    Calls Try.prog 72 #[.slice A l.length c] w fun x w' => x = .returned (decHV l) ∧ Below w.heap.size w w' := by
  have hb0 := BlkIs.new w 109 #[.int .u64 0, .int .u64 0, .int .i64 0, .int .i64 0]
  have hB0 : Below w.heap.size w (w.alloc (.cells #[.int .u64 0, .int .u64 0, .int .i64 0, .int .i64 0] 109)) := (Below.refl _ w).alloc (Nat.le_refl _) _
  have hle := h.le
  have hmx := h.max
  have hno : isHead l = false := by cases hi : isHead l; rfl; exact absurd ((isHead_iff l).1 hi).1 hl
  rw [decHV_no hno]
  have hq : ((l.length : Int) == 64) = false := by simp; omega
  clear hno hl
  go_enter Try.func72, Try.ntmps72
  go_wp2_with (refine wp_storeW rfl 109 (.tmp 2) (.tmp 35) rfl w.heap.size rfl rfl rowHead hb0 (by rfl) (by rfl) zeroHead_one ?_)
  refine bodyPost_ret_by (results_cellW_tmp 2 3 rfl rfl rfl rowHead (hb0.setRow _) (by rfl)) rfl ⟨rfl, below_setRow hB0 (Nat.le_refl _) _⟩

set_option maxRecDepth 100000 in
set_option maxHeartbeats 8000000 in
theorem decodeHead_64 (w : World) (A : Option Addr) (c : Nat) (l : List UInt8) (h : InB w w.heap.size A c l) (hl64 : l.length = 64) :
    Calls Try.prog 72 #[.slice A 64 c] w fun x w' => x = .returned (decHV l) ∧ Below w.heap.size w w' := by
  have hle := h.le
  have hmx := h.max
  obtain ⟨g, o, rfl, hg, hcs⟩ := h.lies (by omega)
  have hb0 := (BlkIs.new w 109 #[.int .u64 0, .int .u64 0, .int .i64 0, .int .i64 0]).alloc (.cells #[.slice (some ⟨g, o, none⟩) 64 c] 242)
  have hB0 : Below w.heap.size w ((w.alloc (.cells #[.int .u64 0, .int .u64 0, .int .i64 0, .int .i64 0] 109)).alloc (.cells #[.slice (some ⟨g, o, none⟩) 64 c] 242)) := ((Below.refl _ w).alloc (Nat.le_refl _) _).alloc (by simp) _
  have hr0 : RdrAt ((w.alloc (.cells #[.int .u64 0, .int .u64 0, .int .i64 0, .int .i64 0] 109)).alloc (.cells #[.slice (some ⟨g, o, none⟩) 64 c] 242)) (w.heap.size + 1) (some ⟨g, o, none⟩) c l := by
    refine ⟨?_, (h.below hB0).more (by omega)⟩
    have := BlkIs.new (w.alloc (.cells #[.int .u64 0, .int .u64 0, .int .i64 0, .int .i64 0] 109)) 242 #[.slice (some ⟨g, o, none⟩) 64 c]
    rw [World.size_alloc] at this
    rw [hl64]
    exact this
  have HL := Lib.hid hl64
  clear hl64
  go_enter Try.func72, Try.ntmps72
  go_wp2_with fail
  generalize (w.alloc (.cells #[.int .u64 0, .int .u64 0, .int .i64 0, .int .i64 0] 109)).alloc (.cells #[.slice (some ⟨g, o, none⟩) 64 c] 242) = W1 at *
  refine (number64_gives W1 _ _ c l hr0 (by have := HL.out; omega)).mono ?_
  rintro x W2 ⟨rfl, hr1, hb1⟩
  go_wp2_with fail
  refine (number64_gives W2 _ _ _ _ hr1 (by have := HL.out; simp; omega)).mono ?_
  rintro x W3 ⟨rfl, hr2, hb2⟩
  rw [List.drop_drop] at hr2
  go_wp2_with fail
  refine (number32_gives W3 _ _ _ _ hr2 (by have := HL.out; simp; omega)).mono ?_
  rintro x W4 ⟨rfl, hr3, hb3⟩
  rw [List.drop_drop] at hr3
  have hz := rfix_take4 (l.drop (8 + 8))
  have hzw : IntKind.i64.wrap (rfix ((l.drop (8 + 8)).take 4) : Int) = (rfix ((l.drop (8 + 8)).take 4) : Int) := wrap_i64_fr _ (by omega) (by omega)
  go_wp2_with fail
  refine (number32_gives W4 _ _ _ _ hr3 (by have := HL.out; simp; omega)).mono ?_
  rintro x W5 ⟨rfl, hr4, hb4⟩
  have hcc := rfix_take4 (l.drop (8 + 8 + 4))
  have hcw : IntKind.i64.wrap (rfix ((l.drop (8 + 8 + 4)).take 4) : Int) = (rfix ((l.drop (8 + 8 + 4)).take 4) : Int) := wrap_i64_fr _ (by omega) (by omega)
  go_wp2_with fail
  have hB25 : Below (w.heap.size + 1) W1 W5 := ((hb1.trans hb2).trans hb3).trans hb4
  have hB05 : Below w.heap.size w W5 := hB0.trans (hB25.mono (by omega))
  have hz0 := hb0.below hB25 (by omega)
  have hin5 := h.below hB05
  have s05 := hB05.size
  have eS : rfix (l.take 8) = hdS l := rfl
  have eE : rfix ((l.drop 8).take 8) = hdE l := rfl
  have eZ : rfix ((l.drop 16).take 4) = hdZ l := rfl
  have eC : rfix ((l.drop 20).take 4) = hdC l := rfl
  have hzb : hdZ l < 4294967296 := rfix_take4 _
  have hcb : hdC l < 4294967296 := rfix_take4 _
  have hiff : isHead l = (headOk (hdZ l) (hdC l) && (headW (hdS l) (hdE l) (hdZ l) (hdC l) == l)) := by
    rw [Bool.eq_iff_iff, isHead_iff, Bool.and_eq_true, headOk_iff, beq_iff_eq]
    constructor
    · rintro ⟨_, a1, a2, a3⟩
      exact ⟨by omega, a3⟩
    · rintro ⟨a1, a2⟩
      exact ⟨HL.out, by omega, by omega, a2⟩
  rw [eS, eE, eZ, eC]
  have hdv : decHV l = if isHead l then .tuple #[.agg #[.int .u64 (hdS l : Int), .int .u64 (hdE l : Int), .int .i64 (hdZ l : Int), .int .i64 (hdC l : Int)], .int .i64 0] else .tuple #[.agg #[.int .u64 0, .int .u64 0, .int .i64 0, .int .i64 0], .int .i64 150] := rfl
  clear eS eE eZ eC hz hcc hzw hcw hr0 hr1 hr2 hr3 hr4 hb1 hb2 hb3 hb4 hB25 hB0 hb0
  generalize hdS l = s at *
  generalize hdE l = e at *
  generalize hdZ l = z at *
  generalize hdC l = cc at *
  have HI := Lib.hid hiff
  have HD := Lib.hid hdv
  clear hiff hdv
  have hB06 : Below w.heap.size w (W5.alloc (.cells #[.int .u64 (s : Int), .int .u64 (e : Int), .int .i64 (z : Int), .int .i64 (cc : Int)] 109)) := hB05.alloc s05 _
  have hz6 := hz0.alloc (.cells #[.int .u64 (s : Int), .int .u64 (e : Int), .int .i64 (z : Int), .int .i64 (cc : Int)] 109)
  have hk6 := BlkIs.new W5 109 #[.int .u64 (s : Int), .int .u64 (e : Int), .int .i64 (z : Int), .int .i64 (cc : Int)]
  have hin6 : InB (W5.alloc (.cells #[.int .u64 (s : Int), .int .u64 (e : Int), .int .i64 (z : Int), .int .i64 (cc : Int)] 109)) w.heap.size (some ⟨g, o, none⟩) c l := hin5.below ((Below.refl _ W5).alloc s05 _)
  generalize hW6 : W5.alloc (.cells #[.int .u64 (s : Int), .int .u64 (e : Int), .int .i64 (z : Int), .int .i64 (cc : Int)] 109) = W6 at *
  clear hW6
  have s06 := hB06.size
  have hl5 : ∀ w', Grow W6 w' → (loadVar 109 ⟨W5.heap.size, 0, none⟩).run Try.prog w' = .ok (.agg #[.int .u64 (s : Int), .int .u64 (e : Int), .int .i64 (z : Int), .int .i64 (cc : Int)]) w' := fun w' hG => run_loadW rowHead (hk6.below hG hk6.lt)
  have hlb : ∀ w', Grow W6 w' → (loadVar 236 ⟨g, o, none⟩).run Try.prog w' = .ok (.agg (l.map b8).toArray) w' := fun w' hG => by
    have hi := (hin6.more s06).below hG
    refine run_loadVar_mid (P := Try.prog) w' g o 236 (l.map b8) _ ?_ Try.underlying236 rfl (by simp only [List.length_map]; rw [HL.out]; kernel_rfl)
    intro j v hj
    have hj2 : j < l.length := by
      have := (List.getElem?_eq_some_iff.1 hj).1
      simpa using this
    obtain ⟨g', o', e1, _, hc⟩ := hi.lies (by omega)
    injection e1 with e1
    injection e1 with e1 e2
    subst e1 e2
    rw [hc j hj2]
    rw [List.getElem?_map, List.getElem?_eq_getElem hj2] at hj
    simpa [b8] using hj
  have hfit0 := fits_gives s e z cc
  generalize W5.heap.size = g5 at *
  cases hk : headOk z cc with
  | false =>
    have hfit := hfit0
    rw [hk] at hfit
    have hno : isHead l = false := by rw [HI.out, hk]; rfl
    open Reg in
    refine region_acts (by kernel_rfl) (by kernel_rfl) 36 rfl (by kernel_rfl) [24, 25, 26, 27, 28, 29, 30, 31, 32, 33] (by kernel_rfl)
      [(5, .val (.pointer (some ⟨g5, 0, none⟩))), (0, .val (.slice (some ⟨g, o, none⟩) 64 c))]
      [(24, .val (.agg #[.int .u64 (s : Int), .int .u64 (e : Int), .int .i64 (z : Int), .int .i64 (cc : Int)])), (25, .val (.bool false)), (26, .val (.bool false)), (27, .any), (28, .any), (29, .any), (30, .any), (31, .any), (32, .any), (33, .val ((Go.Value.bool false)))]
      ⟨rfl, rfl, trivial⟩ (by kernel_rfl)
      (allOk_cons (ok_none rfl (l_loadV (.tmp 5) (⟨g5, 0, none⟩) 109 (.agg #[.int .u64 (s : Int), .int .u64 (e : Int), .int .i64 (z : Int), .int .i64 (cc : Int)]) rfl (hs 5 (.pointer (some ⟨g5, 0, none⟩)) (by kernel_rfl) (by kernel_rfl)) (fun w hg => hl5 w hg) (by kernel_rfl)))
      <| allOk_cons (ok_none rfl (l_call 136 _ _ rfl (enters_of Try.func136 (by kernel_rfl) rfl) #[.agg #[.int .u64 (s : Int), .int .u64 (e : Int), .int .i64 (z : Int), .int .i64 (cc : Int)]] (.val (.bool false)) (args1 (hs 24 (.agg #[.int .u64 (s : Int), .int .u64 (e : Int), .int .i64 (z : Int), .int .i64 (cc : Int)]) (by kernel_rfl) (by kernel_rfl))) (fun w hg => gives_grow (hfit w)) (by kernel_rfl)))
      <| allOk_cons (ok_none rfl (l_mvF 25 (.val (.bool false)) (.inl rfl) (by kernel_rfl) (by kernel_rfl) (by kernel_rfl)))
      <| allOk_cons (okg_not 2 true 26 rfl (by kernel_rfl) (by kernel_rfl) (by kernel_rfl) (by kernel_rfl))
      <| allOk_cons (okg_not 2 true 26 rfl (by kernel_rfl) (by kernel_rfl) (by kernel_rfl) (by kernel_rfl))
      <| allOk_cons (okg_not 2 true 26 rfl (by kernel_rfl) (by kernel_rfl) (by kernel_rfl) (by kernel_rfl))
      <| allOk_cons (okg_not 2 true 26 rfl (by kernel_rfl) (by kernel_rfl) (by kernel_rfl) (by kernel_rfl))
      <| allOk_cons (okg_not 2 true 26 rfl (by kernel_rfl) (by kernel_rfl) (by kernel_rfl) (by kernel_rfl))
      <| allOk_cons (okg_not 2 true 26 rfl (by kernel_rfl) (by kernel_rfl) (by kernel_rfl) (by kernel_rfl))
      <| allOk_cons (ok_none rfl (l_pickF (.tmp 26) (.tmp 32) (.const (Go.Value.bool false)) ((Go.Value.bool false)) rfl (hs 26 (.bool false) (by kernel_rfl) (by kernel_rfl)) (hc _) (by kernel_rfl)))
      <| allOk_nil) ?_
    intro a W7 hsz hdef hGW7 hF hU
    have e33 : a.eval (.tmp 33) = (Go.Value.bool false) := hF 33
    have ha := Reg.acts_eq [24, 25, 26, 27, 28, 29, 30, 31, 32, 33] hsz hdef hU
    clear hF hU hdef
    simp only [List.foldl_cons, List.foldl_nil, e33] at ha
    clear e33 hsz
    generalize a.eval (.tmp 24) = v24 at *
    generalize a.eval (.tmp 25) = v25 at *
    generalize a.eval (.tmp 26) = v26 at *
    generalize a.eval (.tmp 27) = v27 at *
    generalize a.eval (.tmp 28) = v28 at *
    generalize a.eval (.tmp 29) = v29 at *
    generalize a.eval (.tmp 30) = v30 at *
    generalize a.eval (.tmp 31) = v31 at *
    generalize a.eval (.tmp 32) = v32 at *
    simp only [Act.put, List.setIfInBounds_toArray, List.set_cons_succ, List.set_cons_zero] at ha
    subst ha
    simp only [Exit.then]
    refine ‹∀ (a : Act) (w : World), Code.wp Try.prog _ _ a w → _› _ W7 ?_
    have hz7 := hz6.below hGW7 hz6.lt
    have hB07 : Below w.heap.size w W7 := hB06.trans (hGW7.mono s06)
    go_wp2_with (refine wp_storeW rfl 109 (.tmp 2) (.tmp 35) rfl w.heap.size rfl rfl rowHead hz7 (by rfl) (by rfl) zeroHead_one ?_)
    refine bodyPost_ret_by (results_cellW_tmp 2 3 rfl rfl rfl rowHead (hz7.setRow _) (by rfl)) rfl ⟨?_, below_setRow hB07 (Nat.le_refl _) _⟩
    rw [HD.out, hno]
    rfl
  | true =>
    obtain ⟨⟨_, hz1⟩, _, hc1⟩ := (headOk_iff _ _).1 hk
    have hfit := hfit0
    rw [hk] at hfit
    have hyes : isHead l = (headW s e z cc == l) := by rw [HI.out, hk]; rfl
    have hhead := head_gives s e z cc (by omega) (by omega)
    have hW64 := headW_length s e z cc
    have hl64 := HL.out
    generalize headW s e z cc = HW at *
    have HY := Lib.hid hyes
    clear hyes hk
    open Reg in
    refine region_acts (by kernel_rfl) (by kernel_rfl) 36 rfl (by kernel_rfl) [24, 25, 26, 27, 28, 29, 30, 31, 32, 33] (by kernel_rfl)
      [(5, .val (.pointer (some ⟨g5, 0, none⟩))), (0, .val (.slice (some ⟨g, o, none⟩) 64 c))]
      [(24, .val (.agg #[.int .u64 (s : Int), .int .u64 (e : Int), .int .i64 (z : Int), .int .i64 (cc : Int)])), (25, .val (.bool true)), (26, .val (.bool true)), (27, .val (.agg #[.int .u64 (s : Int), .int .u64 (e : Int), .int .i64 (z : Int), .int .i64 (cc : Int)])), (28, .val (.agg (HW.map b8).toArray)), (29, .val (.slice (some ⟨g, o, none⟩) 64 c)), (30, .val (.pointer (some ⟨g, o, none⟩))), (31, .val (.agg (l.map b8).toArray)), (32, .val (.bool (HW == l))), (33, .val (.bool (HW == l)))]
      ⟨rfl, rfl, trivial⟩ (by kernel_rfl)
      (allOk_cons (ok_none rfl (l_loadV (.tmp 5) (⟨g5, 0, none⟩) 109 (.agg #[.int .u64 (s : Int), .int .u64 (e : Int), .int .i64 (z : Int), .int .i64 (cc : Int)]) rfl (hs 5 (.pointer (some ⟨g5, 0, none⟩)) (by kernel_rfl) (by kernel_rfl)) (fun w hg => hl5 w hg) (by kernel_rfl)))
      <| allOk_cons (ok_none rfl (l_call 136 _ _ rfl (enters_of Try.func136 (by kernel_rfl) rfl) #[.agg #[.int .u64 (s : Int), .int .u64 (e : Int), .int .i64 (z : Int), .int .i64 (cc : Int)]] (.val (.bool true)) (args1 (hs 24 (.agg #[.int .u64 (s : Int), .int .u64 (e : Int), .int .i64 (z : Int), .int .i64 (cc : Int)]) (by kernel_rfl) (by kernel_rfl))) (fun w hg => gives_grow (hfit w)) (by kernel_rfl)))
      <| allOk_cons (ok_none rfl (l_mvF 25 (.val (.bool true)) (.inl rfl) (by kernel_rfl) (by kernel_rfl) (by kernel_rfl)))
      <| allOk_cons (okg 2 true 26 rfl (by kernel_rfl) (by kernel_rfl) (by kernel_rfl) (l_loadV (.tmp 5) (⟨g5, 0, none⟩) 109 (.agg #[.int .u64 (s : Int), .int .u64 (e : Int), .int .i64 (z : Int), .int .i64 (cc : Int)]) rfl (hs 5 (.pointer (some ⟨g5, 0, none⟩)) (by kernel_rfl) (by kernel_rfl)) (fun w hg => hl5 w hg) (by kernel_rfl)))
      <| allOk_cons (okg 2 true 26 rfl (by kernel_rfl) (by kernel_rfl) (by kernel_rfl) (l_call 137 _ _ rfl (enters_of Try.func137 (by kernel_rfl) rfl) #[.agg #[.int .u64 (s : Int), .int .u64 (e : Int), .int .i64 (z : Int), .int .i64 (cc : Int)]] (.val (.agg (HW.map b8).toArray)) (args1 (hs 27 (.agg #[.int .u64 (s : Int), .int .u64 (e : Int), .int .i64 (z : Int), .int .i64 (cc : Int)]) (by kernel_rfl) (by kernel_rfl))) (fun w hg => gives_grow (hhead w)) (by kernel_rfl)))
      <| allOk_cons (okg 2 true 26 rfl (by kernel_rfl) (by kernel_rfl) (by kernel_rfl) (l_mvF 0 (.val (.slice (some ⟨g, o, none⟩) 64 c)) (.inl rfl) (by kernel_rfl) (by kernel_rfl) (by kernel_rfl)))
      <| allOk_cons (okg 2 true 26 rfl (by kernel_rfl) (by kernel_rfl) (by kernel_rfl) (l_s2a (.tmp 29) g o 64 c (by decide) rfl (hs 29 _ (by kernel_rfl) (by kernel_rfl)) (by kernel_rfl)))
      <| allOk_cons (okg 2 true 26 rfl (by kernel_rfl) (by kernel_rfl) (by kernel_rfl) (l_loadV (.tmp 30) (⟨g, o, none⟩) 236 (.agg (l.map b8).toArray) rfl (hs 30 (.pointer (some ⟨g, o, none⟩)) (by kernel_rfl) (by kernel_rfl)) (fun w hg => hlb w hg) (by kernel_rfl)))
      <| allOk_cons (okg 2 true 26 rfl (by kernel_rfl) (by kernel_rfl) (by kernel_rfl) (l_eqArr (.tmp 28) (.tmp 31) _ HW l hW64 hl64 rfl (hs 28 _ (by kernel_rfl) (by kernel_rfl)) (hs 31 _ (by kernel_rfl) (by kernel_rfl)) (by kernel_rfl)))
      <| allOk_cons (ok_none rfl (l_pickT (.tmp 26) (.tmp 32) (.const (Go.Value.bool false)) (.bool (HW == l)) rfl (hs 26 (.bool true) (by kernel_rfl) (by kernel_rfl)) (hs 32 (.bool (HW == l)) (by kernel_rfl) (by kernel_rfl)) (by kernel_rfl)))
      <| allOk_nil) ?_
    intro a W7 hsz hdef hGW7 hF hU
    have e33 : a.eval (.tmp 33) = .bool (HW == l) := hF 33
    have ha := Reg.acts_eq [24, 25, 26, 27, 28, 29, 30, 31, 32, 33] hsz hdef hU
    clear hF hU hdef
    simp only [List.foldl_cons, List.foldl_nil, e33] at ha
    clear e33 hsz
    generalize a.eval (.tmp 24) = v24 at *
    generalize a.eval (.tmp 25) = v25 at *
    generalize a.eval (.tmp 26) = v26 at *
    generalize a.eval (.tmp 27) = v27 at *
    generalize a.eval (.tmp 28) = v28 at *
    generalize a.eval (.tmp 29) = v29 at *
    generalize a.eval (.tmp 30) = v30 at *
    generalize a.eval (.tmp 31) = v31 at *
    generalize a.eval (.tmp 32) = v32 at *
    simp only [Act.put, List.setIfInBounds_toArray, List.set_cons_succ, List.set_cons_zero] at ha
    subst ha
    simp only [Exit.then]
    refine ‹∀ (a : Act) (w : World), Code.wp Try.prog _ _ a w → _› _ W7 ?_
    have hz7 := hz6.below hGW7 hz6.lt
    have hk7 := hk6.below hGW7 hk6.lt
    have hB07 : Below w.heap.size w W7 := hB06.trans (hGW7.mono s06)
    clear hl64 hW64
    cases hq : (HW == l) with
    | false =>
      go_wp2_with (refine wp_storeW rfl 109 (.tmp 2) (.tmp 35) rfl w.heap.size rfl rfl rowHead hz7 (by rfl) (by rfl) zeroHead_one ?_)
      refine bodyPost_ret_by (results_cellW_tmp 2 3 rfl rfl rfl rowHead (hz7.setRow _) (by rfl)) rfl ⟨?_, below_setRow hB07 (Nat.le_refl _) _⟩
      rw [HD.out, HY.out, hq]
      rfl
    | true =>
      go_wp2_with (first
        | (refine wp_loadW rfl 109 (.tmp 5) rfl g5 rfl rowHead hk7 (by rfl) ?_)
        | (refine wp_storeW rfl 109 (.tmp 2) (.tmp 34) rfl w.heap.size rfl rfl rowHead hz7 (by rfl) (by rfl) (head_one _ _ _ _) ?_))
      refine bodyPost_ret_by (results_cellW_tmp 2 3 rfl rfl rfl rowHead (hz7.setRow _) (by rfl)) rfl ⟨?_, below_setRow hB07 (Nat.le_refl _) _⟩
      rw [HD.out, HY.out, hq]
      rfl
theorem decodeHead_gives (w : World) (A : Option Addr) (c : Nat) (l : List UInt8) (h : InB w w.heap.size A c l) :
    Calls Try.prog 72 #[.slice A l.length c] w fun x w' => x = .returned (decHV l) ∧ Below w.heap.size w w' := by
  by_cases hl : l.length = 64
  · rw [hl]
    exact decodeHead_64 w A c l h hl
  · exact decodeHead_len w A c l h hl
end Go.Proofs.Ytlelckdcmlpmdaa
