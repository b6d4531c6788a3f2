/- Texts that the proof of FileHolds leans on, part 5. -/
import Derived.Laws.Externs
import Derived.Test.YtocnabpplbeafaaGreatFileHoldsB4
/- frame: the reader's take and number. -/
namespace Go.Proofs.YtocnabpplbeafaaGreat
open Go Go.RowKit Lou

theorem ftake_gives (w : World) (g o : Nat) (A : Option Addr) (len c n : Nat) (hlen : len ≤ c) (hcc : c ≤ 9223372036854775807) (hn : n ≤ len) (hc : w.cell? ⟨g, o, none⟩ = some (.slice A len c)) (hf : w.frozen? ⟨g, o, none⟩ = false) :
    Calls Tryz.prog 111 #[.pointer (some ⟨g, o, none⟩), .int .i64 n] w fun e w' => e = .returned (.slice A n n) ∧ w.setCell ⟨g, o, none⟩ (.slice (cutA A c n) (len - n) (c - n)) = w' := by
  by_cases hcn : c = n
  · obtain rfl : len = c := by omega
    subst hcn
    go_enter Tryz.func111, Tryz.ntmps111
    go_wp2
    go_ret
    refine ⟨rfl, ?_⟩
    simp [cutA]
  · go_enter Tryz.func111, Tryz.ntmps111
    go_wp2
    go_ret
    refine ⟨rfl, ?_⟩
    simp [cutA, hcn]

/-- A reader stands at bytes l. -/
structure RdrAt (w : World) (g : Nat) (A : Option Addr) (c : Nat) (l : List UInt8) : Prop where
  blk : BlkIs w g 160 #[.slice A l.length c]
  inb : InB w g A c l
theorem RdrAt.below {w w' : World} {g : Nat} {A : Option Addr} {c : Nat} {l : List UInt8} (h : RdrAt w g A c l) (hB : Below w.heap.size w w') : RdrAt w' g A c l :=
  ⟨h.blk.below hB h.blk.lt, h.inb.below (hB.mono (Nat.le_of_lt h.blk.lt))⟩
theorem RdrAt.cut {w : World} {g : Nat} {A : Option Addr} {c : Nat} {l : List UInt8} (h : RdrAt w g A c l) (n : Nat) (hn : n ≤ l.length) : RdrAt (w.setCell ⟨g, 0, none⟩ (.slice (cutA A c n) (l.length - n) (c - n))) g (cutA A c n) (c - n) (l.drop n) := by
  refine ⟨?_, (h.inb.drop n hn).keep fun p hp => World.cell?_setCell_other w _ p _ (fun e => by subst e; simp at hp)⟩
  have := h.blk.set 0 (.slice (cutA A c n) (l.length - n) (c - n))
  rw [List.length_drop]
  exact this

set_option maxRecDepth 100000 in
set_option maxHeartbeats 1000000 in
theorem number64_gives (w : World) (g : Nat) (A : Option Addr) (c : Nat) (l : List UInt8) (h : RdrAt w g A c l) (hl : 8 ≤ l.length) :
    Calls Tryz.prog 104 #[.pointer (some ⟨g, 0, none⟩), .int .i64 8, .func (.func 105) #[] #[]] w fun e w' => e = .returned (.int .u64 (rfix (l.take 8) : Int)) ∧ RdrAt w' g (cutA A c 8) (c - 8) (l.drop 8) ∧ Below g w w' := by
  have hle := h.inb.le
  have hmx := h.inb.max
  have T := ftake_gives w g 0 A l.length c 8 hle hmx hl (by rw [h.blk.cell]; rfl) (h.blk.free 0)
  have hR := h.cut 8 hl
  have hB1 : Below g w (w.setCell ⟨g, 0, none⟩ (.slice (cutA A c 8) (l.length - 8) (c - 8))) := (Below.refl g w).setCell (p := ⟨g, 0, none⟩) (Nat.le_refl g) _
  have hin := h.inb.below hB1
  clear h
  generalize w.setCell ⟨g, 0, none⟩ (.slice (cutA A c 8) (l.length - 8) (c - 8)) = w1 at *
  have ht := hin.take 8 8 hl (Nat.le_refl _) (by omega)
  have E := readEight_gives w1 A 8 (l.take 8) (ht.more (Nat.le_of_lt hR.blk.lt))
  have hl8 : (l.take 8).length = 8 := by simp; omega
  rw [fixV_ge (by omega), hl8, List.take_take, Nat.min_self] at E
  have hg := hR.blk.lt
  go_enter Tryz.func104, Tryz.ntmps104
  go_wp2_with (first | (go_at_call 111; refine T.mono ?_; rintro e w' ⟨rfl, rfl⟩) | (go_at_call 105; refine E.mono ?_; rintro e w' ⟨rfl, hB2⟩))
  go_ret
  exact ⟨rfl, hR.below hB2, hB1.trans (hB2.mono (Nat.le_of_lt hg))⟩
set_option maxRecDepth 100000 in
set_option maxHeartbeats 1000000 in
theorem number32_gives (w : World) (g : Nat) (A : Option Addr) (c : Nat) (l : List UInt8) (h : RdrAt w g A c l) (hl : 4 ≤ l.length) :
    Calls Tryz.prog 106 #[.pointer (some ⟨g, 0, none⟩), .int .i64 4, .func (.func 107) #[] #[]] w fun e w' => e = .returned (.int .u32 (rfix (l.take 4) : Int)) ∧ RdrAt w' g (cutA A c 4) (c - 4) (l.drop 4) ∧ Below g w w' := by
  have hle := h.inb.le
  have hmx := h.inb.max
  have T := ftake_gives w g 0 A l.length c 4 hle hmx hl (by rw [h.blk.cell]; rfl) (h.blk.free 0)
  have hR := h.cut 4 hl
  have hB1 : Below g w (w.setCell ⟨g, 0, none⟩ (.slice (cutA A c 4) (l.length - 4) (c - 4))) := (Below.refl g w).setCell (p := ⟨g, 0, none⟩) (Nat.le_refl g) _
  have hin := h.inb.below hB1
  clear h
  generalize w.setCell ⟨g, 0, none⟩ (.slice (cutA A c 4) (l.length - 4) (c - 4)) = w1 at *
  have ht := hin.take 4 4 hl (Nat.le_refl _) (by omega)
  have E := readFour_gives w1 A 4 (l.take 4) (ht.more (Nat.le_of_lt hR.blk.lt))
  have hl4 : (l.take 4).length = 4 := by simp; omega
  rw [fixV32_ge (by omega), hl4, List.take_take, Nat.min_self] at E
  have hg := hR.blk.lt
  go_enter Tryz.func106, Tryz.ntmps106
  go_wp2_with (first | (go_at_call 111; refine T.mono ?_; rintro e w' ⟨rfl, rfl⟩) | (go_at_call 107; refine E.mono ?_; rintro e w' ⟨rfl, hB2⟩))
  go_ret
  exact ⟨rfl, hR.below hB2, hB1.trans (hB2.mono (Nat.le_of_lt hg))⟩

/-- What DecodeHead tells of bytes. -/
def decHV (l : List UInt8) : Value := if isHead l then .tuple #[.agg #[.int .u64 (hdS l : Int), .int .u64 (hdE l : Int), .int .i64 (hdZ l : Int), .int .i64 (hdC l : Int)], .int .i64 0] else .tuple #[.agg #[.int .u64 0, .int .u64 0, .int .i64 0, .int .i64 0], .int .i64 150]
theorem decHV_no {l : List UInt8} (h : isHead l = false) : decHV l = .tuple #[.agg #[.int .u64 0, .int .u64 0, .int .i64 0, .int .i64 0], .int .i64 150] := by simp [decHV, h]
theorem rfix_take4 (l : List UInt8) : rfix (l.take 4) < 4294967296 := by
  have h1 := rfix_lt (l.take 4)
  have h2 : 256 ^ (l.take 4).length ≤ 256 ^ 4 := Nat.pow_le_pow_right (by omega) (by simp; omega)
  have h3 : (256 : Nat) ^ 4 = 4294967296 := by decide
  omega
theorem zeroHead_one : ∀ v ∈ (#[.int .u64 0, .int .u64 0, .int .i64 0, .int .i64 0] : Array Value).toList, v.oneCell' = true := by
  intro v hv
  simp at hv
  rcases hv with rfl | rfl <;> rfl
theorem head_one (s e z c : Int) : ∀ v ∈ (#[.int .u64 s, .int .u64 e, .int .i64 z, .int .i64 c] : Array Value).toList, v.oneCell' = true := by
  intro v hv
  simp at hv
  rcases hv with rfl | rfl | rfl | rfl <;> rfl

set_option maxRecDepth 100000 in
set_option maxHeartbeats 4000000 in
theorem decodeHead_len (w : World) (A : Option Addr) (c : Nat) (l : List UInt8) (h : InB w w.heap.size A c l) (hl : l.length ≠ 64) :
    Calls Tryz.prog 75 #[.slice A l.length c] w fun x w' => x = .returned (decHV l) ∧ Below w.heap.size w w' := by
  have hb0 := BlkIs.new w 89 #[.int .u64 0, .int .u64 0, .int .i64 0, .int .i64 0]
  have hB0 : Below w.heap.size w (w.alloc (.cells #[.int .u64 0, .int .u64 0, .int .i64 0, .int .i64 0] 89)) := (Below.refl _ w).alloc (Nat.le_refl _) _
  have hle := h.le
  have hmx := h.max
  have hno : isHead l = false := by cases hi : isHead l; rfl; exact absurd ((isHead_iff l).1 hi).1 hl
  rw [decHV_no hno]
  have hq : ((l.length : Int) == 64) = false := by simp; omega
  clear hno hl
  go_enter Tryz.func75, Tryz.ntmps75
  go_wp2_with (refine wp_storeW rfl 89 (.tmp 2) (.tmp 35) rfl w.heap.size rfl rfl rowHead hb0 (by rfl) (by rfl) zeroHead_one ?_)
  refine bodyPost_ret_by (results_cellW_tmp 2 3 rfl rfl rfl rowHead (hb0.setRow _) (by rfl)) rfl ⟨rfl, below_setRow hB0 (Nat.le_refl _) _⟩

set_option maxRecDepth 100000 in
set_option maxHeartbeats 8000000 in
theorem decodeHead_64 (w : World) (A : Option Addr) (c : Nat) (l : List UInt8) (h : InB w w.heap.size A c l) (hl64 : l.length = 64) :
    Calls Tryz.prog 75 #[.slice A 64 c] w fun x w' => x = .returned (decHV l) ∧ Below w.heap.size w w' := by
  have hle := h.le
  have hmx := h.max
  obtain ⟨g, o, rfl, hg, hcs⟩ := h.lies (by omega)
  have hb0 := (BlkIs.new w 89 #[.int .u64 0, .int .u64 0, .int .i64 0, .int .i64 0]).alloc (.cells #[.slice (some ⟨g, o, none⟩) 64 c] 160)
  have hB0 : Below w.heap.size w ((w.alloc (.cells #[.int .u64 0, .int .u64 0, .int .i64 0, .int .i64 0] 89)).alloc (.cells #[.slice (some ⟨g, o, none⟩) 64 c] 160)) := ((Below.refl _ w).alloc (Nat.le_refl _) _).alloc (by simp) _
  have hr0 : RdrAt ((w.alloc (.cells #[.int .u64 0, .int .u64 0, .int .i64 0, .int .i64 0] 89)).alloc (.cells #[.slice (some ⟨g, o, none⟩) 64 c] 160)) (w.heap.size + 1) (some ⟨g, o, none⟩) c l := by
    refine ⟨?_, (h.below hB0).more (by omega)⟩
    have := BlkIs.new (w.alloc (.cells #[.int .u64 0, .int .u64 0, .int .i64 0, .int .i64 0] 89)) 160 #[.slice (some ⟨g, o, none⟩) 64 c]
    rw [World.size_alloc] at this
    rw [hl64]
    exact this
  have HL := Lib.hid hl64
  clear hl64
  go_enter Tryz.func75, Tryz.ntmps75
  go_wp2_with fail
  generalize (w.alloc (.cells #[.int .u64 0, .int .u64 0, .int .i64 0, .int .i64 0] 89)).alloc (.cells #[.slice (some ⟨g, o, none⟩) 64 c] 160) = W1 at *
  refine (number64_gives W1 _ _ c l hr0 (by have := HL.out; omega)).mono ?_
  rintro x W2 ⟨rfl, hr1, hb1⟩
  go_wp2_with fail
  refine (number64_gives W2 _ _ _ _ hr1 (by have := HL.out; simp; omega)).mono ?_
  rintro x W3 ⟨rfl, hr2, hb2⟩
  rw [List.drop_drop] at hr2
  go_wp2_with fail
  refine (number32_gives W3 _ _ _ _ hr2 (by have := HL.out; simp; omega)).mono ?_
  rintro x W4 ⟨rfl, hr3, hb3⟩
  rw [List.drop_drop] at hr3
  have hz := rfix_take4 (l.drop (8 + 8))
  have hzw : IntKind.i64.wrap (rfix ((l.drop (8 + 8)).take 4) : Int) = (rfix ((l.drop (8 + 8)).take 4) : Int) := wrap_i64_fr _ (by omega) (by omega)
  go_wp2_with fail
  refine (number32_gives W4 _ _ _ _ hr3 (by have := HL.out; simp; omega)).mono ?_
  rintro x W5 ⟨rfl, hr4, hb4⟩
  have hcc := rfix_take4 (l.drop (8 + 8 + 4))
  have hcw : IntKind.i64.wrap (rfix ((l.drop (8 + 8 + 4)).take 4) : Int) = (rfix ((l.drop (8 + 8 + 4)).take 4) : Int) := wrap_i64_fr _ (by omega) (by omega)
  go_wp2_with fail
  have hB25 : Below (w.heap.size + 1) W1 W5 := ((hb1.trans hb2).trans hb3).trans hb4
  have hB05 : Below w.heap.size w W5 := hB0.trans (hB25.mono (by omega))
  have hz0 := hb0.below hB25 (by omega)
  have hin5 := h.below hB05
  have s05 := hB05.size
  have eS : rfix (l.take 8) = hdS l := rfl
  have eE : rfix ((l.drop 8).take 8) = hdE l := rfl
  have eZ : rfix ((l.drop 16).take 4) = hdZ l := rfl
  have eC : rfix ((l.drop 20).take 4) = hdC l := rfl
  have hzb : hdZ l < 4294967296 := rfix_take4 _
  have hcb : hdC l < 4294967296 := rfix_take4 _
  have hiff : isHead l = (headOk (hdZ l) (hdC l) && (headW (hdS l) (hdE l) (hdZ l) (hdC l) == l)) := by
    rw [Bool.eq_iff_iff, isHead_iff, Bool.and_eq_true, headOk_iff, beq_iff_eq]
    constructor
    · rintro ⟨_, a1, a2, a3⟩
      exact ⟨by omega, a3⟩
    · rintro ⟨a1, a2⟩
      exact ⟨HL.out, by omega, by omega, a2⟩
  rw [eS, eE, eZ, eC]
  have hdv : decHV l = if isHead l then .tuple #[.agg #[.int .u64 (hdS l : Int), .int .u64 (hdE l : Int), .int .i64 (hdZ l : Int), .int .i64 (hdC l : Int)], .int .i64 0] else .tuple #[.agg #[.int .u64 0, .int .u64 0, .int .i64 0, .int .i64 0], .int .i64 150] := rfl
  clear eS eE eZ eC hz hcc hzw hcw hr0 hr1 hr2 hr3 hr4 hb1 hb2 hb3 hb4 hB25 hB0 hb0
  generalize hdS l = s at *
  generalize hdE l = e at *
  generalize hdZ l = z at *
  generalize hdC l = cc at *
  have HI := Lib.hid hiff
  have HD := Lib.hid hdv
  clear hiff hdv
  have hB06 : Below w.heap.size w (W5.alloc (.cells #[.int .u64 (s : Int), .int .u64 (e : Int), .int .i64 (z : Int), .int .i64 (cc : Int)] 89)) := hB05.alloc s05 _
  have hz6 := hz0.alloc (.cells #[.int .u64 (s : Int), .int .u64 (e : Int), .int .i64 (z : Int), .int .i64 (cc : Int)] 89)
  have hk6 := BlkIs.new W5 89 #[.int .u64 (s : Int), .int .u64 (e : Int), .int .i64 (z : Int), .int .i64 (cc : Int)]
  have hin6 : InB (W5.alloc (.cells #[.int .u64 (s : Int), .int .u64 (e : Int), .int .i64 (z : Int), .int .i64 (cc : Int)] 89)) w.heap.size (some ⟨g, o, none⟩) c l := hin5.below ((Below.refl _ W5).alloc s05 _)
  generalize hW6 : W5.alloc (.cells #[.int .u64 (s : Int), .int .u64 (e : Int), .int .i64 (z : Int), .int .i64 (cc : Int)] 89) = W6 at *
  clear hW6
  have s06 := hB06.size
  have hl5 : ∀ w', Grow W6 w' → (loadVar 89 ⟨W5.heap.size, 0, none⟩).run Tryz.prog w' = .ok (.agg #[.int .u64 (s : Int), .int .u64 (e : Int), .int .i64 (z : Int), .int .i64 (cc : Int)]) w' := fun w' hG => run_loadW rowHead (hk6.below hG hk6.lt)
  have hlb : ∀ w', Grow W6 w' → (loadVar 140 ⟨g, o, none⟩).run Tryz.prog w' = .ok (.agg (l.map b8).toArray) w' := fun w' hG => by
    have hi := (hin6.more s06).below hG
    refine run_loadVar_mid (P := Tryz.prog) w' g o 140 (l.map b8) _ ?_ Tryz.underlying140 rfl (by simp only [List.length_map]; rw [HL.out]; kernel_rfl)
    intro j v hj
    have hj2 : j < l.length := by
      have := (List.getElem?_eq_some_iff.1 hj).1
      simpa using this
    obtain ⟨g', o', e1, _, hc⟩ := hi.lies (by omega)
    injection e1 with e1
    injection e1 with e1 e2
    subst e1 e2
    rw [hc j hj2]
    rw [List.getElem?_map, List.getElem?_eq_getElem hj2] at hj
    simpa [b8] using hj
  have hfit0 := fits_gives s e z cc
  generalize W5.heap.size = g5 at *
  cases hk : headOk z cc with
  | false =>
    have hfit := hfit0
    rw [hk] at hfit
    have hno : isHead l = false := by rw [HI.out, hk]; rfl
    open Reg in
    refine region_acts (by kernel_rfl) (by kernel_rfl) 36 rfl (by kernel_rfl) [24, 25, 26, 27, 28, 29, 30, 31, 32, 33] (by kernel_rfl)
      [(5, .val (.pointer (some ⟨g5, 0, none⟩))), (0, .val (.slice (some ⟨g, o, none⟩) 64 c))]
      [(24, .val (.agg #[.int .u64 (s : Int), .int .u64 (e : Int), .int .i64 (z : Int), .int .i64 (cc : Int)])), (25, .val (.bool false)), (26, .val (.bool false)), (27, .any), (28, .any), (29, .any), (30, .any), (31, .any), (32, .any), (33, .val ((Go.Value.bool false)))]
      ⟨rfl, rfl, trivial⟩ (by kernel_rfl)
      (allOk_cons (ok_none rfl (l_loadV (.tmp 5) (⟨g5, 0, none⟩) 89 (.agg #[.int .u64 (s : Int), .int .u64 (e : Int), .int .i64 (z : Int), .int .i64 (cc : Int)]) rfl (hs 5 (.pointer (some ⟨g5, 0, none⟩)) (by kernel_rfl) (by kernel_rfl)) (fun w hg => hl5 w hg) (by kernel_rfl)))
      <| allOk_cons (ok_none rfl (l_call 108 _ _ rfl (enters_of Tryz.func108 (by kernel_rfl) rfl) #[.agg #[.int .u64 (s : Int), .int .u64 (e : Int), .int .i64 (z : Int), .int .i64 (cc : Int)]] (.val (.bool false)) (args1 (hs 24 (.agg #[.int .u64 (s : Int), .int .u64 (e : Int), .int .i64 (z : Int), .int .i64 (cc : Int)]) (by kernel_rfl) (by kernel_rfl))) (fun w hg => gives_grow (hfit w)) (by kernel_rfl)))
      <| allOk_cons (ok_none rfl (l_mvF 25 (.val (.bool false)) (.inl rfl) (by kernel_rfl) (by kernel_rfl) (by kernel_rfl)))
      <| allOk_cons (okg_not 2 true 26 rfl (by kernel_rfl) (by kernel_rfl) (by kernel_rfl) (by kernel_rfl))
      <| allOk_cons (okg_not 2 true 26 rfl (by kernel_rfl) (by kernel_rfl) (by kernel_rfl) (by kernel_rfl))
      <| allOk_cons (okg_not 2 true 26 rfl (by kernel_rfl) (by kernel_rfl) (by kernel_rfl) (by kernel_rfl))
      <| allOk_cons (okg_not 2 true 26 rfl (by kernel_rfl) (by kernel_rfl) (by kernel_rfl) (by kernel_rfl))
      <| allOk_cons (okg_not 2 true 26 rfl (by kernel_rfl) (by kernel_rfl) (by kernel_rfl) (by kernel_rfl))
      <| allOk_cons (okg_not 2 true 26 rfl (by kernel_rfl) (by kernel_rfl) (by kernel_rfl) (by kernel_rfl))
      <| allOk_cons (ok_none rfl (l_pickF (.tmp 26) (.tmp 32) (.const (Go.Value.bool false)) ((Go.Value.bool false)) rfl (hs 26 (.bool false) (by kernel_rfl) (by kernel_rfl)) (hc _) (by kernel_rfl)))
      <| allOk_nil) ?_
    intro a W7 hsz hdef hGW7 hF hU
    have e33 : a.eval (.tmp 33) = (Go.Value.bool false) := hF 33
    have ha := Reg.acts_eq [24, 25, 26, 27, 28, 29, 30, 31, 32, 33] hsz hdef hU
    clear hF hU hdef
    simp only [List.foldl_cons, List.foldl_nil, e33] at ha
    clear e33 hsz
    generalize a.eval (.tmp 24) = v24 at *
    generalize a.eval (.tmp 25) = v25 at *
    generalize a.eval (.tmp 26) = v26 at *
    generalize a.eval (.tmp 27) = v27 at *
    generalize a.eval (.tmp 28) = v28 at *
    generalize a.eval (.tmp 29) = v29 at *
    generalize a.eval (.tmp 30) = v30 at *
    generalize a.eval (.tmp 31) = v31 at *
    generalize a.eval (.tmp 32) = v32 at *
    simp only [Act.put, List.setIfInBounds_toArray, List.set_cons_succ, List.set_cons_zero] at ha
    subst ha
    simp only [Exit.then]
    refine ‹∀ (a : Act) (w : World), Code.wp Tryz.prog _ _ a w → _› _ W7 ?_
    have hz7 := hz6.below hGW7 hz6.lt
    have hB07 : Below w.heap.size w W7 := hB06.trans (hGW7.mono s06)
    go_wp2_with (refine wp_storeW rfl 89 (.tmp 2) (.tmp 35) rfl w.heap.size rfl rfl rowHead hz7 (by rfl) (by rfl) zeroHead_one ?_)
    refine bodyPost_ret_by (results_cellW_tmp 2 3 rfl rfl rfl rowHead (hz7.setRow _) (by rfl)) rfl ⟨?_, below_setRow hB07 (Nat.le_refl _) _⟩
    rw [HD.out, hno]
    rfl
  | true =>
    obtain ⟨⟨_, hz1⟩, _, hc1⟩ := (headOk_iff _ _).1 hk
    have hfit := hfit0
    rw [hk] at hfit
    have hyes : isHead l = (headW s e z cc == l) := by rw [HI.out, hk]; rfl
    have hhead := head_gives s e z cc (by omega) (by omega)
    have hW64 := headW_length s e z cc
    have hl64 := HL.out
    generalize headW s e z cc = HW at *
    have HY := Lib.hid hyes
    clear hyes hk
    open Reg in
    refine region_acts (by kernel_rfl) (by kernel_rfl) 36 rfl (by kernel_rfl) [24, 25, 26, 27, 28, 29, 30, 31, 32, 33] (by kernel_rfl)
      [(5, .val (.pointer (some ⟨g5, 0, none⟩))), (0, .val (.slice (some ⟨g, o, none⟩) 64 c))]
      [(24, .val (.agg #[.int .u64 (s : Int), .int .u64 (e : Int), .int .i64 (z : Int), .int .i64 (cc : Int)])), (25, .val (.bool true)), (26, .val (.bool true)), (27, .val (.agg #[.int .u64 (s : Int), .int .u64 (e : Int), .int .i64 (z : Int), .int .i64 (cc : Int)])), (28, .val (.agg (HW.map b8).toArray)), (29, .val (.slice (some ⟨g, o, none⟩) 64 c)), (30, .val (.pointer (some ⟨g, o, none⟩))), (31, .val (.agg (l.map b8).toArray)), (32, .val (.bool (HW == l))), (33, .val (.bool (HW == l)))]
      ⟨rfl, rfl, trivial⟩ (by kernel_rfl)
      (allOk_cons (ok_none rfl (l_loadV (.tmp 5) (⟨g5, 0, none⟩) 89 (.agg #[.int .u64 (s : Int), .int .u64 (e : Int), .int .i64 (z : Int), .int .i64 (cc : Int)]) rfl (hs 5 (.pointer (some ⟨g5, 0, none⟩)) (by kernel_rfl) (by kernel_rfl)) (fun w hg => hl5 w hg) (by kernel_rfl)))
      <| allOk_cons (ok_none rfl (l_call 108 _ _ rfl (enters_of Tryz.func108 (by kernel_rfl) rfl) #[.agg #[.int .u64 (s : Int), .int .u64 (e : Int), .int .i64 (z : Int), .int .i64 (cc : Int)]] (.val (.bool true)) (args1 (hs 24 (.agg #[.int .u64 (s : Int), .int .u64 (e : Int), .int .i64 (z : Int), .int .i64 (cc : Int)]) (by kernel_rfl) (by kernel_rfl))) (fun w hg => gives_grow (hfit w)) (by kernel_rfl)))
      <| allOk_cons (ok_none rfl (l_mvF 25 (.val (.bool true)) (.inl rfl) (by kernel_rfl) (by kernel_rfl) (by kernel_rfl)))
      <| allOk_cons (okg 2 true 26 rfl (by kernel_rfl) (by kernel_rfl) (by kernel_rfl) (l_loadV (.tmp 5) (⟨g5, 0, none⟩) 89 (.agg #[.int .u64 (s : Int), .int .u64 (e : Int), .int .i64 (z : Int), .int .i64 (cc : Int)]) rfl (hs 5 (.pointer (some ⟨g5, 0, none⟩)) (by kernel_rfl) (by kernel_rfl)) (fun w hg => hl5 w hg) (by kernel_rfl)))
      <| allOk_cons (okg 2 true 26 rfl (by kernel_rfl) (by kernel_rfl) (by kernel_rfl) (l_call 109 _ _ rfl (enters_of Tryz.func109 (by kernel_rfl) rfl) #[.agg #[.int .u64 (s : Int), .int .u64 (e : Int), .int .i64 (z : Int), .int .i64 (cc : Int)]] (.val (.agg (HW.map b8).toArray)) (args1 (hs 27 (.agg #[.int .u64 (s : Int), .int .u64 (e : Int), .int .i64 (z : Int), .int .i64 (cc : Int)]) (by kernel_rfl) (by kernel_rfl))) (fun w hg => gives_grow (hhead w)) (by kernel_rfl)))
      <| allOk_cons (okg 2 true 26 rfl (by kernel_rfl) (by kernel_rfl) (by kernel_rfl) (l_mvF 0 (.val (.slice (some ⟨g, o, none⟩) 64 c)) (.inl rfl) (by kernel_rfl) (by kernel_rfl) (by kernel_rfl)))
      <| allOk_cons (okg 2 true 26 rfl (by kernel_rfl) (by kernel_rfl) (by kernel_rfl) (l_s2a (.tmp 29) g o 64 c (by decide) rfl (hs 29 _ (by kernel_rfl) (by kernel_rfl)) (by kernel_rfl)))
      <| allOk_cons (okg 2 true 26 rfl (by kernel_rfl) (by kernel_rfl) (by kernel_rfl) (l_loadV (.tmp 30) (⟨g, o, none⟩) 140 (.agg (l.map b8).toArray) rfl (hs 30 (.pointer (some ⟨g, o, none⟩)) (by kernel_rfl) (by kernel_rfl)) (fun w hg => hlb w hg) (by kernel_rfl)))
      <| allOk_cons (okg 2 true 26 rfl (by kernel_rfl) (by kernel_rfl) (by kernel_rfl) (l_eqArr (.tmp 28) (.tmp 31) _ HW l hW64 hl64 rfl (hs 28 _ (by kernel_rfl) (by kernel_rfl)) (hs 31 _ (by kernel_rfl) (by kernel_rfl)) (by kernel_rfl)))
      <| allOk_cons (ok_none rfl (l_pickT (.tmp 26) (.tmp 32) (.const (Go.Value.bool false)) (.bool (HW == l)) rfl (hs 26 (.bool true) (by kernel_rfl) (by kernel_rfl)) (hs 32 (.bool (HW == l)) (by kernel_rfl) (by kernel_rfl)) (by kernel_rfl)))
      <| allOk_nil) ?_
    intro a W7 hsz hdef hGW7 hF hU
    have e33 : a.eval (.tmp 33) = .bool (HW == l) := hF 33
    have ha := Reg.acts_eq [24, 25, 26, 27, 28, 29, 30, 31, 32, 33] hsz hdef hU
    clear hF hU hdef
    simp only [List.foldl_cons, List.foldl_nil, e33] at ha
    clear e33 hsz
    generalize a.eval (.tmp 24) = v24 at *
    generalize a.eval (.tmp 25) = v25 at *
    generalize a.eval (.tmp 26) = v26 at *
    generalize a.eval (.tmp 27) = v27 at *
    generalize a.eval (.tmp 28) = v28 at *
    generalize a.eval (.tmp 29) = v29 at *
    generalize a.eval (.tmp 30) = v30 at *
    generalize a.eval (.tmp 31) = v31 at *
    generalize a.eval (.tmp 32) = v32 at *
    simp only [Act.put, List.setIfInBounds_toArray, List.set_cons_succ, List.set_cons_zero] at ha
    subst ha
    simp only [Exit.then]
    refine ‹∀ (a : Act) (w : World), Code.wp Tryz.prog _ _ a w → _› _ W7 ?_
    have hz7 := hz6.below hGW7 hz6.lt
    have hk7 := hk6.below hGW7 hk6.lt
    have hB07 : Below w.heap.size w W7 := hB06.trans (hGW7.mono s06)
    clear hl64 hW64
    cases hq : (HW == l) with
    | false =>
      go_wp2_with (refine wp_storeW rfl 89 (.tmp 2) (.tmp 35) rfl w.heap.size rfl rfl rowHead hz7 (by rfl) (by rfl) zeroHead_one ?_)
      refine bodyPost_ret_by (results_cellW_tmp 2 3 rfl rfl rfl rowHead (hz7.setRow _) (by rfl)) rfl ⟨?_, below_setRow hB07 (Nat.le_refl _) _⟩
      rw [HD.out, HY.out, hq]
      rfl
    | true =>
      go_wp2_with (first
        | (refine wp_loadW rfl 89 (.tmp 5) rfl g5 rfl rowHead hk7 (by rfl) ?_)
        | (refine wp_storeW rfl 89 (.tmp 2) (.tmp 34) rfl w.heap.size rfl rfl rowHead hz7 (by rfl) (by rfl) (head_one _ _ _ _) ?_))
      refine bodyPost_ret_by (results_cellW_tmp 2 3 rfl rfl rfl rowHead (hz7.setRow _) (by rfl)) rfl ⟨?_, below_setRow hB07 (Nat.le_refl _) _⟩
      rw [HD.out, HY.out, hq]
      rfl
theorem decodeHead_gives (w : World) (A : Option Addr) (c : Nat) (l : List UInt8) (h : InB w w.heap.size A c l) :
    Calls Tryz.prog 75 #[.slice A l.length c] w fun x w' => x = .returned (decHV l) ∧ Below w.heap.size w w' := by
  by_cases hl : l.length = 64
  · rw [hl]
    exact decodeHead_64 w A c l h hl
  · exact decodeHead_len w A c l h hl
end Go.Proofs.YtocnabpplbeafaaGreat
/- loupelaw03.OctetHolds: the walk. -/
namespace Go.Proofs.YtocnabpplbeafaaGreat
open Go Go.RowKit Lou

end Go.Proofs.YtocnabpplbeafaaGreat
/- louperef05.DecodeHead. -/
namespace Go.Proofs.YtocnabpplbeafaaGreat
open Go Go.RowKit Lou

theorem InB.dropAt {w : World} {B g o c : Nat} {l : List UInt8} (h : InB w B (some ⟨g, o, none⟩) c l) (n : Nat) (hn : n ≤ l.length) (hc : n < c) : InB w B (some ⟨g, o + n, none⟩) (c - n) (l.drop n) := by
  have := h.drop n hn
  unfold cutA at this
  rw [if_neg (by omega)] at this
  have e : (⟨g, o, none⟩ : Addr).add n = ⟨g, o + n, none⟩ := by cases n <;> simp [Addr.add]
  simpa [e] using this

end Go.Proofs.YtocnabpplbeafaaGreat
/- frame.Decode, of so many bytes as a frame has. -/
namespace Go.Proofs.YtocnabpplbeafaaGreat
open Go Go.RowKit Lou

theorem run_eq_nil {P : Program} (w : World) (t e : TypeId) (A : Option Addr) (n c : Nat) (ht : P.underlying t = some (.slice e)) : (binOp .eql t (.slice A n c) (.slice none 0 0)).run P w = .ok (.bool A.isNone) w := by
  have e1 : binOp .eql t (.slice A n c) (.slice none 0 0) = (do pure (.bool (← Op.equalIn (9999 + 1) t (.slice A n c) (.slice none 0 0)))) := rfl
  have h : (Op.equalIn (9999 + 1) t (.slice A n c) (.slice none 0 0)).run P w = .ok A.isNone w := by
    unfold Op.equalIn
    cases A <;> simp [run_underlying ht]
  rw [e1]
  simp only [Sem.run_bind, h, Result.andThen, Sem.run_pure]
set_option maxRecDepth 100000 in
set_option maxHeartbeats 1000000 in
theorem clone_gives (w : World) (A : Option Addr) (c : Nat) (l : List UInt8) (h : InB w w.heap.size A c l) (hl : l.length ≤ 100000000000) : Calls Tryz.prog 46 #[.slice A l.length c] w (GivesB w l) := by
  have hle := h.le
  rcases A with _ | ad
  · have hc := h.nil rfl
    subst hc
    obtain rfl : l = [] := List.eq_nil_of_length_eq_zero (by omega)
    have hq := fun W => run_eq_nil (P := Tryz.prog) W 38 5 none 0 0 Tryz.underlying38
    go_enter Tryz.func46, Tryz.ntmps46
    go_wp2
    go_ret
    exact ⟨_, rfl, OwnB.nil _ _, Below.refl _ _⟩
  · have e0 : OwnB (w.alloc (.cells #[] 5)) w.heap.size (.slice (some ⟨w.heap.size, 0, none⟩) 0 0) [] := World.ownsRow_lit w #[] 0 (Nat.le_refl _) (by unfold maxLen; omega) rfl
    have hB0 : Below w.heap.size w (w.alloc (.cells #[] 5)) := (Below.refl _ w).alloc (Nat.le_refl _) _
    have h1 := h.below hB0
    have hq := fun W => run_eq_nil (P := Tryz.prog) W 38 5 (some ad) l.length c Tryz.underlying38
    go_enter Tryz.func46, Tryz.ntmps46
    go_wp2_with (at_builtin; refine wp_appB rfl (.tmp 5) (.tmp 6) rfl w.heap.size (.slice (some ⟨w.heap.size, 0, none⟩) 0 0) [] rfl e0 _ (some ad) c l rfl h1 (by simp; omega) (by simp) ?_; intro v1 w1 own1 hg1)
    go_ret
    rw [List.nil_append] at own1
    exact ⟨_, rfl, own1, hB0.trans (grown_below hg1 hB0.size e0.ownGe)⟩

/-- What a frame's bytes are read as. -/
def fdE (b : List UInt8) : Nat := rfix (b.take 8)
def fdI (b : List UInt8) : Nat := rfix ((b.drop 8).take 4)
def fdP (b : List UInt8) : Nat := rfix ((b.drop 12).take 4)
def fdF (b : List UInt8) : Bool := b.getD 16 0 == 1
def fdZ (b : List UInt8) : Nat := rfix ((b.drop 17).take 4)
def fdL (b : List UInt8) : Nat := rfix ((b.drop 21).take 4)
def isFrame (b : List UInt8) : Bool := decide (b.length = 576) && (frOk 512 (fdI b) (fdP b) (fdF b) (fdZ b) && (sectB (partB (fdE b) (fdI b) (fdP b) (fdF b) (fdZ b) (fdL b)) (b.drop 64) == b.take 64))
def zeroFr : Array Value := #[.int .u64 0, .int .i64 0, .int .i64 0, .bool false, .int .i64 0, .int .u32 0, .slice none 0 0]
/-- What Decode gives of bytes. -/
def GivesFr (w0 : World) (l : List UInt8) (x : Ending) (w' : World) : Prop :=
  Below w0.heap.size w0 w' ∧ if isFrame l then ∃ A k, x = .returned (.tuple #[.agg (frCells (fdE l) (fdI l) (fdP l) (fdF l) (fdZ l) (fdL l) A 512 k), .int .i64 0]) ∧ InB w' w'.heap.size A k (l.drop 64) else x = .returned (.tuple #[.agg zeroFr, .int .i64 150])
/-- The same; its bytes lie in a new block of bytes. -/
def GivesFrT (w0 : World) (l : List UInt8) (x : Ending) (w' : World) : Prop :=
  Below w0.heap.size w0 w' ∧ if isFrame l then ∃ A k, x = .returned (.tuple #[.agg (frCells (fdE l) (fdI l) (fdP l) (fdF l) (fdZ l) (fdL l) A 512 k), .int .i64 0]) ∧ InB w' w'.heap.size A k (l.drop 64) ∧ (∀ g o, A = some ⟨g, o, none⟩ → w0.heap.size ≤ g ∧ ∃ cs, BlkIs w' g 5 cs) else x = .returned (.tuple #[.agg zeroFr, .int .i64 150])
theorem zeroFr_one : ∀ v ∈ zeroFr.toList, v.oneCell' = true := by
  intro v hv
  simp [zeroFr] at hv
  rcases hv with rfl | rfl | rfl | rfl | rfl | rfl <;> rfl
theorem frCells_one (e : Nat) (i p : Int) (f : Bool) (z : Int) (n : Nat) (A : Option Addr) (len k : Nat) : ∀ v ∈ (frCells e i p f z n A len k).toList, v.oneCell' = true := by
  intro v hv
  simp [frCells] at hv
  rcases hv with rfl | rfl | rfl | rfl | rfl | rfl | rfl <;> rfl

end Go.Proofs.YtocnabpplbeafaaGreat
namespace Go.Proofs.YtocnabpplbeafaaGreat
open Go Go.RowKit Lou

theorem RdrAt.other {w : World} {g g' B : Nat} {A : Option Addr} {c : Nat} {l : List UInt8} (h : RdrAt w g A c l) (hin : InB w B A c l) (hB : B ≤ g') (hg : g' < g) (j : Nat) (u : Value) : RdrAt (w.setCell ⟨g', j, none⟩ u) g A c l :=
  ⟨h.blk.other (by simp; omega) u, (hin.keep fun p hp => World.cell?_setCell_other w _ _ _ (fun e => by subst e; simp at hp; omega)).more (by omega)⟩
theorem cut_toN {ρ : Operand → Value} {w : World} {o : Oper} {x y : Operand} {A : Option Addr} {n m c : Nat} (ho : o.op = .slice 38 x none (some y) none) (h1 : ρ x = .slice A n c) (h2 : ρ y = .int .i64 (m : Int)) (hm : m ≤ c) :
    (execOp ρ o).run Tryz.prog w = .ok (.value (.slice A m c)) w := by
  have ht : Tryz.prog.underlying 38 = some (.slice (Tryz.prog.elem 38)) := by kernel_rfl
  simp [execOp, ho, h1, h2, go_sem, run_sliceAt_slice _ _ _ _ _ _ ht, Result.andThen, hm]
namespace Reg
variable {L : List (Nat × Fact)} {ops : Array Oper} {w0 : World} {o : Oper} {P : Program}
theorem l_not (x : Operand) (v : Bool) {T : TypeId} (ho : o.op = .unOp .not T x) (hx : Has ops (FSof L) o x (.bool v)) (hd : FD L o.dst = .val (.bool !v)) : RunOk P ops (FSof L) w0 o :=
  run1 x hx (fun ρ w h => by simp [execOp, ho, h, go_sem]) fun _ => fsd hd rfl
theorem l_neArr (x y : Operand) (T : TypeId) (xs ys : List UInt8) (hx1 : xs.length = 64) (hy1 : ys.length = 64) (ho : o.op = .binOp .neq 140 x y T) (hx : Has ops (FSof L) o x (.agg (xs.map b8).toArray)) (hy : Has ops (FSof L) o y (.agg (ys.map b8).toArray)) (hd : FD L o.dst = .val (.bool (xs != ys))) : RunOk Tryz.prog ops (FSof L) w0 o := by
  refine run2 x y hx hy (fun ρ w h1 h2 => ?_) fun _ => fsd hd rfl
  have he := run_equalIn_bytes (P := Tryz.prog) w 9998 140 5 64 Tryz.underlying140 Tryz.underlying5 (fun w => by simp [go_sem]) xs ys hx1 hy1
  have hr : (binOp .neq 140 (.agg (xs.map b8).toArray) (.agg (ys.map b8).toArray)).run Tryz.prog w = .ok (.bool (xs != ys)) w := by
    rw [run_neq_struct]
    have e : (Op.equalIn 10000 140 (.agg (xs.map b8).toArray) (.agg (ys.map b8).toArray)).run Tryz.prog w = .ok (xs == ys) w := he
    rw [e]
    rfl
  have hm : Tryz.prog.eqGuardType Tryz.prog.depth 140 = false := by kernel_rfl
  simp only [execOp, ho, h1, h2, Sem.run_bind, run_eqGuard_agg w .neq 140 x y _ _ hm, Result.andThen_ok, hr, Sem.run_pure]
end Reg
theorem setCell_grownBy (w : World) (p : Addr) (u : Value) : w.grownBy (w.setCell p u) (some p.block) := ⟨rfl, rfl, rfl, by simp, fun k _ hk => Below.heap_setCell w p u k (fun e => hk (by rw [e]))⟩
theorem OwnB.apart {w w' : World} {base : Nat} {v : Value} {l : List UInt8} (h : OwnB w base v l) {r : Nat} (hg : w.grownBy w' (some r)) (hr : r < base) : OwnB w' base v l :=
  World.ownsRow.kept h hg (by
    cases hb : v.ownBlock with
    | none => exact .inl rfl
    | some b => exact .inr (fun e => by injection e with e; have := h.ownGe b hb; omega))
theorem cutA_lt {b o c n : Nat} (h : n < c) : cutA (some ⟨b, o, none⟩) c n = some ⟨b, o + n, none⟩ := by
  unfold cutA
  rw [if_neg (by omega)]
  cases n <;> simp [Addr.add]
set_option maxRecDepth 100000 in
set_option maxHeartbeats 8000000 in
theorem decode_576T (w : World) (A : Option Addr) (c : Nat) (l : List UInt8) (h : InB w w.heap.size A c l) (hl : l.length = 576) :
    Calls Tryz.prog 82 #[.slice A 576 c] w (GivesFrT w l) := by
  have hIn := h
  have hle := h.le
  have hmx := h.max
  rw [hl] at hle
  have hle' : (576 : Int) ≤ (c : Int) := by omega
  obtain ⟨b, o, rfl, hbs, hcs⟩ := h.lies (by omega)
  have hb0 := (BlkIs.new w 97 zeroFr).alloc (.cells #[.slice (some ⟨b, o, none⟩) 576 c] 160)
  have hB0 : Below w.heap.size w ((w.alloc (.cells zeroFr 97)).alloc (.cells #[.slice (some ⟨b, o, none⟩) 576 c] 160)) := ((Below.refl _ w).alloc (Nat.le_refl _) _).alloc (by simp) _
  have hr0 : RdrAt ((w.alloc (.cells zeroFr 97)).alloc (.cells #[.slice (some ⟨b, o, none⟩) 576 c] 160)) (w.heap.size + 1) (some ⟨b, o, none⟩) c l := by
    refine ⟨?_, (h.below hB0).more (by omega)⟩
    have := BlkIs.new (w.alloc (.cells zeroFr 97)) 160 #[.slice (some ⟨b, o, none⟩) 576 c]
    rw [World.size_alloc] at this
    rw [hl]
    exact this
  have HL := Lib.hid hl
  have hc16 : l.getD 16 0 = l[16]'(by rw [HL.out]; omega) := by simp [List.getD, List.getElem?_eq_getElem (show 16 < l.length by rw [HL.out]; omega)]
  clear hl
  unfold zeroFr at *
  go_enter Tryz.func82, Tryz.ntmps82
  go_wp2_with fail
  generalize (w.alloc (.cells #[.int .u64 0, .int .i64 0, .int .i64 0, .bool false, .int .i64 0, .int .u32 0, .slice none 0 0] 97)).alloc (.cells #[.slice (some ⟨b, o, none⟩) 576 c] 160) = W1 at *
  refine (number64_gives W1 _ _ c l hr0 (by have := HL.out; omega)).mono ?_
  rintro x W2 ⟨rfl, hr2, hb12⟩
  have hf2 := hb0.below hb12 (by omega)
  have hB2 : Below w.heap.size w W2 := hB0.trans (hb12.mono (by omega))
  clear hb0 hr0 hb12 hB0
  have hcl2 : W2.cell? ⟨w.heap.size, 0, none⟩ = some (.int .u64 0) := by rw [hf2.cell]; rfl
  have hfr2 := hf2.free 0
  have hdr : ∀ n, n ≤ 576 → n < c → ∀ W, Below w.heap.size w W → InB W w.heap.size (some ⟨b, o + n, none⟩) (c - n) (l.drop n) := fun n hn hc W hB => (h.below hB).dropAt n (by rw [HL.out]; exact hn) hc
  rw [cutA_lt (by omega)] at hr2
  have hr3 := hr2.other (hdr 8 (by omega) (by omega) _ hB2) (Nat.le_refl _) (by omega) 0 (.int .u64 (rfix (l.take 8) : Int))
  have hf3 := hf2.set 0 (.int .u64 (rfix (l.take 8) : Int))
  have hB3 : Below w.heap.size w (W2.setCell ⟨w.heap.size, 0, none⟩ (.int .u64 (rfix (l.take 8) : Int))) := hB2.setCell (p := ⟨w.heap.size, 0, none⟩) (Nat.le_refl _) _
  clear hf2 hB2 hr2
  go_wp2_with fail
  generalize W2.setCell ⟨w.heap.size, 0, none⟩ (.int .u64 (rfix (l.take 8) : Int)) = W3 at *
  have ez : (#[.int .u64 0, .int .i64 0, .int .i64 0, .bool false, .int .i64 0, .int .u32 0, .slice none 0 0] : Array Value).setIfInBounds 0 (.int .u64 (rfix (l.take 8) : Int)) = #[.int .u64 (rfix (l.take 8) : Int), .int .i64 0, .int .i64 0, .bool false, .int .i64 0, .int .u32 0, .slice none 0 0] := rfl
  rw [ez] at hf3
  clear ez hcl2 hfr2
  refine (number32_gives W3 _ _ _ _ hr3 (by rw [List.length_drop, HL.out]; omega)).mono ?_
  rintro x W4 ⟨rfl, hr4, hb34⟩
  rw [List.drop_drop, cutA_lt (by omega)] at hr4
  have hf4 := hf3.below hb34 (by omega)
  have hB4 : Below w.heap.size w W4 := hB3.trans (hb34.mono (by omega))
  have hi4 := rfix_take4 (l.drop 8)
  have hiw : IntKind.i64.wrap (rfix ((l.drop 8).take 4) : Int) = (rfix ((l.drop 8).take 4) : Int) := wrap_i64_fr _ (by omega) (by omega)
  clear hf3 hr3 hb34 hB3
  go_wp2_with fail
  refine (number32_gives W4 _ _ _ _ hr4 (by rw [List.length_drop, HL.out]; omega)).mono ?_
  rintro x W5 ⟨rfl, hr5, hb45⟩
  rw [List.drop_drop, cutA_lt (by omega)] at hr5
  have hf5 := hf4.below hb45 (by omega)
  have hB5 : Below w.heap.size w W5 := hB4.trans (hb45.mono (by omega))
  have hp4 := rfix_take4 (l.drop (8 + 4))
  have hpw : IntKind.i64.wrap (rfix ((l.drop (8 + 4)).take 4) : Int) = (rfix ((l.drop (8 + 4)).take 4) : Int) := wrap_i64_fr _ (by omega) (by omega)
  have hpw2 : IntKind.i64.wrap (rfix ((l.drop 12).take 4) : Int) = (rfix ((l.drop 12).take 4) : Int) := hpw
  clear hf4 hr4 hb45 hB4
  have hcl1 : W5.cell? ⟨w.heap.size, 1, none⟩ = some (.int .i64 0) := by rw [hf5.cell]; rfl
  have hcl2 : W5.cell? ⟨w.heap.size, 2, none⟩ = some (.int .i64 0) := by rw [hf5.cell]; rfl
  have hfr1 := hf5.free 1
  have hfr2 := hf5.free 2
  go_wp2_with fail
  have hf6 : BlkIs ((W5.setCell ⟨w.heap.size, 1, none⟩ (.int .i64 (rfix ((l.drop 8).take 4) : Int))).setCell ⟨w.heap.size, 2, none⟩ (.int .i64 (rfix ((l.drop 12).take 4) : Int))) w.heap.size 97 #[.int .u64 (rfix (l.take 8) : Int), .int .i64 (rfix ((l.drop 8).take 4) : Int), .int .i64 (rfix ((l.drop 12).take 4) : Int), .bool false, .int .i64 0, .int .u32 0, .slice none 0 0] := (hf5.set 1 _).set 2 _
  have hB5' : Below w.heap.size w (W5.setCell ⟨w.heap.size, 1, none⟩ (.int .i64 (rfix ((l.drop 8).take 4) : Int))) := hB5.setCell (p := ⟨w.heap.size, 1, none⟩) (Nat.le_refl _) _
  have hB6 : Below w.heap.size w ((W5.setCell ⟨w.heap.size, 1, none⟩ (.int .i64 (rfix ((l.drop 8).take 4) : Int))).setCell ⟨w.heap.size, 2, none⟩ (.int .i64 (rfix ((l.drop 12).take 4) : Int))) := hB5'.setCell (p := ⟨w.heap.size, 2, none⟩) (Nat.le_refl _) _
  have hd5 := hdr 16 (by omega) (by omega)
  have ea : ∀ m, m + 8 = 16 → True := fun _ _ => trivial
  have hr6 := (hr5.other (hd5 _ hB5) (Nat.le_refl _) (by omega) 1 (.int .i64 (rfix ((l.drop 8).take 4) : Int))).other (hd5 _ hB5') (Nat.le_refl _) (by omega) 2 (.int .i64 (rfix ((l.drop 12).take 4) : Int))
  clear hf5 hr5 hB5 hB5' hcl1 hcl2 hfr1 hfr2 ea
  generalize ((W5.setCell ⟨w.heap.size, 1, none⟩ (.int .i64 (rfix ((l.drop 8).take 4) : Int))).setCell ⟨w.heap.size, 2, none⟩ (.int .i64 (rfix ((l.drop 12).take 4) : Int))) = W6 at *
  simp only [Nat.add_assoc, Nat.reduceAdd, Nat.sub_sub] at hr6
  have hl16 : (l.drop 16).length = 560 := by rw [List.length_drop, HL.out]
  have T := ftake_gives W6 (w.heap.size + 1) 0 (some ⟨b, o + 16, none⟩) 560 (c - 16) 1 (by omega) (by omega) (by omega) (by rw [hr6.blk.cell, hl16]; rfl) (hr6.blk.free 0)
  have hr7 := hr6.cut 1 (by rw [hl16]; omega)
  rw [hl16, List.drop_drop] at hr7
  have hf7 := hf6.other (p := ⟨w.heap.size + 1, 0, none⟩) (by simp) (.slice (cutA (some ⟨b, o + 16, none⟩) (c - 16) 1) (560 - 1) (c - 16 - 1))
  have hB7 : Below w.heap.size w (W6.setCell ⟨w.heap.size + 1, 0, none⟩ (.slice (cutA (some ⟨b, o + 16, none⟩) (c - 16) 1) (560 - 1) (c - 16 - 1))) := hB6.setCell (p := ⟨w.heap.size + 1, 0, none⟩) (by simp) _
  refine T.mono ?_
  rintro x w' ⟨rfl, rfl⟩
  clear T hf6 hB6 hr6 hl16
  generalize W6.setCell ⟨w.heap.size + 1, 0, none⟩ (.slice (cutA (some ⟨b, o + 16, none⟩) (c - 16) 1) (560 - 1) (c - 16 - 1)) = W7 at *
  rw [cutA_lt (by omega)] at hr7
  simp only [Nat.add_assoc, Nat.reduceAdd, Nat.sub_sub] at hr7
  have hcl3 : W7.cell? ⟨w.heap.size, 3, none⟩ = some (.bool false) := by rw [hf7.cell]; rfl
  have hfr3 := hf7.free 3
  have hcb : W7.cell? ⟨b, o + 16, none⟩ = some (.int .u8 ((l.getD 16 0).toNat : Int)) := by
    rw [hB7.cell (p := ⟨b, o + 16, none⟩) hbs, hcs 16 (by rw [HL.out]; omega), hc16]
  have hq : (((l.getD 16 0).toNat : Int) == 1) = fdF l := by
    unfold fdF
    rw [Bool.eq_iff_iff]
    simp only [beq_iff_eq]
    constructor
    · intro e
      exact UInt8.toNat_inj.1 (by rw [show (1 : UInt8).toNat = 1 from rfl]; omega)
    · intro e
      rw [e]
      rfl
  generalize l.getD 16 0 = c16 at *
  clear hc16
  obtain ⟨fl, hfl⟩ : ∃ fl, fdF l = fl := ⟨_, rfl⟩
  rw [hfl] at hq
  have hflq := Lib.hid hfl
  clear hfl
  go_wp2_with fail
  have hf8 : BlkIs (W7.setCell ⟨w.heap.size, 3, none⟩ (.bool fl)) w.heap.size 97 #[.int .u64 (rfix (l.take 8) : Int), .int .i64 (rfix ((l.drop 8).take 4) : Int), .int .i64 (rfix ((l.drop 12).take 4) : Int), .bool fl, .int .i64 0, .int .u32 0, .slice none 0 0] := hf7.set 3 _
  have hB8 : Below w.heap.size w (W7.setCell ⟨w.heap.size, 3, none⟩ (.bool fl)) := hB7.setCell (p := ⟨w.heap.size, 3, none⟩) (Nat.le_refl _) _
  have hr8 := hr7.other (hdr 17 (by omega) (by omega) _ hB7) (Nat.le_refl _) (by omega) 3 (.bool fl)
  generalize W7.setCell ⟨w.heap.size, 3, none⟩ (.bool fl) = W8 at *
  clear hf7 hB7 hr7 hcl3 hfr3 hcb hq
  have h17 : (l.drop 17).length = 559 := by rw [List.length_drop, HL.out]
  have hz4 := rfix_take4 (l.drop 17)
  have hzw : IntKind.i64.wrap (rfix ((l.drop 17).take 4) : Int) = (rfix ((l.drop 17).take 4) : Int) := wrap_i64_fr _ (by omega) (by omega)
  have N1 := number32_gives W8.drew (w.heap.size + 1) _ _ _ ⟨hr8.blk.drew, hr8.inb.drew⟩ (by rw [h17]; omega)
  have hl64 : (l.drop 64).length = 512 := by rw [List.length_drop, HL.out]
  have HL64 := Lib.hid hl64
  have s8 := hB8.size
  clear hl64 h17 hr8
  go_region_held3 (fun _ => True) (trivial) (first
    | (go_at_call 106; first
      | ((with_reducible refine N1.mono ?_); rintro x W9 ⟨rfl, hr9, hb9⟩; have hf9 := hf8.drew.below hb9 (by omega); have hB9 : Below w.heap.size w W9 := hB8.drew.trans (hb9.mono (by omega)); rw [List.drop_drop, cutA_lt (by omega)] at hr9; simp only [Nat.add_assoc, Nat.reduceAdd, Nat.sub_sub] at hr9)
      | (revert hr9; intro hr9; refine (number32_gives W9 _ _ _ _ hr9 (by rw [List.length_drop, HL.out]; omega)).mono ?_; rintro x W10 ⟨rfl, hr10, hb10⟩; have hf10 := hf9.below hb10 (by omega); have hB10 : Below w.heap.size w W10 := hB9.trans (hb10.mono (by omega)); have C10 := clone_gives W10 _ _ _ ((hdr 64 (by omega) (by omega) W10 hB10).more hB10.size) (by rw [HL64.out]; omega); rw [HL64.out] at C10))
    | (go_at_call 46; refine C10.mono ?_; rintro x W11 ⟨v11, rfl, own11, hB⟩; have hf11 := hf10.below hB hf10.lt; have hB11 := hB10.trans (hB.mono hB10.size); have hc4 : W11.cell? ⟨w.heap.size, 4, none⟩ = some (.int .i64 0) := (by rw [hf11.cell]; rfl); have hc5 : W11.cell? ⟨w.heap.size, 5, none⟩ = some (.int .u32 0) := (by rw [hf11.cell]; rfl); have hc6 : W11.cell? ⟨w.heap.size, 6, none⟩ = some (.slice none 0 0) := (by rw [hf11.cell]; rfl); have hg4 := hf11.free 4; have hg5 := hf11.free 5; have hg6 := hf11.free 6; obtain ⟨A11, c11, rfl, hin11⟩ := own11.inB; rw [HL64.out] at own11 ⊢))
  have s10 := hB10.size
  have hwlt : w.heap.size < W10.heap.size := hf10.lt
  have hf12 : BlkIs (((W11.setCell ⟨w.heap.size, 4, none⟩ (.int .i64 (rfix ((l.drop 17).take 4) : Int))).setCell ⟨w.heap.size, 5, none⟩ (.int .u32 (rfix ((l.drop 21).take 4) : Int))).setCell ⟨w.heap.size, 6, none⟩ (.slice A11 512 c11)) w.heap.size 97 #[.int .u64 (rfix (l.take 8) : Int), .int .i64 (rfix ((l.drop 8).take 4) : Int), .int .i64 (rfix ((l.drop 12).take 4) : Int), .bool fl, .int .i64 (rfix ((l.drop 17).take 4) : Int), .int .u32 (rfix ((l.drop 21).take 4) : Int), .slice A11 512 c11] := ((hf11.set 4 _).set 5 _).set 6 _
  have hB12 : Below w.heap.size w (((W11.setCell ⟨w.heap.size, 4, none⟩ (.int .i64 (rfix ((l.drop 17).take 4) : Int))).setCell ⟨w.heap.size, 5, none⟩ (.int .u32 (rfix ((l.drop 21).take 4) : Int))).setCell ⟨w.heap.size, 6, none⟩ (.slice A11 512 c11)) := ((hB11.setCell (p := ⟨w.heap.size, 4, none⟩) (Nat.le_refl _) _).setCell (p := ⟨w.heap.size, 5, none⟩) (Nat.le_refl _) _).setCell (p := ⟨w.heap.size, 6, none⟩) (Nat.le_refl _) _
  have own12 : OwnB (((W11.setCell ⟨w.heap.size, 4, none⟩ (.int .i64 (rfix ((l.drop 17).take 4) : Int))).setCell ⟨w.heap.size, 5, none⟩ (.int .u32 (rfix ((l.drop 21).take 4) : Int))).setCell ⟨w.heap.size, 6, none⟩ (.slice A11 512 c11)) W10.heap.size (.slice A11 512 c11) (l.drop 64) := ((own11.apart (setCell_grownBy W11 ⟨w.heap.size, 4, none⟩ _) hwlt).apart (setCell_grownBy _ ⟨w.heap.size, 5, none⟩ _) hwlt).apart (setCell_grownBy _ ⟨w.heap.size, 6, none⟩ _) hwlt
  generalize (((W11.setCell ⟨w.heap.size, 4, none⟩ (.int .i64 (rfix ((l.drop 17).take 4) : Int))).setCell ⟨w.heap.size, 5, none⟩ (.int .u32 (rfix ((l.drop 21).take 4) : Int))).setCell ⟨w.heap.size, 6, none⟩ (.slice A11 512 c11)) = W12 at *
  have hty12 : ∀ g o, A11 = some ⟨g, o, none⟩ → w.heap.size ≤ g ∧ ∃ cs, BlkIs W12 g 5 cs := fun g o e => by
    subst e
    rcases own12.2 with ⟨e1, _⟩ | ⟨g', cap, cur, e1, h1, h2, _⟩
    · cases e1
    · injection e1 with e1 _ _
      injection e1 with e1
      injection e1 with e1 _ _
      subst e1
      exact ⟨by omega, cur, h2⟩
  have HTY := Lib.hid hty12
  clear hty12
  clear hf11 hB11 own11 hc4 hc5 hc6 hg4 hg5 hg6 hin11 hB C10 hf10 hB10 hr10 hb10 hf9 hB9 hr9 hb9 N1 hf8 hB8 s8 hzw hz4 hpw hpw2 hp4 hiw hi4 s10 hwlt
  go_wp2_with fail
  have hin12 : InB W12 W12.heap.size A11 c11 (l.drop 64) := by
    obtain ⟨A', c', e1, hh⟩ := own12.inB
    rw [HL64.out] at e1
    injection e1 with e2 e3 e4
    subst e2 e4
    exact hh
  have hT64 : (l.take 64).length = 64 := by rw [List.length_take, HL.out]; rfl
  have hGF : ∀ x w', Below w.heap.size w w' → (if isFrame l then ∃ A k, x = .returned (.tuple #[.agg (frCells (fdE l) (fdI l) (fdP l) (fdF l) (fdZ l) (fdL l) A 512 k), .int .i64 0]) ∧ InB w' w'.heap.size A k (l.drop 64) ∧ (∀ g o, A = some ⟨g, o, none⟩ → w.heap.size ≤ g ∧ ∃ cs, BlkIs w' g 5 cs) else x = .returned (.tuple #[.agg zeroFr, .int .i64 150])) → GivesFrT w l x w' := fun x w' h1 h2 => ⟨h1, h2⟩
  have hFi : isFrame l = (frOk 512 (fdI l) (fdP l) (fdF l) (fdZ l) && (sectB (partB (fdE l) (fdI l) (fdP l) (fdF l) (fdZ l) (fdL l)) (l.drop 64) == l.take 64)) := by unfold isFrame; rw [HL.out]; rfl
  have eE : rfix (l.take 8) = fdE l := rfl
  have eI : rfix ((l.drop 8).take 4) = fdI l := rfl
  have eP : rfix ((l.drop 12).take 4) = fdP l := rfl
  have eZ : rfix ((l.drop 17).take 4) = fdZ l := rfl
  have eL : rfix ((l.drop 21).take 4) = fdL l := rfl
  rw [eE, eI, eP, eZ, eL] at hf12
  rw [eE, eI, eP, eZ, eL]
  clear eE eI eP eZ eL
  rw [hflq.out] at hFi hGF
  generalize fdE l = e at *
  generalize fdI l = i at *
  generalize fdP l = p at *
  generalize fdZ l = z at *
  generalize fdL l = n at *
  have HGF := Lib.hid hGF
  have HFi := Lib.hid hFi
  clear hGF hFi
  have s12 := hB12.size
  have hbs12 : b < W12.heap.size := by omega
  have hl2 : ∀ w', Grow W12 w' → (loadVar 97 ⟨w.heap.size, 0, none⟩).run Tryz.prog w' = .ok (.agg #[.int .u64 (e : Int), .int .i64 (i : Int), .int .i64 (p : Int), .bool fl, .int .i64 (z : Int), .int .u32 (n : Int), .slice A11 512 c11]) w' := fun w' hG => run_loadW rowFrame (hf12.below hG hf12.lt)
  have hin0 : InB W12 w.heap.size (some ⟨b, o, none⟩) c l := hIn.below hB12
  have hlb : ∀ w', Grow W12 w' → (loadVar 140 ⟨b, o, none⟩).run Tryz.prog w' = .ok (.agg ((l.take 64).map b8).toArray) w' := fun w' hG => by
    have hi := ((hin0.more s12).below hG).take 64 c (by rw [HL.out]; omega) (by omega) (Nat.le_refl _)
    refine run_loadVar_mid (P := Tryz.prog) w' b o 140 ((l.take 64).map b8) _ ?_ Tryz.underlying140 rfl (by simp only [List.length_map]; rw [hT64]; kernel_rfl)
    intro j v hj
    have hj2 : j < (l.take 64).length := by
      have := (List.getElem?_eq_some_iff.1 hj).1
      simpa using this
    obtain ⟨g', o', e1, _, hc⟩ := hi.lies (by omega)
    injection e1 with e1
    injection e1 with e1 e2
    subst e1 e2
    rw [hc j hj2]
    rw [List.getElem?_map, List.getElem?_eq_getElem hj2] at hj
    simpa [b8] using hj
  have hright0 := right_gives e i p fl z n A11 512 c11
  have hfront0 := front_gives e i p z n fl A11 c11 (l.drop 64)
  have hz1 := zeroFr_one
  have hfc := frCells_one e i p fl z n A11 512 c11
  unfold frCells at hright0 hfront0 HGF hfc
  unfold zeroFr at hz1 HGF
  cases hk : frOk 512 i p fl z with
  | false =>
    have hright := hright0
    rw [hk] at hright
    have hno : isFrame l = false := by rw [HFi.out, hk]; rfl
    open Reg in
    refine region_acts (by kernel_rfl) (by kernel_rfl) 57 rfl (by kernel_rfl) [43, 44, 45, 46, 47, 48, 49, 50, 51, 52, 53, 54] (by kernel_rfl)
      [(2, .val (.pointer (some ⟨w.heap.size, 0, none⟩))), (0, .val (.slice (some ⟨b, o, none⟩) 576 c))]
      [(43, .val (.agg #[.int .u64 (e : Int), .int .i64 (i : Int), .int .i64 (p : Int), .bool fl, .int .i64 (z : Int), .int .u32 (n : Int), .slice A11 512 c11])), (44, .val (.bool false)), (45, .val (.bool true)), (46, .val (.bool true)), (47, .any), (48, .any), (49, .any), (50, .any), (51, .any), (52, .any), (53, .any), (54, .val (.bool true))]
      ⟨rfl, rfl, trivial⟩ (by kernel_rfl)
      (allOk_cons (ok_none rfl (l_loadV (.tmp 2) (⟨w.heap.size, 0, none⟩) 97 (.agg #[.int .u64 (e : Int), .int .i64 (i : Int), .int .i64 (p : Int), .bool fl, .int .i64 (z : Int), .int .u32 (n : Int), .slice A11 512 c11]) rfl (hs 2 (.pointer (some ⟨w.heap.size, 0, none⟩)) (by kernel_rfl) (by kernel_rfl)) (fun w hg => hl2 w hg) (by kernel_rfl)))
      <| allOk_cons (ok_none rfl (l_call 88 _ _ rfl (enters_of Tryz.func88 (by kernel_rfl) rfl) #[.agg #[.int .u64 (e : Int), .int .i64 (i : Int), .int .i64 (p : Int), .bool fl, .int .i64 (z : Int), .int .u32 (n : Int), .slice A11 512 c11]] (.val (.bool false)) (args1 (hs 43 (.agg #[.int .u64 (e : Int), .int .i64 (i : Int), .int .i64 (p : Int), .bool fl, .int .i64 (z : Int), .int .u32 (n : Int), .slice A11 512 c11]) (by kernel_rfl) (by kernel_rfl))) (fun w hg => gives_grow (hright w)) (by kernel_rfl)))
      <| allOk_cons (ok_none rfl (l_not (.tmp 44) false rfl (hs 44 _ (by kernel_rfl) (by kernel_rfl)) (by kernel_rfl)))
      <| allOk_cons (ok_none rfl (l_mvF 45 (.val (.bool true)) (.inl rfl) (by kernel_rfl) (by kernel_rfl) (by kernel_rfl)))
      <| allOk_cons (okg_not 3 false 46 rfl (by kernel_rfl) (by kernel_rfl) (by kernel_rfl) (by kernel_rfl))
      <| allOk_cons (okg_not 3 false 46 rfl (by kernel_rfl) (by kernel_rfl) (by kernel_rfl) (by kernel_rfl))
      <| allOk_cons (okg_not 3 false 46 rfl (by kernel_rfl) (by kernel_rfl) (by kernel_rfl) (by kernel_rfl))
      <| allOk_cons (okg_not 3 false 46 rfl (by kernel_rfl) (by kernel_rfl) (by kernel_rfl) (by kernel_rfl))
      <| allOk_cons (okg_not 3 false 46 rfl (by kernel_rfl) (by kernel_rfl) (by kernel_rfl) (by kernel_rfl))
      <| allOk_cons (okg_not 3 false 46 rfl (by kernel_rfl) (by kernel_rfl) (by kernel_rfl) (by kernel_rfl))
      <| allOk_cons (okg_not 3 false 46 rfl (by kernel_rfl) (by kernel_rfl) (by kernel_rfl) (by kernel_rfl))
      <| allOk_cons (ok_none rfl (l_pickT (.tmp 46) (.const (.bool true)) (.tmp 53) (.bool true) rfl (hs 46 _ (by kernel_rfl) (by kernel_rfl)) (hc _) (by kernel_rfl)))
      <| allOk_nil) ?_
    intro a W13 hsz hdef hGW13 hF hU
    have e54 : a.eval (.tmp 54) = .bool true := hF 54
    have ha := Reg.acts_eq [43, 44, 45, 46, 47, 48, 49, 50, 51, 52, 53, 54] hsz hdef hU
    clear hF hU hdef
    simp only [List.foldl_cons, List.foldl_nil, e54] at ha
    clear e54 hsz
    generalize a.eval (.tmp 43) = v43 at *
    generalize a.eval (.tmp 44) = v44 at *
    generalize a.eval (.tmp 45) = v45 at *
    generalize a.eval (.tmp 46) = v46 at *
    generalize a.eval (.tmp 47) = v47 at *
    generalize a.eval (.tmp 48) = v48 at *
    generalize a.eval (.tmp 49) = v49 at *
    generalize a.eval (.tmp 50) = v50 at *
    generalize a.eval (.tmp 51) = v51 at *
    generalize a.eval (.tmp 52) = v52 at *
    generalize a.eval (.tmp 53) = v53 at *
    simp only [Act.put, List.setIfInBounds_toArray, List.set_cons_succ, List.set_cons_zero] at ha
    subst ha
    simp only [Exit.then]
    refine ‹∀ (a : Act) (w : World), Code.wp Tryz.prog _ _ a w → _› _ W13 ?_
    have hf13 := hf12.below hGW13 hf12.lt
    have hB13 : Below w.heap.size w W13 := hB12.trans (hGW13.mono s12)
    clear hright hright0 hfront0 hl2 hlb hfc
    go_wp2_with (refine wp_storeW rfl 97 (.tmp 2) (.tmp 55) rfl w.heap.size rfl rfl rowFrame hf13 (by rfl) (by rfl) hz1 ?_)
    refine bodyPost_ret_by (results_cellW_tmp 2 3 rfl rfl rfl rowFrame (hf13.setRow _) (by rfl)) rfl (HGF.out _ _ (below_setRow hB13 (Nat.le_refl _) _) ?_)
    rw [hno]
    rfl
  | true =>
    obtain ⟨_, ⟨_, hi1⟩, ⟨_, hp1⟩, ⟨_, hz2⟩, _⟩ := (frOk_iff _ _ _ _ _).1 hk
    have hright := hright0
    rw [hk] at hright
    have hfront := fun w' (hG : Grow W12 w') => hfront0 w' (by omega) (by omega) (by omega) ((hin12.below hG).more hG.size) HL64.out
    rw [HL64.out] at hfront
    have hyes : isFrame l = (sectB (partB e i p fl z n) (l.drop 64) == l.take 64) := by rw [HFi.out, hk]; rfl
    have hFS : (sectB (partB e i p fl z n) (l.drop 64)).length = 64 := by rw [sectB_length, partB_length]
    generalize sectB (partB e i p fl z n) (l.drop 64) = FS at *
    generalize l.take 64 = T64 at *
    have HY := Lib.hid hyes
    have hc64 : 64 ≤ c := by omega
    clear hyes hk
    open Reg in
    refine region_acts (by kernel_rfl) (by kernel_rfl) 57 rfl (by kernel_rfl) [43, 44, 45, 46, 47, 48, 49, 50, 51, 52, 53, 54] (by kernel_rfl)
      [(2, .val (.pointer (some ⟨w.heap.size, 0, none⟩))), (0, .val (.slice (some ⟨b, o, none⟩) 576 c))]
      [(43, .val (.agg #[.int .u64 (e : Int), .int .i64 (i : Int), .int .i64 (p : Int), .bool fl, .int .i64 (z : Int), .int .u32 (n : Int), .slice A11 512 c11])), (44, .val (.bool true)), (45, .val (.bool false)), (46, .val (.bool false)), (47, .val (.agg #[.int .u64 (e : Int), .int .i64 (i : Int), .int .i64 (p : Int), .bool fl, .int .i64 (z : Int), .int .u32 (n : Int), .slice A11 512 c11])), (48, .val (.agg (FS.map b8).toArray)), (49, .val (.slice (some ⟨b, o, none⟩) 576 c)), (50, .val (.slice (some ⟨b, o, none⟩) 64 c)), (51, .val (.pointer (some ⟨b, o, none⟩))), (52, .val (.agg (T64.map b8).toArray)), (53, .val (.bool (FS != T64))), (54, .val (.bool (FS != T64)))]
      ⟨rfl, rfl, trivial⟩ (by kernel_rfl)
      (allOk_cons (ok_none rfl (l_loadV (.tmp 2) (⟨w.heap.size, 0, none⟩) 97 (.agg #[.int .u64 (e : Int), .int .i64 (i : Int), .int .i64 (p : Int), .bool fl, .int .i64 (z : Int), .int .u32 (n : Int), .slice A11 512 c11]) rfl (hs 2 (.pointer (some ⟨w.heap.size, 0, none⟩)) (by kernel_rfl) (by kernel_rfl)) (fun w hg => hl2 w hg) (by kernel_rfl)))
      <| allOk_cons (ok_none rfl (l_call 88 _ _ rfl (enters_of Tryz.func88 (by kernel_rfl) rfl) #[.agg #[.int .u64 (e : Int), .int .i64 (i : Int), .int .i64 (p : Int), .bool fl, .int .i64 (z : Int), .int .u32 (n : Int), .slice A11 512 c11]] (.val (.bool true)) (args1 (hs 43 (.agg #[.int .u64 (e : Int), .int .i64 (i : Int), .int .i64 (p : Int), .bool fl, .int .i64 (z : Int), .int .u32 (n : Int), .slice A11 512 c11]) (by kernel_rfl) (by kernel_rfl))) (fun w hg => gives_grow (hright w)) (by kernel_rfl)))
      <| allOk_cons (ok_none rfl (l_not (.tmp 44) true rfl (hs 44 _ (by kernel_rfl) (by kernel_rfl)) (by kernel_rfl)))
      <| allOk_cons (ok_none rfl (l_mvF 45 (.val (.bool false)) (.inl rfl) (by kernel_rfl) (by kernel_rfl) (by kernel_rfl)))
      <| allOk_cons (okg 3 false 46 rfl (by kernel_rfl) (by kernel_rfl) (by kernel_rfl) (l_loadV (.tmp 2) (⟨w.heap.size, 0, none⟩) 97 (.agg #[.int .u64 (e : Int), .int .i64 (i : Int), .int .i64 (p : Int), .bool fl, .int .i64 (z : Int), .int .u32 (n : Int), .slice A11 512 c11]) rfl (hs 2 (.pointer (some ⟨w.heap.size, 0, none⟩)) (by kernel_rfl) (by kernel_rfl)) (fun w hg => hl2 w hg) (by kernel_rfl)))
      <| allOk_cons (okg 3 false 46 rfl (by kernel_rfl) (by kernel_rfl) (by kernel_rfl) (l_call 89 _ _ rfl (enters_of Tryz.func89 (by kernel_rfl) rfl) #[.agg #[.int .u64 (e : Int), .int .i64 (i : Int), .int .i64 (p : Int), .bool fl, .int .i64 (z : Int), .int .u32 (n : Int), .slice A11 512 c11]] (.val (.agg (FS.map b8).toArray)) (args1 (hs 47 (.agg #[.int .u64 (e : Int), .int .i64 (i : Int), .int .i64 (p : Int), .bool fl, .int .i64 (z : Int), .int .u32 (n : Int), .slice A11 512 c11]) (by kernel_rfl) (by kernel_rfl))) (fun w hg => gives_grow (hfront w hg)) (by kernel_rfl)))
      <| allOk_cons (okg 3 false 46 rfl (by kernel_rfl) (by kernel_rfl) (by kernel_rfl) (l_mvF 0 (.val (.slice (some ⟨b, o, none⟩) 576 c)) (.inl rfl) (by kernel_rfl) (by kernel_rfl) (by kernel_rfl)))
      <| allOk_cons (okg 3 false 46 rfl (by kernel_rfl) (by kernel_rfl) (by kernel_rfl) (l_run2W (.tmp 49) (.const (.int .i64 64)) (.val (.slice (some ⟨b, o, none⟩) 64 c)) (.slice (some ⟨b, o, none⟩) 576 c) (.int .i64 ((64 : Nat) : Int)) (hs 49 _ (by kernel_rfl) (by kernel_rfl)) (hc _) (fun ρ w hg h1 h2 => ⟨_, w, cut_toN rfl h1 h2 hc64, Grow.refl _, rfl⟩) (by kernel_rfl)))
      <| allOk_cons (okg 3 false 46 rfl (by kernel_rfl) (by kernel_rfl) (by kernel_rfl) (l_s2a (.tmp 50) b o 64 c (by decide) rfl (hs 50 _ (by kernel_rfl) (by kernel_rfl)) (by kernel_rfl)))
      <| allOk_cons (okg 3 false 46 rfl (by kernel_rfl) (by kernel_rfl) (by kernel_rfl) (l_loadV (.tmp 51) (⟨b, o, none⟩) 140 (.agg (T64.map b8).toArray) rfl (hs 51 (.pointer (some ⟨b, o, none⟩)) (by kernel_rfl) (by kernel_rfl)) (fun w hg => hlb w hg) (by kernel_rfl)))
      <| allOk_cons (okg 3 false 46 rfl (by kernel_rfl) (by kernel_rfl) (by kernel_rfl) (l_neArr (.tmp 48) (.tmp 52) _ FS T64 hFS hT64 rfl (hs 48 _ (by kernel_rfl) (by kernel_rfl)) (hs 52 _ (by kernel_rfl) (by kernel_rfl)) (by kernel_rfl)))
      <| allOk_cons (ok_none rfl (l_pickF (.tmp 46) (.const (.bool true)) (.tmp 53) (.bool (FS != T64)) rfl (hs 46 _ (by kernel_rfl) (by kernel_rfl)) (hs 53 _ (by kernel_rfl) (by kernel_rfl)) (by kernel_rfl)))
      <| allOk_nil) ?_
    intro a W13 hsz hdef hGW13 hF hU
    have e54 : a.eval (.tmp 54) = .bool (FS != T64) := hF 54
    have ha := Reg.acts_eq [43, 44, 45, 46, 47, 48, 49, 50, 51, 52, 53, 54] hsz hdef hU
    clear hF hU hdef
    simp only [List.foldl_cons, List.foldl_nil, e54] at ha
    clear e54 hsz
    generalize a.eval (.tmp 43) = v43 at *
    generalize a.eval (.tmp 44) = v44 at *
    generalize a.eval (.tmp 45) = v45 at *
    generalize a.eval (.tmp 46) = v46 at *
    generalize a.eval (.tmp 47) = v47 at *
    generalize a.eval (.tmp 48) = v48 at *
    generalize a.eval (.tmp 49) = v49 at *
    generalize a.eval (.tmp 50) = v50 at *
    generalize a.eval (.tmp 51) = v51 at *
    generalize a.eval (.tmp 52) = v52 at *
    generalize a.eval (.tmp 53) = v53 at *
    simp only [Act.put, List.setIfInBounds_toArray, List.set_cons_succ, List.set_cons_zero] at ha
    subst ha
    simp only [Exit.then]
    refine ‹∀ (a : Act) (w : World), Code.wp Tryz.prog _ _ a w → _› _ W13 ?_
    have hf13 := hf12.below hGW13 hf12.lt
    have hB13 : Below w.heap.size w W13 := hB12.trans (hGW13.mono s12)
    have hin13 := (hin12.below hGW13).more hGW13.size
    clear hright hright0 hfront0 hfront hl2 hlb hT64 hFS
    have hbne : (FS != T64) = !(FS == T64) := rfl
    rw [hbne]
    cases hq : (FS == T64) with
    | false =>
      simp only [Bool.not_false]
      go_wp2_with (refine wp_storeW rfl 97 (.tmp 2) (.tmp 55) rfl w.heap.size rfl rfl rowFrame hf13 (by rfl) (by rfl) hz1 ?_)
      refine bodyPost_ret_by (results_cellW_tmp 2 3 rfl rfl rfl rowFrame (hf13.setRow _) (by rfl)) rfl (HGF.out _ _ (below_setRow hB13 (Nat.le_refl _) _) ?_)
      rw [HY.out, hq]
      rfl
    | true =>
      simp only [Bool.not_true]
      go_wp2_with (first
        | (refine wp_loadW rfl 97 (.tmp 2) rfl w.heap.size rfl rowFrame hf13 (by rfl) ?_)
        | (refine wp_storeW rfl 97 (.tmp 2) (.tmp 56) rfl w.heap.size rfl rfl rowFrame hf13 (by rfl) (by rfl) hfc ?_))
      have hself : W13.setRow w.heap.size #[.int .u64 (e : Int), .int .i64 (i : Int), .int .i64 (p : Int), .bool fl, .int .i64 (z : Int), .int .u32 (n : Int), .slice A11 512 c11] = W13 := setRow_self W13 _ _ _ _ hf13
      rw [hself]
      refine bodyPost_ret_by (results_cellW_tmp 2 3 rfl rfl rfl rowFrame hf13 (by rfl)) rfl (HGF.out _ _ hB13 ?_)
      rw [HY.out, hq]
      refine ⟨A11, c11, rfl, hin13, fun g o e => ?_⟩
      obtain ⟨h1, cs, h2⟩ := HTY.out g o e
      exact ⟨h1, cs, h2.below hGW13 h2.lt⟩
end Go.Proofs.YtocnabpplbeafaaGreat
/- Maps from ints to sectors, in a block: written, read, struck. -/
namespace Go.Proofs.YtocnabpplbeafaaGreat
open Go Go.RowKit Lou

def zer64 : List UInt8 := List.replicate 64 0
@[reducible] def secV (l : List UInt8) : Value := .agg (l.map b8).toArray
/-- The entries tell f. -/
structure Ents (es : Array MapEntry) (f : Nat → Option (List UInt8)) : Prop where
  keys : ∀ (i : Nat) e, es[i]? = some e → ∃ k l, f k = some l ∧ e.key = .int .i64 (k : Int) ∧ e.val = secV l
  all : ∀ k l, f k = some l → ∃ (i : Nat) (e : MapEntry), es[i]? = some e ∧ e.key = .int .i64 (k : Int) ∧ e.val = secV l
  inj : ∀ (i j : Nat) e e', es[i]? = some e → es[j]? = some e' → e.key = e'.key → i = j
theorem Ents.empty : Ents #[] (fun _ => none) := ⟨fun i e h => by simp at h, fun k l h => by simp at h, fun i j e e' h => by simp at h⟩
theorem key_inj {k m : Nat} (h : Value.int .i64 (k : Int) = .int .i64 (m : Int)) : k = m := by injection h with _ h; omega
def fset (f : Nat → Option (List UInt8)) (k : Nat) (x : Option (List UInt8)) : Nat → Option (List UInt8) := fun m => if m = k then x else f m
section
variable {es : Array MapEntry} {f : Nat → Option (List UInt8)}
theorem Ents.find (h : Ents es f) (k : Nat) : (Instr.findNow (.int .i64) (.int .i64 (k : Int)) es.toList 0 = some none ∧ f k = none) ∨
    ∃ j e l, Instr.findNow (.int .i64) (.int .i64 (k : Int)) es.toList 0 = some (some (j, e.val)) ∧ es[j]? = some e ∧ e.key = .int .i64 (k : Int) ∧ f k = some l ∧ e.val = secV l := by
  have hk : MapKept.IsKey (.int .i64) (.int .i64 (k : Int)) := rfl
  have hall : ∀ x ∈ es.toList, MapKept.IsKey (.int .i64) x.key := by
    intro x hx
    obtain ⟨i, hi, rfl⟩ := List.getElem_of_mem hx
    obtain ⟨k', l, _, h2, _⟩ := h.keys i es.toList[i] (by rw [← Array.getElem?_toList]; exact List.getElem?_eq_getElem hi)
    rw [h2]
    rfl
  rcases MapKept.findNow_spec hk es.toList 0 hall with ⟨h1, h2⟩ | ⟨j, e, h1, h2, h3⟩
  · left
    refine ⟨h1, ?_⟩
    cases hf : f k with
    | none => rfl
    | some l =>
      obtain ⟨i, e, h4, h5, _⟩ := h.all k l hf
      exact absurd h5 (h2 e (Array.mem_toList_iff.2 (Array.mem_of_getElem? h4)))
  · right
    have h4 : es[j]? = some e := by rw [← Array.getElem?_toList]; exact h2
    obtain ⟨k', l, h5, h6, h7⟩ := h.keys j e h4
    have : k' = k := key_inj (h6.symm.trans h3)
    subst this
    exact ⟨j, e, l, by simpa using h1, h4, h3, h5, h7⟩
theorem Ents.push (h : Ents es f) {k : Nat} (hk : f k = none) (l : List UInt8) (born : Nat) : Ents (es.push { key := .int .i64 (k : Int), val := secV l, born := born }) (fset f k (some l)) := by
  refine ⟨fun i e he => ?_, fun m l' hm => ?_, fun i j e e' hi hj hkey => ?_⟩
  · rw [Array.getElem?_push] at he
    split at he
    · injection he with he
      subst he
      exact ⟨k, l, by simp [fset], rfl, rfl⟩
    · obtain ⟨m, l', h1, h2, h3⟩ := h.keys i e he
      refine ⟨m, l', ?_, h2, h3⟩
      have : m ≠ k := fun e => by subst e; rw [hk] at h1; cases h1
      simp [fset, this, h1]
  · by_cases e : m = k
    · subst e
      simp [fset] at hm
      subst hm
      exact ⟨es.size, { key := .int .i64 (m : Int), val := secV l, born := born }, by simp, rfl, rfl⟩
    · simp only [fset, if_neg e] at hm
      obtain ⟨i, e', h1, h2, h3⟩ := h.all m l' hm
      refine ⟨i, e', ?_, h2, h3⟩
      have := (Array.getElem?_eq_some_iff.1 h1).1
      rw [Array.getElem?_push, if_neg (by omega)]
      exact h1
  · rw [Array.getElem?_push] at hi hj
    have hno : ∀ (q : Nat) (e : MapEntry), es[q]? = some e → e.key ≠ .int .i64 (k : Int) := fun q e he hq => by
      obtain ⟨m, l', h1, h2, _⟩ := h.keys q e he
      have := key_inj (h2.symm.trans hq)
      subst this
      rw [hk] at h1
      cases h1
    split at hi
    · split at hj
      · omega
      · injection hi with hi
        subst hi
        exact absurd hkey.symm (hno j e' hj)
    · split at hj
      · injection hj with hj
        subst hj
        exact absurd hkey (hno i e hi)
      · exact h.inj i j e e' hi hj hkey
theorem Ents.modify (h : Ents es f) {k i : Nat} {e : MapEntry} (he : es[i]? = some e) (hek : e.key = .int .i64 (k : Int)) (l : List UInt8) : Ents (es.modify i fun e => { e with key := .int .i64 (k : Int), val := secV l }) (fset f k (some l)) := by
  have hget : ∀ j, (es.modify i fun e => { e with key := .int .i64 (k : Int), val := secV l })[j]? = if i = j then some { e with key := .int .i64 (k : Int), val := secV l } else es[j]? := fun j => by
    rw [Array.getElem?_modify]
    split
    · rename_i hij
      subst hij
      rw [he]
      rfl
    · rfl
  refine ⟨fun j e' hj => ?_, fun m l' hm => ?_, fun a b e1 e2 ha hb hkey => ?_⟩
  · rw [hget] at hj
    split at hj
    · injection hj with hj
      subst hj
      exact ⟨k, l, by simp [fset], rfl, rfl⟩
    · rename_i hij
      obtain ⟨m, l', h1, h2, h3⟩ := h.keys j e' hj
      refine ⟨m, l', ?_, h2, h3⟩
      have : m ≠ k := fun q => by
        subst q
        exact hij (h.inj i j e e' he hj (by rw [hek, h2]))
      simp [fset, this, h1]
  · by_cases q : m = k
    · subst q
      simp [fset] at hm
      subst hm
      exact ⟨i, _, by rw [hget, if_pos rfl], rfl, rfl⟩
    · simp only [fset, if_neg q] at hm
      obtain ⟨j, e', h1, h2, h3⟩ := h.all m l' hm
      have hij : i ≠ j := fun hij => by
        subst hij
        rw [he] at h1
        injection h1 with h1
        subst h1
        exact q (key_inj (h2.symm.trans hek))
      exact ⟨j, e', by rw [hget, if_neg hij]; exact h1, h2, h3⟩
  · have hk1 : ∀ (a : Nat) (e1 : MapEntry), (es.modify i fun e => { e with key := .int .i64 (k : Int), val := secV l })[a]? = some e1 → ∃ e0 : MapEntry, es[a]? = some e0 ∧ e0.key = e1.key := fun a e1 ha => by
      rw [hget] at ha
      split at ha
      · rename_i hia
        subst hia
        injection ha with ha
        subst ha
        exact ⟨e, he, hek⟩
      · exact ⟨e1, ha, rfl⟩
    obtain ⟨x, hx, hxk⟩ := hk1 a e1 ha
    obtain ⟨y, hy, hyk⟩ := hk1 b e2 hb
    exact h.inj a b x y hx hy (by rw [hxk, hyk, hkey])
theorem Ents.erase (h : Ents es f) {k i : Nat} {e : MapEntry} (he : es[i]? = some e) (hek : e.key = .int .i64 (k : Int)) : Ents (es.eraseIdxIfInBounds i) (fset f k none) := by
  have hi := (Array.getElem?_eq_some_iff.1 he).1
  have hget : ∀ j, (es.eraseIdxIfInBounds i)[j]? = if j < i then es[j]? else es[j + 1]? := fun j => by
    unfold Array.eraseIdxIfInBounds
    rw [dif_pos hi]
    rw [← Array.getElem?_toList, Array.toList_eraseIdx, List.getElem?_eraseIdx]
    split <;> rw [Array.getElem?_toList]
  have back : ∀ j e', (es.eraseIdxIfInBounds i)[j]? = some e' → ∃ j', j' ≠ i ∧ es[j']? = some e' ∧ (j < i → j' = j) ∧ (¬ j < i → j' = j + 1) := fun j e' hj => by
    rw [hget] at hj
    split at hj
    · exact ⟨j, by omega, hj, fun _ => rfl, fun h => by omega⟩
    · exact ⟨j + 1, by omega, hj, fun h => by omega, fun _ => rfl⟩
  refine ⟨fun j e' hj => ?_, fun m l' hm => ?_, fun a b e1 e2 ha hb hkey => ?_⟩
  · obtain ⟨j', hne, hj', _⟩ := back j e' hj
    obtain ⟨m, l', h1, h2, h3⟩ := h.keys j' e' hj'
    refine ⟨m, l', ?_, h2, h3⟩
    have : m ≠ k := fun q => by
      subst q
      exact hne (h.inj j' i e' e hj' he (by rw [hek, h2]))
    simp [fset, this, h1]
  · by_cases q : m = k
    · subst q
      simp [fset] at hm
    · simp only [fset, if_neg q] at hm
      obtain ⟨j, e', h1, h2, h3⟩ := h.all m l' hm
      have hij : j ≠ i := fun hij => by
        subst hij
        rw [he] at h1
        injection h1 with h1
        subst h1
        exact q (key_inj (h2.symm.trans hek))
      by_cases hlt : j < i
      · exact ⟨j, e', by rw [hget, if_pos hlt]; exact h1, h2, h3⟩
      · exact ⟨j - 1, e', by rw [hget, if_neg (by omega), show j - 1 + 1 = j by omega]; exact h1, h2, h3⟩
  · obtain ⟨a', _, ha', p1, p2⟩ := back a e1 ha
    obtain ⟨b', _, hb', q1, q2⟩ := back b e2 hb
    have := h.inj a' b' e1 e2 ha' hb' hkey
    by_cases c1 : a < i <;> by_cases c2 : b < i
    · have := p1 c1; have := q1 c2; omega
    · have := p1 c1; have := q2 c2; omega
    · have := p2 c1; have := q1 c2; omega
    · have := p2 c1; have := q2 c2; omega
end
/-- What a map of sectors that are not noughts tells. -/
def spar (g : Nat → List UInt8) : Nat → Option (List UInt8) := fun k => if g k = zer64 then none else some (g k)
structure MapF (w : World) (r : Nat) (g : Nat → List UInt8) : Prop where
  len : ∀ k, (g k).length = 64
  lies : ∃ es clock, MapIs w r es clock ∧ Ents es (spar g) ∧ MapKept.Stamped es clock
def gset (g : Nat → List UInt8) (k : Nat) (l : List UInt8) : Nat → List UInt8 := fun m => if m = k then l else g m
theorem MapF.lt {w : World} {r : Nat} {g : Nat → List UInt8} (h : MapF w r g) : r < w.heap.size := by obtain ⟨es, c, hm, _⟩ := h.lies; exact hm.lt
theorem MapF.keep {w w' : World} {r : Nat} {g : Nat → List UInt8} (h : MapF w r g) (hk : w'.heap[r]? = w.heap[r]?) : MapF w' r g := by
  obtain ⟨es, c, hm, he⟩ := h.lies
  exact ⟨h.len, es, c, hk.trans hm, he⟩
theorem MapF.below {w w' : World} {B r : Nat} {g : Nat → List UInt8} (h : MapF w r g) (hB : Below B w w') (hr : r < B) : MapF w' r g := h.keep (hB.block r hr)
theorem MapF.grow {w w' : World} {r : Nat} {g : Nat → List UInt8} (h : MapF w r g) (hB : Below w.heap.size w w') : MapF w' r g := h.below hB h.lt
theorem MapF.setCell {w : World} {r : Nat} {g : Nat → List UInt8} (h : MapF w r g) (p : Addr) (v : Value) : MapF (w.setCell p v) r g := by
  by_cases hp : p.block = r
  · obtain ⟨es, c, hm, he⟩ := h.lies
    refine ⟨h.len, es, c, ?_, he⟩
    have hm' : w.heap[r]? = some (.map es c) := hm
    subst hp
    unfold MapIs World.setCell
    simp [Array.getElem?_modify, hm']
  · exact h.keep (Below.heap_setCell w p v r (fun e => hp e.symm))
end Go.Proofs.YtocnabpplbeafaaGreat
/- disk: put, maps.Clone of sectors, what a map tells of a key. -/
namespace Go.Proofs.YtocnabpplbeafaaGreat
open Go Go.RowKit Lou

theorem rowDSec : RowTy Tryz.prog 107 64 := ⟨⟨_, Tryz.underlying107, rfl⟩, by kernel_rfl⟩
section
variable {P : Program} {w w' : World} {ops : Array Oper} {rest : List Oper} {o : Oper} {a : Act} {Q : Exit → Act → World → Prop}
/-- An operation whose run is known. -/
theorem wp_exec {v : Value} (hg : o.guard = none) (hr : (execOp a.eval o).run P w = .ok (.value v) w') (h : wpList P ops Q rest (a.put o.dst v) w') : wpList P ops Q (o :: rest) a w :=
  wpList_plain hg fun _ hK => by
    unfold Oper.wp
    rw [hr]
    exact hK _ _ h
theorem wp_execS (hg : o.guard = none) (hr : (execOp a.eval o).run P w = .ok .skip w') (h : wpList P ops Q rest (a.put o.dst undef) w') : wpList P ops Q (o :: rest) a w :=
  wpList_plain hg fun _ hK => by
    unfold Oper.wp
    rw [hr]
    exact hK _ _ h
end
section
variable {ρ : Operand → Value} {w : World} {o : Oper} {x y z : Operand}
theorem x_eqSec {xs ys : List UInt8} (hx1 : xs.length = 64) (hy1 : ys.length = 64) {T : TypeId} (ho : o.op = .binOp .eql 107 x y T) (h1 : ρ x = secV xs) (h2 : ρ y = secV ys) : (execOp ρ o).run Tryz.prog w = .ok (.value (.bool (xs == ys))) w := by
  unfold secV at h1 h2
  have hr : (binOp .eql 107 (.agg (xs.map b8).toArray) (.agg (ys.map b8).toArray)).run Tryz.prog w = .ok (.bool (xs == ys)) w :=
    run_eql_bytes w 107 5 64 Tryz.underlying107 Tryz.underlying5 (fun w => by simp [go_sem]) xs ys hx1 hy1
  have hm : Tryz.prog.eqGuardType Tryz.prog.depth 107 = false := by kernel_rfl
  simp only [execOp, ho, h1, h2, Sem.run_bind, run_eqGuard_agg w .eql 107 x y _ _ hm, Result.andThen_ok, hr, Sem.run_pure]
set_option maxRecDepth 100000 in
theorem x_zeroSec (ho : o.op = .build 107 #[]) : (execOp ρ o).run Tryz.prog w = .ok (.value (secV zer64)) w := by
  simp [execOp, ho, go_sem, Result.andThen]
  kernel_rfl
section
variable {r k clock : Nat} {es : Array MapEntry} {f : Nat → Option (List UInt8)} {l : List UInt8}
theorem stampedSet {w : Value} (hst : MapKept.Stamped es clock) {j : Nat} {e : MapEntry} (hj : es[j]? = some e) (hek : e.key = w) (v : Value) : MapKept.Stamped (es.modify j fun e => { e with key := w, val := v }) clock :=
  MapKept.stamped_modify hst j (fun e => { e with key := w, val := v }) (fun e _ => rfl) (fun e' _ he' => by rw [hj] at he'; injection he' with he'; subst he'; exact hek.symm)
theorem x_put (he : Ents es f) (hst : MapKept.Stamped es clock) (hm : MapIs w r es clock) (ho : o.op = .mapUpdate 82 x y z) (h1 : ρ x = .map (some r)) (h2 : ρ y = .int .i64 (k : Int)) (h3 : ρ z = secV l) :
    ∃ es' clock', (execOp ρ o).run Tryz.prog w = .ok .skip (setMap w r es' clock') ∧ Ents es' (fset f k (some l)) ∧ MapKept.Stamped es' clock' := by
  have hk : MapKept.IsKey (.int .i64) (.int .i64 (k : Int)) := rfl
  have hc : (Instr.checkKey false 10000 3 (.int .i64 (k : Int))).run Tryz.prog w = .ok () w := MapKept.run_checkKey Tryz.underlying3 hk false 9999
  have hm' : w.heap[r]? = some (.map es clock) := hm
  rcases he.find k with ⟨hf, hn⟩ | ⟨j, e, l0, hf, hj, hek, _, _⟩
  · refine ⟨_, clock + 1, ?_, he.push hn l clock, MapKept.stamped_push hst fun x hx heq => by
      obtain ⟨i, hi, rfl⟩ := List.getElem_of_mem hx
      obtain ⟨m, l', h1, h2, _⟩ := he.keys i es.toList[i] (by rw [← Array.getElem?_toList]; exact List.getElem?_eq_getElem hi)
      have := key_inj (h2.symm.trans heq)
      subst this
      rw [hn] at h1
      cases h1⟩
    simp [execOp, ho, h1, h2, h3, Instr.mapUpdate, run_underlying Tryz.underlying82, MapKept.run_getObj_map hm', hc, MapKept.run_findKey Tryz.underlying3 hf, MapKept.run_setObj_map _ hm', Result.andThen, setMap]
  · refine ⟨_, clock, ?_, he.modify hj hek l, stampedSet hst hj hek (secV l)⟩
    have hkey : (((es[j]?).map (·.key)).getD (.int .i64 (k : Int))) = .int .i64 (k : Int) := by rw [hj]; exact hek
    simp [execOp, ho, h1, h2, h3, Instr.mapUpdate, run_underlying Tryz.underlying82, MapKept.run_getObj_map hm', hc, MapKept.run_findKey Tryz.underlying3 hf, hj, hek, MapKept.run_keyThatStays hk, MapKept.run_setObj_map _ hm', Result.andThen, setMap]
theorem x_del (he : Ents es f) (hst : MapKept.Stamped es clock) (hm : MapIs w r es clock) (ho : o.op = .call { callee := .builtin .delete, args := #[x, y], argTypes := #[82, 3] }) (h1 : ρ x = .map (some r)) (h2 : ρ y = .int .i64 (k : Int)) :
    ∃ es', (execOp ρ o).run Tryz.prog w = .ok (.value (.tuple #[])) (setMap w r es' clock) ∧ Ents es' (fset f k none) ∧ MapKept.Stamped es' clock := by
  have hk : MapKept.IsKey (.int .i64) (.int .i64 (k : Int)) := rfl
  have hc : (Instr.checkKey es.isEmpty 10000 3 (.int .i64 (k : Int))).run Tryz.prog w = .ok () w := MapKept.run_checkKey Tryz.underlying3 hk _ 9999
  have hm' : w.heap[r]? = some (.map es clock) := hm
  rcases he.find k with ⟨hf, hn⟩ | ⟨j, e, l0, hf, hj, hek, _, _⟩
  · refine ⟨es, ?_, ?_⟩
    · simp [execOp, ho, h1, h2, resolve, invoke, builtin, Builtin.delete_, run_underlying Tryz.underlying82, MapKept.run_getObj_map hm', hc, MapKept.run_findKey Tryz.underlying3 hf, MapKept.run_setObj_map _ hm', Result.andThen, setMap]
    · have : fset f k none = f := by
        funext m
        unfold fset
        split
        · rename_i e
          rw [e, hn]
        · rfl
      rw [this]
      exact ⟨he, hst⟩
  · refine ⟨_, ?_, he.erase hj hek, MapKept.stamped_erase hst j⟩
    simp [execOp, ho, h1, h2, resolve, invoke, builtin, Builtin.delete_, run_underlying Tryz.underlying82, MapKept.run_getObj_map hm', hc, MapKept.run_findKey Tryz.underlying3 hf, MapKept.run_setObj_map _ hm', Result.andThen, setMap]
set_option maxRecDepth 100000 in
theorem x_lookup {g : Nat → List UInt8} (h : MapF w r g) (ho : o.op = .lookup 82 x y false) (h1 : ρ x = .map (some r)) (h2 : ρ y = .int .i64 (k : Int)) : (execOp ρ o).run Tryz.prog w = .ok (.value (secV (g k))) w := by
  obtain ⟨es, clock, hm, he, _⟩ := h.lies
  have hk : MapKept.IsKey (.int .i64) (.int .i64 (k : Int)) := rfl
  have hc : (Instr.checkKey es.isEmpty 10000 3 (.int .i64 (k : Int))).run Tryz.prog w = .ok () w := MapKept.run_checkKey Tryz.underlying3 hk _ 9999
  have hm' : w.heap[r]? = some (.map es clock) := hm
  rcases he.find k with ⟨hf, hn⟩ | ⟨j, e, l0, hf, hj, hek, hfk, hv⟩
  · have hz : g k = zer64 := by
      unfold spar at hn
      split at hn
      · assumption
      · cases hn
    rw [hz]
    have zv : (zeroValue 107).run Tryz.prog w = .ok (secV zer64) w := by
      simp [go_sem]
      kernel_rfl
    simp [execOp, ho, h1, h2, Instr.lookup, run_underlying Tryz.underlying82, MapKept.run_getObj_map hm', hc, MapKept.run_findKey Tryz.underlying3 hf, zv, Result.andThen]
  · have hg : l0 = g k := by
      unfold spar at hfk
      split at hfk
      · cases hfk
      · injection hfk with hfk
        exact hfk.symm
    subst hg
    rw [← hv]
    simp [execOp, ho, h1, h2, Instr.lookup, run_underlying Tryz.underlying82, MapKept.run_getObj_map hm', hc, MapKept.run_findKey Tryz.underlying3 hf, Result.andThen]
end
end
section
variable {w : World} {ops : Array Oper} {rest : List Oper} {o : Oper} {a : Act} {Q : Exit → Act → World → Prop} {r k clock : Nat} {es : Array MapEntry} {f : Nat → Option (List UInt8)} {l : List UInt8}
theorem wp_mput (hg : o.guard = none) (x y z : Operand) (ho : o.op = .mapUpdate 82 x y z) (h1 : a.eval x = .map (some r)) (h2 : a.eval y = .int .i64 (k : Int)) (h3 : a.eval z = secV l) (he : Ents es f) (hst : MapKept.Stamped es clock) (hm : MapIs w r es clock)
    (h : ∀ es' clock', Ents es' (fset f k (some l)) → MapKept.Stamped es' clock' → wpList Tryz.prog ops Q rest (a.put o.dst undef) (setMap w r es' clock')) : wpList Tryz.prog ops Q (o :: rest) a w := by
  obtain ⟨es', clock', hr, he', hs'⟩ := x_put he hst hm ho h1 h2 h3
  exact wp_execS hg hr (h _ _ he' hs')
theorem wp_mdel (hg : o.guard = none) (x y : Operand) (ho : o.op = .call { callee := .builtin .delete, args := #[x, y], argTypes := #[82, 3] }) (h1 : a.eval x = .map (some r)) (h2 : a.eval y = .int .i64 (k : Int)) (he : Ents es f) (hst : MapKept.Stamped es clock) (hm : MapIs w r es clock)
    (h : ∀ es', Ents es' (fset f k none) → MapKept.Stamped es' clock → wpList Tryz.prog ops Q rest (a.put o.dst (.tuple #[])) (setMap w r es' clock)) : wpList Tryz.prog ops Q (o :: rest) a w := by
  obtain ⟨es', hr, he', hs'⟩ := x_del he hst hm ho h1 h2
  exact wp_exec hg hr (h _ he' hs')
end
theorem spar_set {g : Nat → List UInt8} {k : Nat} {l : List UInt8} (h : l ≠ zer64) : fset (spar g) k (some l) = spar (gset g k l) := by
  funext m
  unfold fset spar gset
  by_cases e : m = k <;> simp [e, h]
theorem spar_del {g : Nat → List UInt8} {k : Nat} (x : Option (List UInt8)) : fset (fset (spar g) k x) k none = spar (gset g k zer64) := by
  funext m
  unfold fset spar gset
  by_cases e : m = k <;> simp [e]
section
variable {P : Program} (w : World)
theorem run_eql_map_nil (t k e : TypeId) (p : Option Nat) (h : P.underlying t = some (.map k e)) : (binOp .eql t (.map p) (.map none)).run P w = .ok (.bool p.isNone) w := by
  have e1 : binOp .eql t (.map p) (.map none) = (do pure (.bool (← Op.equalIn (9999 + 1) t (.map p) (.map none)))) := rfl
  have h1 : (Op.equalIn (9999 + 1) t (.map p) (.map none)).run P w = .ok p.isNone w := by
    unfold Op.equalIn
    cases p <;> simp [run_underlying h]
  rw [e1]
  simp only [Sem.run_bind, h1, Result.andThen, Sem.run_pure]
theorem run_typeAssert_map (t xT k e : TypeId) (v : Value) (h : P.underlying t = some (.map k e)) : (Instr.typeAssert (.iface t v) xT t false).run P w = .ok v w := by
  simp [Instr.typeAssert, run_underlying h, go_sem, Result.andThen]
theorem run_mclone {r : Nat} {es : Array MapEntry} {clock : Nat} (t : TypeId) (hb : w.heap[r]? = some (.map es clock)) :
    (Extern.MapsClone.clone #[.iface t (.map (some r))]).run P w = .ok (.iface t (.map (some w.heap.size))) (w.alloc (.map es clock)) := by
  have e : Extern.MapsClone.clone #[.iface t (.map (some r))] = (getObj r >>= fun o => match o with
      | .map entries clock => (newObj (.map entries clock) >>= fun n => pure (.iface t (.map (some n))))
      | _ => stuck "maps.clone: a map expected") := rfl
  rw [e]
  simp [MapKept.run_getObj_map hb, Result.andThen, go_sem]
end
set_option maxRecDepth 100000 in
set_option maxHeartbeats 4000000 in
theorem put_gives (w : World) (r k : Nat) (g : Nat → List UInt8) (l : List UInt8) (hl : l.length = 64) (h : MapF w r g) :
    Calls Tryz.prog 96 #[.map (some r), .int .i64 (k : Int), secV l] w fun e w' => (∃ v, e = .returned v) ∧ MapF w' r (gset g k l) ∧ w.grownBy w' (some r) := by
  obtain ⟨es, clock, hm, he, hst⟩ := h.lies
  have hb := BlkIs.new w 107 (l.map b8).toArray
  have hg0 : w.grownBy (w.alloc (.cells (l.map b8).toArray 107)) (some r) := ⟨rfl, rfl, rfl, by simp, fun j hj _ => Below.heap_alloc w _ j hj⟩
  have hm0 : MapIs (w.alloc (.cells (l.map b8).toArray 107)) r es clock := (Below.heap_alloc w _ r hm.lt).trans hm
  have hlen : ∀ m, (gset g k l m).length = 64 := fun m => by unfold gset; split; exact hl; exact h.len m
  have hsz : (l.map b8).toArray.size = 64 := by simp [hl]
  have hRow : RowTy Tryz.prog 107 (l.map b8).toArray.size := by rw [hsz]; exact rowDSec
  have HL := Lib.hid hl
  have hz : zer64.length = 64 := by decide
  clear hl hsz
  go_enter Tryz.func96, Tryz.ntmps96
  by_cases hlz : l = zer64
  · have hq : (l == zer64) = true := by simpa using hlz
    have HZ := Lib.hid hlz
    clear hlz
    go_wp2_with (first
      | (refine wp_loadW rfl 107 (.tmp 5) rfl w.heap.size rfl hRow (by with_reducible assumption) rfl ?_)
      | (refine wp_mput rfl (.tmp 6) (.tmp 7) (.tmp 8) rfl rfl rfl rfl he hst hm0 ?_; intro es1 ck1 he1 hs1; have hm1 := hm0.set es1 ck1; have hg1 := grownBy_trans hg0 (setMap_grown hm0 es1 ck1); have hb1 := hb.setMap hm0 es1 ck1)
      | (refine wp_exec rfl (x_zeroSec rfl) ?_)
      | (refine wp_exec rfl (x_eqSec HL.out hz rfl rfl rfl) ?_; rw [hq])
      | (refine wp_mdel rfl (.tmp 12) (.tmp 13) rfl rfl rfl he1 hs1 hm1 ?_; intro es2 he2 hs2; have hm2 := hm1.set es2 ck1; have hg2 := grownBy_trans hg1 (setMap_grown hm1 es2 ck1)))
    go_end0
    refine ⟨⟨_, rfl⟩, ⟨hlen, es2, ck1, hm2, ?_, hs2⟩, hg2⟩
    rw [HZ.out, ← spar_del (some l)]
    exact he2
  · have hq : (l == zer64) = false := by simpa using hlz
    have HZ := Lib.hid hlz
    clear hlz
    go_wp2_with (first
      | (refine wp_loadW rfl 107 (.tmp 5) rfl w.heap.size rfl hRow (by with_reducible assumption) rfl ?_)
      | (refine wp_mput rfl (.tmp 6) (.tmp 7) (.tmp 8) rfl rfl rfl rfl he hst hm0 ?_; intro es1 ck1 he1 hs1; have hm1 := hm0.set es1 ck1; have hg1 := grownBy_trans hg0 (setMap_grown hm0 es1 ck1); have hb1 := hb.setMap hm0 es1 ck1)
      | (refine wp_exec rfl (x_zeroSec rfl) ?_)
      | (refine wp_exec rfl (x_eqSec HL.out hz rfl rfl rfl) ?_; rw [hq]))
    go_end0
    refine ⟨⟨_, rfl⟩, ⟨hlen, es1, ck1, hm1, ?_, hs1⟩, hg1⟩
    rw [← spar_set HZ.out]
    exact he1
set_option maxRecDepth 100000 in
set_option maxHeartbeats 2000000 in
/-- maps.Clone of sectors. -/
theorem mclone_gives (w : World) (r : Nat) (g : Nat → List UInt8) (h : MapF w r g) :
    Calls Tryz.prog 56 #[.map (some r)] w fun e w' => e = .returned (.map (some w.heap.size)) ∧ MapF w' w.heap.size g ∧ Below w.heap.size w w' := by
  obtain ⟨es, clock, hm, he⟩ := h.lies
  have hm' : w.heap[r]? = some (.map es clock) := hm
  have hnew : MapF (w.alloc (.map es clock)) w.heap.size g := ⟨h.len, es, clock, heap_alloc_new w _, he⟩
  have hB : Below w.heap.size w (w.alloc (.map es clock)) := (Below.refl _ _).alloc (Nat.le_refl _) _
  go_enter Tryz.func56, Tryz.ntmps56
  have hq := fun W => run_eql_map_nil (P := Tryz.prog) W 82 _ _ (some r) Tryz.underlying82
  go_wp2_with fail
  rw [run_callFunc_extern Tryz.func95 (by kernel_rfl) (by kernel_rfl) (by kernel_rfl) (e := Extern.MapsClone.clone) (by kernel_rfl), run_mclone w 82 hm']
  simp only [Result.andThen]
  rw [Oper.upon_value]
  go_wp2
  rw [run_typeAssert_map _ 82 20 _ _ _ Tryz.underlying82]
  simp only [Result.andThen]
  rw [Oper.upon_value]
  go_wp2
  go_ret
  exact ⟨rfl, hnew, hB⟩
end Go.Proofs.YtocnabpplbeafaaGreat
/- Rows of loose writes. -/
namespace Go.Proofs.YtocnabpplbeafaaGreat
open Go Go.RowKit Lou
/-! ### Writes that are loose -/
def lsC (x : Nat × List UInt8) : List Value := .int .i64 (x.1 : Int) :: x.2.map b8
def flC (xs : List (Nat × List UInt8)) : List Value := (xs.map lsC).flatten
def Wide (xs : List (Nat × List UInt8)) : Prop := ∀ x ∈ xs, x.2.length = 64
theorem lsC_length {x : Nat × List UInt8} (h : x.2.length = 64) : (lsC x).length = 65 := by simp [lsC, h]
theorem flC_length {xs : List (Nat × List UInt8)} (h : Wide xs) : (flC xs).length = xs.length * 65 := by
  induction xs with
  | nil => rfl
  | cons x xs ih =>
    have h1 := ih (fun y hy => h y (by simp [hy]))
    have h2 := lsC_length (h x (by simp))
    have e : flC (x :: xs) = lsC x ++ flC xs := rfl
    rw [e, List.length_append, h1, h2, List.length_cons]
    omega
theorem flC_append (xs ys : List (Nat × List UInt8)) : flC (xs ++ ys) = flC xs ++ flC ys := by simp [flC]
theorem flC_elem {xs : List (Nat × List UInt8)} (h : Wide xs) (j : Nat) (hj : j < xs.length) : ((flC xs).drop (j * 65)).take 65 = lsC xs[j] := by
  have e : flC xs = flC (xs.take j) ++ (lsC xs[j] ++ flC (xs.drop (j + 1))) := by
    have e2 : lsC xs[j] ++ flC (xs.drop (j + 1)) = flC (xs[j] :: xs.drop (j + 1)) := rfl
    rw [e2, ← flC_append, ← List.drop_eq_getElem_cons hj, List.take_append_drop]
  have hl : (flC (xs.take j)).length = j * 65 := by
    rw [flC_length (fun x hx => h x (List.mem_of_mem_take hx)), List.length_take]
    congr 1
    omega
  rw [e, ← hl, List.drop_left]
  have h5 := lsC_length (h xs[j] (List.getElem_mem hj))
  rw [List.take_append_of_le_length (by omega), List.take_of_length_le (by omega)]
theorem flC_take {xs : List (Nat × List UInt8)} (h : Wide xs) (k : Nat) (hk : k ≤ xs.length) : (flC xs).take (k * 65) = flC (xs.take k) := by
  have e : flC xs = flC (xs.take k) ++ flC (xs.drop k) := by rw [← flC_append, List.take_append_drop]
  have hl : (flC (xs.take k)).length = k * 65 := by
    rw [flC_length (fun x hx => h x (List.mem_of_mem_take hx)), List.length_take]
    congr 1
    omega
  rw [e, ← hl, List.take_left]
theorem lsC_one (x : Nat × List UInt8) : ∀ v ∈ lsC x, v.oneCell' = true := by
  intro v hv
  simp [lsC] at hv
  rcases hv with rfl | ⟨y, _, rfl⟩ <;> rfl
theorem flC_one (xs : List (Nat × List UInt8)) : ∀ v ∈ flC xs, v.oneCell' = true := by
  intro v hv
  unfold flC at hv
  obtain ⟨l, hl, hv⟩ := List.mem_flatten.1 hv
  obtain ⟨x, _, rfl⟩ := List.mem_map.1 hl
  exact lsC_one _ v hv
def zeroLs : Value := .agg (lsC (0, zer64)).toArray
theorem rowLoose : RowTy Tryz.prog 110 65 := ⟨⟨_, Tryz.underlying110, rfl⟩, by kernel_rfl⟩
theorem elLoose : ElT 83 110 65 72 zeroLs := ⟨Tryz.underlying83, by kernel_rfl, by kernel_rfl, by decide⟩
/-- Loose writes that lie in a row below B. -/
def InW (w : World) (B : Nat) (A : Option Addr) (c : Nat) (xs : List (Nat × List UInt8)) : Prop := Wide xs ∧ InG w B 65 A xs.length c (flC xs)
theorem InW.grow {w w' : World} {A : Option Addr} {c : Nat} {xs : List (Nat × List UInt8)} (h : InW w w.heap.size A c xs) (hb : Below w.heap.size w w') : InW w' w'.heap.size A c xs := ⟨h.1, h.2.grow hb⟩
theorem InW.below {w w' : World} {B : Nat} {A : Option Addr} {c : Nat} {xs : List (Nat × List UInt8)} (h : InW w B A c xs) (hb : Below B w w') : InW w' B A c xs := ⟨h.1, h.2.below hb⟩
theorem InW.more {w : World} {B B' : Nat} {A : Option Addr} {c : Nat} {xs : List (Nat × List UInt8)} (h : InW w B A c xs) (hB : B ≤ B') : InW w B' A c xs := ⟨h.1, h.2.more hB⟩
theorem InW.mt (w : World) (B : Nat) : InW w B none 0 [] := ⟨fun x h => by simp at h, InG.mt _ _ _⟩
theorem InW.elem {w : World} {B g o c : Nat} {xs : List (Nat × List UInt8)} (h : InW w B (some ⟨g, o, none⟩) c xs) (j : Nat) (hj : j < xs.length) : w.rangeAt g (o + j * 65) (lsC xs[j]) := by
  have := h.2.elem j hj
  rw [flC_elem h.1 j hj] at this
  exact this
end Go.Proofs.YtocnabpplbeafaaGreat
