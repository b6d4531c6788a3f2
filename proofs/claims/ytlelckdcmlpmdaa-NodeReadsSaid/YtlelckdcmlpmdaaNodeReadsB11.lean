/- Texts that the proof of NodeReads leans on, part 11. -/
import Derived.Deep.DeepCutAuto
import Derived.Deep.CutBlock
import Derived.BigQuiet
import Derived.Test.YtlelckdcmlpmdaaNodeReadsB10
/- louperef12: bytes. -/
namespace Go.Proofs.Ytlelckdcmlpmdaa
open Go Go.RowKit Lou

set_option maxRecDepth 100000 in
set_option maxHeartbeats 8000000 in
theorem rbytes_gives (w : World) (x : Nod) (Ac : Option Addr) (cc : Nat) (Ak : Option Addr) (ck : Nat) (Ai : Option Addr) (ci : Nat) (h : NIs w w.heap.size x Ac cc Ak ck Ai ci) (hl : x.cells.length ≤ 1000) (hl2 : x.keys.length ≤ 1000) (hl3 : x.kids.length ≤ 1001) (hR : RightP x) :
    Calls Try.prog 179 #[.agg (nodC x Ac cc Ak ck Ai ci)] w (GivesB w (laidB x)) := by
  have b0 := BlkIs.new w 76 (nodC x Ac cc Ak ck Ai ci)
  have hB : Below w.heap.size w (w.alloc (.cells (nodC x Ac cc Ak ck Ai ci) 76)) := (Below.refl _ w).alloc (Nat.le_refl _) _
  have h1 := h.grow hB
  have HP := parts_gives _ x Ac cc Ak ck Ai ci h1 (by omega) (by omega) (by omega) hR
  have hlen : (lotsB x).length = x.cells.length + x.keys.length := by simp [lotsB]
  have hflat : (lotsB x).flatten.length ≤ 1000000 := by
    have := flat_bound (lotsB x) 200 (lots_each hR)
    omega
  have hlb : laidB x = ((if x.leaf then 1 else 2) :: num (lotsB x).length ++ (if x.leaf then [] else num (x.kids.getD 0 0).toNat)) ++ (lotsB x).flatten := rfl
  have hkid : x.leaf = false → ∃ n : Nat, n ≤ 2000 ∧ ∃ h2 : 0 < x.kids.length, x.kids[0] = (n : Int) := fun e => by
    obtain ⟨_, _, hln, hp⟩ := hR.inner e
    have h2 : 0 < x.kids.length := by omega
    have hp2 := hp _ (List.getElem_mem h2)
    simp only [pageB, Bool.and_eq_true, decide_eq_true_eq] at hp2
    exact ⟨x.kids[0].toNat, by omega, h2, by omega⟩
  have hsum := sumTo_le (lotsB x)
  have hnext := sumTo_next (lotsB x)
  have hflt : ∀ k, ∀ _ : k < (lotsB x).length, ((lotsB x).take (k + 1)).flatten = ((lotsB x).take k).flatten ++ (lotsB x)[k] := fun k hk => by rw [List.take_succ_eq_append_getElem hk, List.flatten_append]; simp
  have hall : ((lotsB x).take (lotsB x).length).flatten = (lotsB x).flatten := by rw [List.take_length]
  rw [hlb]
  generalize lotsB x = ls at *
  have hnl := num_length ls.length
  have hnn : ls.length ≤ 2000 := by omega
  clear hlb hlen
  unfold LotsOut at HP
  have HFL := Lib.hid hflat
  have HFT := Lib.hid hflt
  have HALL := Lib.hid hall
  have HNX := Lib.hid hnext
  have HSM := Lib.hid hsum
  have HN := fun W => refNumber_gives ls.length (by omega) W
  have hwn : IntKind.u64.wrap (ls.length : Int) = (ls.length : Int) := by simp [IntKind.wrap, IntKind.bits, IntKind.signed]; omega
  obtain ⟨l2, hl2e⟩ : ∃ l, l = num ls.length := ⟨_, rfl⟩
  rw [← hl2e] at hnl HN ⊢
  have HL2 := Lib.hid hl2e
  clear hflat hflt hall hnext hsum hl2e hR h
  obtain ⟨leaf, cells, keys, kids⟩ := x
  unfold nodC at *
  simp only at *
  have hpw := b0.lt
  unfold GivesB at *
  obtain ⟨W1, hW1⟩ : ∃ W, W = w.alloc (.cells #[.bool leaf, .slice Ac cells.length cc, .slice Ak keys.length ck, .slice Ai kids.length ci] 76) := ⟨_, rfl⟩
  rw [← hW1] at b0 hB h1 HP hpw
  have HW1 := Lib.hid hW1
  clear hW1
  cases leaf with
  | true =>
    clear hkid
    go_enter Try.func179, Try.ntmps179
    go_upto_if 15 with (first
      | (rw [← HW1.out]; refine wp_loadW rfl 76 (.tmp 1) rfl w.heap.size rfl rowNod b0 (by rfl) ?_)
      | (go_at_call 204; refine HP.mono ?_; rintro e w2 ⟨A3, c3, vs, rfl, hL2, hB2⟩; have hB3 : Below w2.heap.size w2 (w2.alloc (.cells #[.int .u8 2] 5)) := (Below.refl _ w2).alloc (Nat.le_refl _) _; have own3 : (w2.alloc (.cells #[.int .u8 2] 5)).ownsRow w2.heap.size 5 1 (.slice (some ⟨w2.heap.size, 0, none⟩) 1 1) 1 [.int .u8 2] := World.ownsRow_lit w2 #[.int .u8 2] 1 (Nat.le_refl _) (by unfold maxLen; omega) rfl)
      | (go_at_call 42; refine (HN _).mono ?_; rintro e w4 ⟨v4, rfl, own4, hB4⟩; obtain ⟨A4, c4, rfl, in4⟩ := ownB_inG own4; have own3' := ownG_grow own3 hB4; have hB24 := hB3.trans (hB4.mono hB3.size))
      | (at_builtin; refine wp_appG rfl elU8 (.tmp 8) (.tmp 12) rfl w2.heap.size (.slice (some ⟨w2.heap.size, 0, none⟩) 1 1) 1 [.int .u8 2] rfl own3' _ A4 l2.length c4 (l2.map b8) rfl in4 (by unfold maxLen; omega) (by omega) hB24.size ?_; intro v5 w5 own5 hg5; have hB25 := hB24.trans (grown_below hg5 hB24.size (ownG_ge own3')); have own5 : OwnB w5 w2.heap.size v5 (2 :: l2) := ownB_app (l1 := [2]) own5 rfl; obtain ⟨g5, cap5, rfl, hg5, hg5l, hc5⟩ := own5.at_ (by simp); have b5 := (b0.below hB2 b0.lt).below hB25 (Nat.lt_of_lt_of_le b0.lt hB2.size); have k50 : w5.cell? ⟨w.heap.size, 0, none⟩ = some (.bool true) := (by rw [b5.cell]; rfl)))
    have hpos : (0 : Int) < ((2 :: l2 : List UInt8).length : Int) := by rw [List.length_cons]; omega
    have hpos2 : (0 : Int) < ((l2.length : Int) + 1) := by omega
    have k5 := own5.cell 0 (by simp)
    have f5 := own5.free 0
    have own6 := own5.set 0 1 (by decide)
    have e6 : (2 :: l2 : List UInt8).set 0 (UInt8.ofNat 1) = 1 :: l2 := rfl
    rw [e6] at own6
    have hB26 : Below w2.heap.size w2 (w5.setCell ⟨g5, 0, none⟩ (.int .u8 1)) := hB25.setCell hg5 _
    have hlen6 : (1 :: l2 : List UInt8).length = (2 :: l2 : List UInt8).length := rfl
    have HHL := Lib.hid (show (1 :: l2 : List UInt8).length ≤ 100 by simp; omega)
    go_wp2
    have hL5 := fun W (hW : Below w2.heap.size w2 W) => hL2.grow hW
    obtain ⟨A3', c3', e3, in3⟩ := ownG_in hL2.own hL2.one
    injection e3 with e31 e32 e33
    subst e31 e33
    have hB12 := hB.trans (hB2.mono hB.size)
    clear hB4 hB3 own3 own4
    go_loopw [4, 5] (fun v i wr => ∃ (k : Nat) (acc : List UInt8) (A : Option Addr) (c : Nat), k ≤ ls.length ∧ i = .int .i64 k ∧ v = .slice A acc.length c ∧ OwnB wr w2.heap.size (.slice A acc.length c) acc ∧ Hid (acc = (1 :: l2) ++ (ls.take k).flatten) ∧ Below w2.heap.size w2 wr) (fun _ i _ => ls.length - (intOf i).toNat)
    case atStart => exact ⟨0, 1 :: l2, _, _, by omega, rfl, by simp, own6, Lib.hid (by simp), hB26⟩
    case round =>
      obtain ⟨k, acc, A, c, hk, rfl, rfl, own, HA, hBr⟩ := hrel
      have hacc : acc.length ≤ 1000100 := by rw [HA.out, List.length_append]; have h1 := HSM.out k; have h2 := HFL.out; unfold sumTo at h1; have h3 := HHL.out; omega
      by_cases hlt : k < ls.length
      · obtain ⟨Aj, cj, ej, hown⟩ := (hL5 wr hBr).at_ k hlt
        obtain ⟨Aj', cj', e4, inj⟩ := ownB_inG hown
        injection e4 with e41 e42 e43
        subst e41 e43
        obtain ⟨g, o, rfl, hg, hr⟩ := in3.lies (by omega)
        have d0 : wr.cell? ⟨g, o + k, none⟩ = some (.slice Aj ls[k].length cj) := (hBr.cell (p := ⟨g, o + k, none⟩) hg).trans (hr k _ ej)
        have hjl : ls[k].length ≤ 1000000 := by have h1 := HNX.out k hlt; have h2 := HSM.out (k + 1); have h3 := HFL.out; omega
        have HA2 : Hid (acc ++ ls[k] = (1 :: l2) ++ (ls.take (k + 1)).flatten) := Lib.hid (by rw [HFT.out k hlt, HA.out, List.append_assoc])
        generalize ls[k] = lj at *
        have hwk : IntKind.i64.wrap ((k : Int) + 1) = (k : Int) + 1 := wrapN _ (by omega) (by omega)
        have i1 : (0 : Int) ≤ (k : Int) := by omega
        have i2 : (k : Int) < (ls.length : Int) := by omega
        have hbs := hBr.size
        clear ej hr HA
        go_wp2_with (at_builtin; refine wp_appG rfl elU8 (.tmp 32) (.tmp 36) rfl w2.heap.size (.slice A acc.length c) acc.length (acc.map b8) rfl own _ Aj lj.length cj (lj.map b8) rfl inj (by unfold maxLen; omega) (by omega) hbs ?_; intro v9 w9 own9 hg9)
        have own9 := ownB_app own9 rfl
        obtain ⟨A9, c9, rfl, _⟩ := own9.inB
        exact ⟨⟨k + 1, acc ++ lj, A9, c9, by omega, by simp, by simp, own9, HA2, hBr.trans (grown_below hg9 hbs (ownG_ge own))⟩, by simp [intOf]; omega⟩
      · obtain rfl : k = ls.length := by omega
        have HA3 : Hid (acc = (1 :: l2) ++ ls.flatten) := Lib.hid (by rw [HA.out, HALL.out])
        go_wp2
        go_ret
        refine ⟨_, rfl, ?_, hB12.trans (hBr.mono hB12.size)⟩
        have hf := OwnB.base own hB12.size
        generalize Value.slice A acc.length c = v at *
        rw [HA3.out] at hf
        exact Eq.mp (congrArg (OwnB wr w.heap.size v) (by simp)) hf
  | false =>
    obtain ⟨q, hq, hq2, hqk⟩ := hkid rfl
    clear hkid
    go_enter Try.func179, Try.ntmps179
    go_upto_if 15 with (first
      | (rw [← HW1.out]; refine wp_loadW rfl 76 (.tmp 1) rfl w.heap.size rfl rowNod b0 (by rfl) ?_)
      | (go_at_call 204; refine HP.mono ?_; rintro e w2 ⟨A3, c3, vs, rfl, hL2, hB2⟩; have hB3 : Below w2.heap.size w2 (w2.alloc (.cells #[.int .u8 2] 5)) := (Below.refl _ w2).alloc (Nat.le_refl _) _; have own3 : (w2.alloc (.cells #[.int .u8 2] 5)).ownsRow w2.heap.size 5 1 (.slice (some ⟨w2.heap.size, 0, none⟩) 1 1) 1 [.int .u8 2] := World.ownsRow_lit w2 #[.int .u8 2] 1 (Nat.le_refl _) (by unfold maxLen; omega) rfl)
      | (go_at_call 42; refine (HN _).mono ?_; rintro e w4 ⟨v4, rfl, own4, hB4⟩; obtain ⟨A4, c4, rfl, in4⟩ := ownB_inG own4; have own3' := ownG_grow own3 hB4; have hB24 := hB3.trans (hB4.mono hB3.size))
      | (at_builtin; refine wp_appG rfl elU8 (.tmp 8) (.tmp 12) rfl w2.heap.size (.slice (some ⟨w2.heap.size, 0, none⟩) 1 1) 1 [.int .u8 2] rfl own3' _ A4 l2.length c4 (l2.map b8) rfl in4 (by unfold maxLen; omega) (by omega) hB24.size ?_; intro v5 w5 own5 hg5; have hB25 := hB24.trans (grown_below hg5 hB24.size (ownG_ge own3')); have own5 : OwnB w5 w2.heap.size v5 (2 :: l2) := ownB_app (l1 := [2]) own5 rfl; obtain ⟨g5, cap5, rfl, hg5, hg5l, hc5⟩ := own5.at_ (by simp); have b5 := (b0.below hB2 b0.lt).below hB25 (Nat.lt_of_lt_of_le b0.lt hB2.size); have k50 : w5.cell? ⟨w.heap.size, 0, none⟩ = some (.bool false) := (by rw [b5.cell]; rfl)))
    have b5' := b5
    have k3 : w5.cell? ⟨w.heap.size, 3, none⟩ = some (.slice Ai kids.length ci) := by rw [b5.cell]; rfl
    obtain ⟨gi, oi, rfl, hgi, _⟩ := h1.i.lies hq2
    have d0 : w5.cell? ⟨gi, oi, none⟩ = some (.int .i64 (q : Int)) := by
      have h2 := int_at h1.i rfl 0 hq2
      rw [hqk] at h2
      have hB15 := hB2.trans (hB25.mono hB2.size)
      exact (hB15.cell (p := ⟨gi, oi, none⟩) hgi).trans h2
    have hl0 : (0 : Int) < (kids.length : Int) := by omega
    have hl1 : (1 : Int) ≤ (kids.length : Int) := by omega
    have HQK := Lib.hid hqk
    have HQ := refNumber_gives q (by omega) w5
    have hnq := num_length q
    have hwq : IntKind.u64.wrap (q : Int) = (q : Int) := by simp [IntKind.wrap, IntKind.bits, IntKind.signed]; omega
    obtain ⟨lq, hlq⟩ : ∃ l, l = num q := ⟨_, rfl⟩
    unfold GivesB at HQ
    rw [← hlq] at HQ hnq
    have HLQ := Lib.hid hlq
    have hl2l : (2 :: l2 : List UInt8).length = l2.length + 1 := rfl
    obtain ⟨hd, hhd⟩ : ∃ l : List UInt8, 2 :: l2 = l := ⟨_, rfl⟩
    rw [hhd] at own5 hl2l
    rw [← hl2l]
    have HHD := Lib.hid hhd
    have hdl : hd.length ≤ 12 := by omega
    clear hlq hhd hqk hl2l
    go_upto_block 0 with (first
      | (go_at_call 42; refine HQ.mono ?_; rintro e w6 ⟨v6, rfl, own6, hB6⟩; obtain ⟨A6, c6, rfl, in6⟩ := ownB_inG own6; have own5' := ownG_grow own5 hB6; have hB26 := hB25.trans (hB6.mono hB25.size))
      | (at_builtin; refine wp_appG rfl elU8 (.tmp 18) (.tmp 24) rfl w2.heap.size (.slice (some ⟨g5, 0, none⟩) hd.length cap5) hd.length (hd.map b8) rfl own5' _ A6 lq.length c6 (lq.map b8) rfl in6 (by unfold maxLen; omega) (by omega) hB26.size ?_; intro v7 w7 own7 hg7; have own7 := ownB_app own7 rfl; obtain ⟨A7, c7, rfl, _⟩ := own7.inB; have hB27 := hB26.trans (grown_below hg7 hB26.size (ownG_ge own5'))))
    have HHL := Lib.hid (show (hd ++ lq).length ≤ 100 by rw [List.length_append]; omega)
    go_wp2_with fail
    have hL5 := fun W (hW : Below w2.heap.size w2 W) => hL2.grow hW
    obtain ⟨A3', c3', e3, in3⟩ := ownG_in hL2.own hL2.one
    injection e3 with e31 e32 e33
    subst e31 e33
    have hB12 := hB.trans (hB2.mono hB.size)
    clear hB4 hB3 own3 own4
    go_loopw [4, 5] (fun v i wr => ∃ (k : Nat) (acc : List UInt8) (A : Option Addr) (c : Nat), k ≤ ls.length ∧ i = .int .i64 k ∧ v = .slice A acc.length c ∧ OwnB wr w2.heap.size (.slice A acc.length c) acc ∧ Hid (acc = (hd ++ lq) ++ (ls.take k).flatten) ∧ Below w2.heap.size w2 wr) (fun _ i _ => ls.length - (intOf i).toNat)
    case atStart => exact ⟨0, hd ++ lq, A7, c7, by omega, rfl, by simp, own7, Lib.hid (by simp), hB27⟩
    case round =>
      obtain ⟨k, acc, A, c, hk, rfl, rfl, own, HA, hBr⟩ := hrel
      have hacc : acc.length ≤ 1000100 := by rw [HA.out, List.length_append]; have h1 := HSM.out k; have h2 := HFL.out; unfold sumTo at h1; have h3 := HHL.out; omega
      by_cases hlt : k < ls.length
      · obtain ⟨Aj, cj, ej, hown⟩ := (hL5 wr hBr).at_ k hlt
        obtain ⟨Aj', cj', e4, inj⟩ := ownB_inG hown
        injection e4 with e41 e42 e43
        subst e41 e43
        obtain ⟨g, o, rfl, hg, hr⟩ := in3.lies (by omega)
        have d0 : wr.cell? ⟨g, o + k, none⟩ = some (.slice Aj ls[k].length cj) := (hBr.cell (p := ⟨g, o + k, none⟩) hg).trans (hr k _ ej)
        have hjl : ls[k].length ≤ 1000000 := by have h1 := HNX.out k hlt; have h2 := HSM.out (k + 1); have h3 := HFL.out; omega
        have HA2 : Hid (acc ++ ls[k] = (hd ++ lq) ++ (ls.take (k + 1)).flatten) := Lib.hid (by rw [HFT.out k hlt, HA.out, List.append_assoc])
        generalize ls[k] = lj at *
        have hwk : IntKind.i64.wrap ((k : Int) + 1) = (k : Int) + 1 := wrapN _ (by omega) (by omega)
        have i1 : (0 : Int) ≤ (k : Int) := by omega
        have i2 : (k : Int) < (ls.length : Int) := by omega
        have hbs := hBr.size
        clear ej hr HA
        go_wp2_with (at_builtin; refine wp_appG rfl elU8 (.tmp 32) (.tmp 36) rfl w2.heap.size (.slice A acc.length c) acc.length (acc.map b8) rfl own _ Aj lj.length cj (lj.map b8) rfl inj (by unfold maxLen; omega) (by omega) hbs ?_; intro v9 w9 own9 hg9)
        have own9 := ownB_app own9 rfl
        obtain ⟨A9, c9, rfl, _⟩ := own9.inB
        exact ⟨⟨k + 1, acc ++ lj, A9, c9, by omega, by simp, by simp, own9, HA2, hBr.trans (grown_below hg9 hbs (ownG_ge own))⟩, by simp [intOf]; omega⟩
      · obtain rfl : k = ls.length := by omega
        have HA3 : Hid (acc = (hd ++ lq) ++ ls.flatten) := Lib.hid (by rw [HA.out, HALL.out])
        go_wp2
        go_ret
        refine ⟨_, rfl, ?_, hB12.trans (hBr.mono hB12.size)⟩
        have hf := OwnB.base own hB12.size
        generalize Value.slice A acc.length c = v at *
        rw [HA3.out] at hf
        exact Eq.mp (congrArg (OwnB wr w.heap.size v) (by rw [← HHD.out, HLQ.out]; have := HQK.out; cases kids with | nil => simp at hq2 | cons a t => simp at this ⊢; subst this; simp)) hf
end Go.Proofs.Ytlelckdcmlpmdaa
/- louperef12: rises, Right. -/
namespace Go.Proofs.Ytlelckdcmlpmdaa
open Go Go.RowKit Lou

/-- Strings rise, and are short. -/
def RisesP (l : List ByteArray) : Prop := (∀ j, (h : j < l.length) → shortS l[j] = true) ∧ ∀ j, (h : j + 1 < l.length) → ltS l[j] l[j + 1] = true
theorem rises_iff {l : List ByteArray} : RisesP l ↔ SortedS l ∧ ApartS l ∧ ∀ s ∈ l, shortS s = true := by
  constructor
  · rintro ⟨h1, h2⟩
    refine ⟨fun j h => blt_asymm _ _ (h2 j h), fun j h => ?_, fun s hs => ?_⟩
    · cases e : (l[j + 1].toList == l[j].toList) with
      | false => rfl
      | true =>
        have e2 : l[j + 1].toList = l[j].toList := by simpa using e
        have h3 := h2 j h
        unfold ltS at h3
        rw [e2, blt_refl] at h3
        cases h3
    · obtain ⟨j, hj, rfl⟩ := List.getElem_of_mem hs
      exact h1 j hj
  · rintro ⟨h1, h2, h3⟩
    exact ⟨fun j hj => h3 _ (List.getElem_mem hj), fun j hj => blt_tri _ _ (h1 j hj) (h2 j hj)⟩
theorem below_drewN {B : Nat} {a w : World} (h : Below B a w) (n : Nat) : Below B a (w.drewN n) := ⟨h.os, h.tape, h.output, h.size, h.block⟩
set_option maxRecDepth 100000 in
set_option maxHeartbeats 4000000 in
theorem rises_gives (w : World) (A : Option Addr) (c : Nat) (l : List ByteArray) (h : InG w w.heap.size 1 A l.length c (skC l)) (hl : l.length ≤ 1000000) :
    Calls Try.prog 203 #[.slice A l.length c] w (YesOut w (RisesP l)) := by
  have hle := h.le
  unfold YesOut
  go_enter Try.func203, Try.ntmps203
  go_wp2
  go_loopw [3] (fun i wr => ∃ k : Nat, k ≤ l.length ∧ i = .int .i64 k ∧ Hid ((∀ j, (h : j < l.length) → j < k → shortS l[j] = true) ∧ ∀ j, (h : j + 1 < l.length) → j + 1 < k → ltS l[j] l[j + 1] = true) ∧ Below w.heap.size w wr) (fun i _ => l.length - (intOf i).toNat)
  case atStart => exact ⟨0, by omega, rfl, Lib.hid ⟨fun j _ h => by omega, fun j _ h => by omega⟩, Below.refl _ _⟩
  case round =>
    obtain ⟨k, hk, rfl, HA, hB⟩ := hrel
    by_cases hlt : k < l.length
    · obtain ⟨g, o, rfl, hg, _⟩ := h.lies (by omega)
      have d0 : wr.cell? ⟨g, o + k, none⟩ = some (.string l[k]) := (hB.cell (p := ⟨g, o + k, none⟩) hg).trans (str_at h rfl k hlt)
      have e0 : wr.drew.cell? ⟨g, o + k, none⟩ = some (.string l[k]) := d0
      have i1 : (0 : Int) ≤ (k : Int) := by omega
      have i2 : (k : Int) < (l.length : Int) := by omega
      have hwk : IntKind.i64.wrap ((k : Int) + 1) = (k : Int) + 1 := wrapN _ (by omega) (by omega)
      by_cases hs : l[k].size ≤ 81
      · have hs' : ¬ (81 : Int) < (l[k].size : Int) := by omega
        rcases Nat.eq_zero_or_pos k with h0 | h0
        · have HN : Hid ((∀ j, (h : j < l.length) → j < k + 1 → shortS l[j] = true) ∧ ∀ j, (h : j + 1 < l.length) → j + 1 < k + 1 → ltS l[j] l[j + 1] = true) := Lib.hid ⟨fun j hj h1 => by obtain rfl : j = k := (by omega); unfold shortS; simpa using hs, fun j hj h1 => by omega⟩
          generalize l[k] = s at *
          subst h0
          have HS81 := Lib.hid hs
          have hsd : decide ((81 : Int) < (s.size : Int)) = false := decide_eq_false hs'
          have d0' : wr.cell? ⟨g, o, none⟩ = some (.string s) := by simpa using d0
          have e0' : wr.drew.cell? ⟨g, o, none⟩ = some (.string s) := d0'
          clear i1 hs hs' hwk d0 e0
          go_wp2
          go_quiet (fail)
          go_wp2
          exact ⟨⟨1, by omega, by simp, HN, (below_drewN hB _)⟩, by simp [intOf]; omega⟩
        · obtain ⟨k0, hk0⟩ : ∃ k0, k = k0 + 1 := ⟨k - 1, by omega⟩
          have d1 : wr.cell? ⟨g, o + k0, none⟩ = some (.string l[k0]) := (hB.cell (p := ⟨g, o + k0, none⟩) hg).trans (str_at h rfl k0 (by omega))
          have e1 : wr.drew.cell? ⟨g, o + k0, none⟩ = some (.string l[k0]) := d1
          have hwk0 : IntKind.i64.wrap ((k : Int) - 1) = (k0 : Int) := by rw [wrapN _ (by omega) (by omega)]; omega
          have i3 : (0 : Int) ≤ (k0 : Int) := by omega
          have i4 : (k0 : Int) < (l.length : Int) := by omega
          have i5 : (0 : Int) < (k : Int) := by omega
          have hkk : l[k] = l[k0 + 1]'(by omega) := by simp only [hk0]
          cases hb : ltS l[k0] l[k] with
          | true =>
            have HN : Hid ((∀ j, (h : j < l.length) → j < k + 1 → shortS l[j] = true) ∧ ∀ j, (h : j + 1 < l.length) → j + 1 < k + 1 → ltS l[j] l[j + 1] = true) := Lib.hid ⟨fun j hj h1 => by
              by_cases e : j = k
              · subst e; unfold shortS; simpa using hs
              · exact HA.out.1 j hj (by omega), fun j hj h1 => by
              by_cases e : j = k0
              · subst e; rw [← hkk]; exact hb
              · exact HA.out.2 j hj (by omega)⟩
            have hb' : Op.bytesLess l[k0].toList l[k].toList = true := hb
            generalize l[k0] = s0 at *
            generalize l[k] = s at *
            have HK0 := Lib.hid hk0
            clear hb hkk hk0
            go_wp2
            go_quiet (fail)
            go_wp2
            exact ⟨⟨k + 1, by omega, by simp, HN, (below_drewN hB _)⟩, by simp [intOf]; omega⟩
          | false =>
            have HN : Hid (¬ RisesP l) := Lib.hid (fun hR => by
              have := hR.2 k0 (by omega)
              rw [← hkk, hb] at this
              cases this)
            have hb' : Op.bytesLess l[k0].toList l[k].toList = false := hb
            generalize l[k0] = s0 at *
            generalize l[k] = s at *
            have HK0 := Lib.hid hk0
            clear hb hkk hk0
            go_wp2
            go_quiet (fail)
            go_wp2
            go_ret
            exact ⟨false, rfl, (below_drewN hB _), (fun e => by cases e), fun h => absurd h HN.out⟩
      · have hs' : (81 : Int) < (l[k].size : Int) := by omega
        have HN : Hid (¬ RisesP l) := Lib.hid (fun hR => by
          have := hR.1 k hlt
          unfold shortS at this
          exact hs (by simpa using this))
        generalize l[k] = s at *
        go_wp2
        go_quiet (fail)
        go_wp2
        go_ret
        exact ⟨false, rfl, (below_drewN hB _), (fun e => by cases e), fun h => absurd h HN.out⟩
    · obtain rfl : k = l.length := by omega
      go_wp2
      go_ret
      exact ⟨true, rfl, hB, fun _ => ⟨fun j hj => HA.out.1 j hj hj, fun j hj => HA.out.2 j hj hj⟩, fun _ => rfl⟩
end Go.Proofs.Ytlelckdcmlpmdaa
/- louperef12: Right. -/
namespace Go.Proofs.Ytlelckdcmlpmdaa
open Go Go.RowKit Lou

theorem int_atN {w : World} {B g o n c : Nat} {ks : List Int} (h : InG w B 1 (some ⟨g, o, none⟩) n c (ikC ks)) (hn : n = ks.length) (j : Nat) (hj : j < ks.length) : w.cell? ⟨g, o + j, none⟩ = some (.int .i64 ks[j]) := int_at h hn j hj
set_option maxRecDepth 100000 in
set_option maxHeartbeats 4000000 in
theorem right_norise (w : World) (x : Nod) (Ac : Option Addr) (cc : Nat) (Ak : Option Addr) (ck : Nat) (Ai : Option Addr) (ci : Nat) (h : NIs w w.heap.size x Ac cc Ak ck Ai ci) (hl : x.cells.length ≤ 1000000) (hl2 : x.keys.length ≤ 1000000) (hl3 : x.kids.length ≤ 1000000) (hno : ¬ RisesP (nkeys x)) :
    Calls Try.prog 178 #[.agg (nodC x Ac cc Ak ck Ai ci)] w (YesOut w (RightP x)) := by
  have b0 := BlkIs.new w 76 (nodC x Ac cc Ak ck Ai ci)
  have hB : Below w.heap.size w (w.alloc (.cells (nodC x Ac cc Ak ck Ai ci) 76)) := (Below.refl _ w).alloc (Nat.le_refl _) _
  have h1 := h.grow hB
  have HK := refKeys_gives _ x Ac cc Ak ck Ai ci h1 hl
  have hln := nkeys_len hl hl2
  have hri : RightP x → RisesP (nkeys x) := fun hR => rises_iff.2 ⟨hR.sorted, hR.apart, hR.short⟩
  have hir : RisesP (nkeys x) → _ := fun hR => rises_iff.1 hR
  unfold StrsOut at HK
  have HNO : Hid (¬ RightP x) := Lib.hid (fun hR => hno (hri hR))
  generalize RightP x = PR at *
  generalize nkeys x = ks at *
  have HRP := Lib.hid hno
  obtain ⟨leaf, cells, keys, kids⟩ := x
  unfold nodC at *
  simp only at *
  clear hno hri hir h
  go_enter Try.func178, Try.ntmps178
  go_upto_if 9 with (first
    | (refine wp_loadW rfl 76 (.tmp 1) rfl w.heap.size rfl rowNod b0 (by rfl) ?_)
    | (go_at_call 50; refine HK.mono ?_; rintro e w2 ⟨A2, c2, rfl, in2, hB2⟩)
    | (go_at_call 203; have HRi := rises_gives w2 A2 c2 _ in2 hln; unfold YesOut at HRi; refine HRi.mono ?_; rintro e w3 ⟨r3, rfl, hB3, hr3⟩; obtain rfl : r3 = false := (by cases r3 with | false => rfl | true => exact absurd (hr3.1 rfl) HRP.out); clear hr3 HRi; have hB03 := hB.trans ((hB2.trans (hB3.mono hB2.size)).mono hB.size); have b3 := (b0.below hB2 b0.lt).below hB3 (Nat.lt_of_lt_of_le b0.lt hB2.size); have k0 : w3.cell? ⟨w.heap.size, 0, none⟩ = some (.bool leaf) := (by rw [b3.cell]; rfl); have k1 : w3.cell? ⟨w.heap.size, 1, none⟩ = some (.slice Ac cells.length cc) := (by rw [b3.cell]; rfl); have k2 : w3.cell? ⟨w.heap.size, 2, none⟩ = some (.slice Ak keys.length ck) := (by rw [b3.cell]; rfl); have k3 : w3.cell? ⟨w.heap.size, 3, none⟩ = some (.slice Ai kids.length ci) := (by rw [b3.cell]; rfl)))
  go_wp2
  go_ret
  exact ⟨false, rfl, hB03, (fun e => by cases e), fun h => absurd h HNO.out⟩
set_option maxRecDepth 100000 in
set_option maxHeartbeats 4000000 in
theorem right_i1 (w : World) (x : Nod) (Ac : Option Addr) (cc : Nat) (Ak : Option Addr) (ck : Nat) (Ai : Option Addr) (ci : Nat) (h : NIs w w.heap.size x Ac cc Ak ck Ai ci) (hl : x.cells.length ≤ 1000000) (hl2 : x.keys.length ≤ 1000000) (hl3 : x.kids.length ≤ 1000000) (hri0 : RisesP (nkeys x)) (hlf : x.leaf = false) (hno : 0 < x.cells.length) :
    Calls Try.prog 178 #[.agg (nodC x Ac cc Ak ck Ai ci)] w (YesOut w (RightP x)) := by
  have b0 := BlkIs.new w 76 (nodC x Ac cc Ak ck Ai ci)
  have hB : Below w.heap.size w (w.alloc (.cells (nodC x Ac cc Ak ck Ai ci) 76)) := (Below.refl _ w).alloc (Nat.le_refl _) _
  have h1 := h.grow hB
  have HK := refKeys_gives _ x Ac cc Ak ck Ai ci h1 hl
  have hln := nkeys_len hl hl2
  have hri : RightP x → RisesP (nkeys x) := fun hR => rises_iff.2 ⟨hR.sorted, hR.apart, hR.short⟩
  have hir : RisesP (nkeys x) → _ := fun hR => rises_iff.1 hR
  unfold StrsOut at HK
  have HNO : Hid (¬ RightP x) := Lib.hid (fun hR => by have := (hR.inner hlf).1; rw [this] at hno; cases hno)
  generalize RightP x = PR at *
  generalize nkeys x = ks at *
  have HRP := Lib.hid hri0
  obtain ⟨leaf, cells, keys, kids⟩ := x
  unfold nodC at *
  simp only at *
  subst hlf
  have HNN := hno
  clear hno
  clear hri0 hri hir h
  go_enter Try.func178, Try.ntmps178
  go_upto_if 9 with (first
    | (refine wp_loadW rfl 76 (.tmp 1) rfl w.heap.size rfl rowNod b0 (by rfl) ?_)
    | (go_at_call 50; refine HK.mono ?_; rintro e w2 ⟨A2, c2, rfl, in2, hB2⟩)
    | (go_at_call 203; have HRi := rises_gives w2 A2 c2 _ in2 hln; unfold YesOut at HRi; refine HRi.mono ?_; rintro e w3 ⟨r3, rfl, hB3, hr3⟩; obtain rfl : r3 = true := hr3.2 HRP.out; clear hr3 HRi; have hB03 := hB.trans ((hB2.trans (hB3.mono hB2.size)).mono hB.size); have b3 := (b0.below hB2 b0.lt).below hB3 (Nat.lt_of_lt_of_le b0.lt hB2.size); have k0 : w3.cell? ⟨w.heap.size, 0, none⟩ = some (.bool false) := (by rw [b3.cell]; rfl); have k1 : w3.cell? ⟨w.heap.size, 1, none⟩ = some (.slice Ac cells.length cc) := (by rw [b3.cell]; rfl); have k2 : w3.cell? ⟨w.heap.size, 2, none⟩ = some (.slice Ak keys.length ck) := (by rw [b3.cell]; rfl); have k3 : w3.cell? ⟨w.heap.size, 3, none⟩ = some (.slice Ai kids.length ci) := (by rw [b3.cell]; rfl)))
  go_wp2
  go_ret
  exact ⟨false, rfl, hB03, (fun e => by cases e), fun h => absurd h HNO.out⟩
set_option maxRecDepth 100000 in
set_option maxHeartbeats 4000000 in
theorem right_i2 (w : World) (x : Nod) (Ac : Option Addr) (cc : Nat) (Ak : Option Addr) (ck : Nat) (Ai : Option Addr) (ci : Nat) (h : NIs w w.heap.size x Ac cc Ak ck Ai ci) (hl : x.cells.length ≤ 1000000) (hl2 : x.keys.length ≤ 1000000) (hl3 : x.kids.length ≤ 1000000) (hri0 : RisesP (nkeys x)) (hlf : x.leaf = false) (hc0 : x.cells.length = 0) (hno : x.keys.length = 0) :
    Calls Try.prog 178 #[.agg (nodC x Ac cc Ak ck Ai ci)] w (YesOut w (RightP x)) := by
  have b0 := BlkIs.new w 76 (nodC x Ac cc Ak ck Ai ci)
  have hB : Below w.heap.size w (w.alloc (.cells (nodC x Ac cc Ak ck Ai ci) 76)) := (Below.refl _ w).alloc (Nat.le_refl _) _
  have h1 := h.grow hB
  have HK := refKeys_gives _ x Ac cc Ak ck Ai ci h1 hl
  have hln := nkeys_len hl hl2
  have hri : RightP x → RisesP (nkeys x) := fun hR => rises_iff.2 ⟨hR.sorted, hR.apart, hR.short⟩
  have hir : RisesP (nkeys x) → _ := fun hR => rises_iff.1 hR
  unfold StrsOut at HK
  have HNO : Hid (¬ RightP x) := Lib.hid (fun hR => by have := (hR.inner hlf).2.1; omega)
  generalize RightP x = PR at *
  generalize nkeys x = ks at *
  have HRP := Lib.hid hri0
  obtain ⟨leaf, cells, keys, kids⟩ := x
  unfold nodC at *
  simp only at *
  subst hlf
  obtain rfl := List.eq_nil_of_length_eq_zero hc0
  obtain rfl := List.eq_nil_of_length_eq_zero hno
  simp only [List.length_nil] at *
  clear hri0 hri hir h
  go_enter Try.func178, Try.ntmps178
  go_upto_if 9 with (first
    | (refine wp_loadW rfl 76 (.tmp 1) rfl w.heap.size rfl rowNod b0 (by rfl) ?_)
    | (go_at_call 50; refine HK.mono ?_; rintro e w2 ⟨A2, c2, rfl, in2, hB2⟩)
    | (go_at_call 203; have HRi := rises_gives w2 A2 c2 _ in2 hln; unfold YesOut at HRi; refine HRi.mono ?_; rintro e w3 ⟨r3, rfl, hB3, hr3⟩; obtain rfl : r3 = true := hr3.2 HRP.out; clear hr3 HRi; have hB03 := hB.trans ((hB2.trans (hB3.mono hB2.size)).mono hB.size); have b3 := (b0.below hB2 b0.lt).below hB3 (Nat.lt_of_lt_of_le b0.lt hB2.size); have k0 : w3.cell? ⟨w.heap.size, 0, none⟩ = some (.bool false) := (by rw [b3.cell]; rfl); have k1 : w3.cell? ⟨w.heap.size, 1, none⟩ = some (.slice Ac 0 cc) := (by rw [b3.cell]; rfl); have k2 : w3.cell? ⟨w.heap.size, 2, none⟩ = some (.slice Ak 0 ck) := (by rw [b3.cell]; rfl); have k3 : w3.cell? ⟨w.heap.size, 3, none⟩ = some (.slice Ai kids.length ci) := (by rw [b3.cell]; rfl)))
  go_wp2
  go_ret
  exact ⟨false, rfl, hB03, (fun e => by cases e), fun h => absurd h HNO.out⟩
set_option maxRecDepth 100000 in
set_option maxHeartbeats 4000000 in
theorem right_i3 (w : World) (x : Nod) (Ac : Option Addr) (cc : Nat) (Ak : Option Addr) (ck : Nat) (Ai : Option Addr) (ci : Nat) (h : NIs w w.heap.size x Ac cc Ak ck Ai ci) (hl : x.cells.length ≤ 1000000) (hl2 : x.keys.length ≤ 1000000) (hl3 : x.kids.length ≤ 1000000) (hri0 : RisesP (nkeys x)) (hlf : x.leaf = false) (hc0 : x.cells.length = 0) (hk0 : ¬ x.keys.length = 0) (hno : ¬ x.kids.length = x.keys.length + 1) :
    Calls Try.prog 178 #[.agg (nodC x Ac cc Ak ck Ai ci)] w (YesOut w (RightP x)) := by
  have b0 := BlkIs.new w 76 (nodC x Ac cc Ak ck Ai ci)
  have hB : Below w.heap.size w (w.alloc (.cells (nodC x Ac cc Ak ck Ai ci) 76)) := (Below.refl _ w).alloc (Nat.le_refl _) _
  have h1 := h.grow hB
  have HK := refKeys_gives _ x Ac cc Ak ck Ai ci h1 hl
  have hln := nkeys_len hl hl2
  have hri : RightP x → RisesP (nkeys x) := fun hR => rises_iff.2 ⟨hR.sorted, hR.apart, hR.short⟩
  have hir : RisesP (nkeys x) → _ := fun hR => rises_iff.1 hR
  unfold StrsOut at HK
  have HNO : Hid (¬ RightP x) := Lib.hid (fun hR => hno (hR.inner hlf).2.2.1)
  generalize RightP x = PR at *
  generalize nkeys x = ks at *
  have HRP := Lib.hid hri0
  obtain ⟨leaf, cells, keys, kids⟩ := x
  unfold nodC at *
  simp only at *
  subst hlf
  obtain rfl := List.eq_nil_of_length_eq_zero hc0
  simp only [List.length_nil] at *
  have f2b : ((keys.length : Int) == 0) = false := by simpa using hk0
  have f4 : IntKind.i64.wrap ((keys.length : Int) + 1) = (keys.length : Int) + 1 := wrapN _ (by omega) (by omega)
  have f3 : ¬ (kids.length : Int) = (keys.length : Int) + 1 := by omega
  have f3b : ((kids.length : Int) != (keys.length : Int) + 1) = true := by simpa using f3
  clear hno hk0 f3
  clear hri0 hri hir h
  go_enter Try.func178, Try.ntmps178
  go_upto_if 9 with (first
    | (refine wp_loadW rfl 76 (.tmp 1) rfl w.heap.size rfl rowNod b0 (by rfl) ?_)
    | (go_at_call 50; refine HK.mono ?_; rintro e w2 ⟨A2, c2, rfl, in2, hB2⟩)
    | (go_at_call 203; have HRi := rises_gives w2 A2 c2 _ in2 hln; unfold YesOut at HRi; refine HRi.mono ?_; rintro e w3 ⟨r3, rfl, hB3, hr3⟩; obtain rfl : r3 = true := hr3.2 HRP.out; clear hr3 HRi; have hB03 := hB.trans ((hB2.trans (hB3.mono hB2.size)).mono hB.size); have b3 := (b0.below hB2 b0.lt).below hB3 (Nat.lt_of_lt_of_le b0.lt hB2.size); have k0 : w3.cell? ⟨w.heap.size, 0, none⟩ = some (.bool false) := (by rw [b3.cell]; rfl); have k1 : w3.cell? ⟨w.heap.size, 1, none⟩ = some (.slice Ac 0 cc) := (by rw [b3.cell]; rfl); have k2 : w3.cell? ⟨w.heap.size, 2, none⟩ = some (.slice Ak keys.length ck) := (by rw [b3.cell]; rfl); have k3 : w3.cell? ⟨w.heap.size, 3, none⟩ = some (.slice Ai kids.length ci) := (by rw [b3.cell]; rfl)))
  go_wp2
  go_ret
  exact ⟨false, rfl, hB03, (fun e => by cases e), fun h => absurd h HNO.out⟩
set_option maxRecDepth 100000 in
set_option maxHeartbeats 4000000 in
theorem right_l1 (w : World) (x : Nod) (Ac : Option Addr) (cc : Nat) (Ak : Option Addr) (ck : Nat) (Ai : Option Addr) (ci : Nat) (h : NIs w w.heap.size x Ac cc Ak ck Ai ci) (hl : x.cells.length ≤ 1000000) (hl2 : x.keys.length ≤ 1000000) (hl3 : x.kids.length ≤ 1000000) (hri0 : RisesP (nkeys x)) (hlf : x.leaf = true) (hno : 0 < x.keys.length) :
    Calls Try.prog 178 #[.agg (nodC x Ac cc Ak ck Ai ci)] w (YesOut w (RightP x)) := by
  have b0 := BlkIs.new w 76 (nodC x Ac cc Ak ck Ai ci)
  have hB : Below w.heap.size w (w.alloc (.cells (nodC x Ac cc Ak ck Ai ci) 76)) := (Below.refl _ w).alloc (Nat.le_refl _) _
  have h1 := h.grow hB
  have HK := refKeys_gives _ x Ac cc Ak ck Ai ci h1 hl
  have hln := nkeys_len hl hl2
  have hri : RightP x → RisesP (nkeys x) := fun hR => rises_iff.2 ⟨hR.sorted, hR.apart, hR.short⟩
  have hir : RisesP (nkeys x) → _ := fun hR => rises_iff.1 hR
  unfold StrsOut at HK
  have HNO : Hid (¬ RightP x) := Lib.hid (fun hR => by have := (hR.leaf hlf).1; rw [this] at hno; cases hno)
  generalize RightP x = PR at *
  generalize nkeys x = ks at *
  have HRP := Lib.hid hri0
  obtain ⟨leaf, cells, keys, kids⟩ := x
  unfold nodC at *
  simp only at *
  subst hlf
  have HNN := hno
  clear hno
  clear hri0 hri hir h
  go_enter Try.func178, Try.ntmps178
  go_upto_if 9 with (first
    | (refine wp_loadW rfl 76 (.tmp 1) rfl w.heap.size rfl rowNod b0 (by rfl) ?_)
    | (go_at_call 50; refine HK.mono ?_; rintro e w2 ⟨A2, c2, rfl, in2, hB2⟩)
    | (go_at_call 203; have HRi := rises_gives w2 A2 c2 _ in2 hln; unfold YesOut at HRi; refine HRi.mono ?_; rintro e w3 ⟨r3, rfl, hB3, hr3⟩; obtain rfl : r3 = true := hr3.2 HRP.out; clear hr3 HRi; have hB03 := hB.trans ((hB2.trans (hB3.mono hB2.size)).mono hB.size); have b3 := (b0.below hB2 b0.lt).below hB3 (Nat.lt_of_lt_of_le b0.lt hB2.size); have k0 : w3.cell? ⟨w.heap.size, 0, none⟩ = some (.bool true) := (by rw [b3.cell]; rfl); have k1 : w3.cell? ⟨w.heap.size, 1, none⟩ = some (.slice Ac cells.length cc) := (by rw [b3.cell]; rfl); have k2 : w3.cell? ⟨w.heap.size, 2, none⟩ = some (.slice Ak keys.length ck) := (by rw [b3.cell]; rfl); have k3 : w3.cell? ⟨w.heap.size, 3, none⟩ = some (.slice Ai kids.length ci) := (by rw [b3.cell]; rfl)))
  go_wp2
  go_ret
  exact ⟨false, rfl, hB03, (fun e => by cases e), fun h => absurd h HNO.out⟩
set_option maxRecDepth 100000 in
set_option maxHeartbeats 4000000 in
theorem right_l2 (w : World) (x : Nod) (Ac : Option Addr) (cc : Nat) (Ak : Option Addr) (ck : Nat) (Ai : Option Addr) (ci : Nat) (h : NIs w w.heap.size x Ac cc Ak ck Ai ci) (hl : x.cells.length ≤ 1000000) (hl2 : x.keys.length ≤ 1000000) (hl3 : x.kids.length ≤ 1000000) (hri0 : RisesP (nkeys x)) (hlf : x.leaf = true) (hk0 : x.keys.length = 0) (hno : 0 < x.kids.length) :
    Calls Try.prog 178 #[.agg (nodC x Ac cc Ak ck Ai ci)] w (YesOut w (RightP x)) := by
  have b0 := BlkIs.new w 76 (nodC x Ac cc Ak ck Ai ci)
  have hB : Below w.heap.size w (w.alloc (.cells (nodC x Ac cc Ak ck Ai ci) 76)) := (Below.refl _ w).alloc (Nat.le_refl _) _
  have h1 := h.grow hB
  have HK := refKeys_gives _ x Ac cc Ak ck Ai ci h1 hl
  have hln := nkeys_len hl hl2
  have hri : RightP x → RisesP (nkeys x) := fun hR => rises_iff.2 ⟨hR.sorted, hR.apart, hR.short⟩
  have hir : RisesP (nkeys x) → _ := fun hR => rises_iff.1 hR
  unfold StrsOut at HK
  have HNO : Hid (¬ RightP x) := Lib.hid (fun hR => by have := (hR.leaf hlf).2.1; rw [this] at hno; cases hno)
  generalize RightP x = PR at *
  generalize nkeys x = ks at *
  have HRP := Lib.hid hri0
  obtain ⟨leaf, cells, keys, kids⟩ := x
  unfold nodC at *
  simp only at *
  subst hlf
  obtain rfl := List.eq_nil_of_length_eq_zero hk0
  simp only [List.length_nil] at *
  have HNN := hno
  clear hno
  clear hri0 hri hir h
  go_enter Try.func178, Try.ntmps178
  go_upto_if 9 with (first
    | (refine wp_loadW rfl 76 (.tmp 1) rfl w.heap.size rfl rowNod b0 (by rfl) ?_)
    | (go_at_call 50; refine HK.mono ?_; rintro e w2 ⟨A2, c2, rfl, in2, hB2⟩)
    | (go_at_call 203; have HRi := rises_gives w2 A2 c2 _ in2 hln; unfold YesOut at HRi; refine HRi.mono ?_; rintro e w3 ⟨r3, rfl, hB3, hr3⟩; obtain rfl : r3 = true := hr3.2 HRP.out; clear hr3 HRi; have hB03 := hB.trans ((hB2.trans (hB3.mono hB2.size)).mono hB.size); have b3 := (b0.below hB2 b0.lt).below hB3 (Nat.lt_of_lt_of_le b0.lt hB2.size); have k0 : w3.cell? ⟨w.heap.size, 0, none⟩ = some (.bool true) := (by rw [b3.cell]; rfl); have k1 : w3.cell? ⟨w.heap.size, 1, none⟩ = some (.slice Ac cells.length cc) := (by rw [b3.cell]; rfl); have k2 : w3.cell? ⟨w.heap.size, 2, none⟩ = some (.slice Ak 0 ck) := (by rw [b3.cell]; rfl); have k3 : w3.cell? ⟨w.heap.size, 3, none⟩ = some (.slice Ai kids.length ci) := (by rw [b3.cell]; rfl)))
  go_wp2
  go_ret
  exact ⟨false, rfl, hB03, (fun e => by cases e), fun h => absurd h HNO.out⟩
set_option maxRecDepth 100000 in
set_option maxHeartbeats 4000000 in
theorem right_i4 (w : World) (x : Nod) (Ac : Option Addr) (cc : Nat) (Ak : Option Addr) (ck : Nat) (Ai : Option Addr) (ci : Nat) (h : NIs w w.heap.size x Ac cc Ak ck Ai ci) (hl : x.cells.length ≤ 1000000) (hl2 : x.keys.length ≤ 1000000) (hl3 : x.kids.length ≤ 1000000) (hri0 : RisesP (nkeys x)) (hlf : x.leaf = false) (hc0 : x.cells.length = 0) (hk0 : ¬ x.keys.length = 0) (hk1 : x.kids.length = x.keys.length + 1) :
    Calls Try.prog 178 #[.agg (nodC x Ac cc Ak ck Ai ci)] w (YesOut w (RightP x)) := by
  have b0 := BlkIs.new w 76 (nodC x Ac cc Ak ck Ai ci)
  have hB : Below w.heap.size w (w.alloc (.cells (nodC x Ac cc Ak ck Ai ci) 76)) := (Below.refl _ w).alloc (Nat.le_refl _) _
  have h1 := h.grow hB
  have HK := refKeys_gives _ x Ac cc Ak ck Ai ci h1 hl
  have hln := nkeys_len hl hl2
  have hri : RightP x → RisesP (nkeys x) := fun hR => rises_iff.2 ⟨hR.sorted, hR.apart, hR.short⟩
  have hir : RisesP (nkeys x) → _ := fun hR => rises_iff.1 hR
  unfold StrsOut at HK
  have hRF : (∀ i ∈ x.kids, pageB i = true) → RightP x := fun hp => by
    obtain ⟨q1, q2, q3⟩ := hir hri0
    exact ⟨q1, q2, q3, (fun e => by rw [hlf] at e; cases e), fun _ => ⟨List.eq_nil_of_length_eq_zero hc0, by omega, hk1, hp⟩⟩
  have hRN : (¬ ∀ i ∈ x.kids, pageB i = true) → ¬ RightP x := fun hp hR => hp (hR.inner hlf).2.2.2
  generalize RightP x = PR at *
  generalize nkeys x = ks at *
  have HRP := Lib.hid hri0
  have hi := h.i
  obtain ⟨leaf, cells, keys, kids⟩ := x
  unfold nodC at *
  simp only at *
  subst hlf
  have HRF := Lib.hid hRF
  have HRN := Lib.hid hRN
  obtain rfl := List.eq_nil_of_length_eq_zero hc0
  simp only [List.length_nil] at *
  have f2b : ((keys.length : Int) == 0) = false := by simpa using hk0
  have f4 : IntKind.i64.wrap ((keys.length : Int) + 1) = (kids.length : Int) := by rw [wrapN _ (by omega) (by omega)]; omega
  clear hri0 hri hir hRF hRN hk0 hk1 h
  go_enter Try.func178, Try.ntmps178
  go_upto_if 9 with (first
    | (refine wp_loadW rfl 76 (.tmp 1) rfl w.heap.size rfl rowNod b0 (by rfl) ?_)
    | (go_at_call 50; refine HK.mono ?_; rintro e w2 ⟨A2, c2, rfl, in2, hB2⟩)
    | (go_at_call 203; have HRi := rises_gives w2 A2 c2 _ in2 hln; unfold YesOut at HRi; refine HRi.mono ?_; rintro e w3 ⟨r3, rfl, hB3, hr3⟩; obtain rfl : r3 = true := hr3.2 HRP.out; clear hr3 HRi; have hB03 := hB.trans ((hB2.trans (hB3.mono hB2.size)).mono hB.size); have b3 := (b0.below hB2 b0.lt).below hB3 (Nat.lt_of_lt_of_le b0.lt hB2.size); have k0 : w3.cell? ⟨w.heap.size, 0, none⟩ = some (.bool false) := (by rw [b3.cell]; rfl); have k1 : w3.cell? ⟨w.heap.size, 1, none⟩ = some (.slice Ac 0 cc) := (by rw [b3.cell]; rfl); have k2 : w3.cell? ⟨w.heap.size, 2, none⟩ = some (.slice Ak keys.length ck) := (by rw [b3.cell]; rfl); have k3 : w3.cell? ⟨w.heap.size, 3, none⟩ = some (.slice Ai kids.length ci) := (by rw [b3.cell]; rfl)))
  go_wp2
  go_loopw [3] (fun i wr => ∃ k : Nat, k ≤ kids.length ∧ i = .int .i64 k ∧ Hid (∀ j, (h : j < kids.length) → j < k → pageB kids[j] = true) ∧ wr = w3) (fun i _ => kids.length - (intOf i).toNat)
  case atStart => exact ⟨0, by omega, rfl, Lib.hid (fun j _ h => by omega), rfl⟩
  case round =>
    obtain ⟨k, hk, rfl, HA, rfl⟩ := hrel
    have hle := hi.le
    by_cases hlt : k < kids.length
    · obtain ⟨g, o, rfl, hg, _⟩ := hi.lies (by omega)
      have d0 : wr.cell? ⟨g, o + k, none⟩ = some (.int .i64 kids[k]) := (hB03.cell (p := ⟨g, o + k, none⟩) hg).trans (int_atN hi rfl k hlt)
      have i1 : (0 : Int) ≤ (k : Int) := by omega
      have i2 : (k : Int) < (kids.length : Int) := by omega
      have hwk : IntKind.i64.wrap ((k : Int) + 1) = (k : Int) + 1 := wrapN _ (by omega) (by omega)
      by_cases hp : pageB kids[k] = true
      · have hp2 := hp
        unfold pageB at hp2
        simp only [Bool.and_eq_true, decide_eq_true_eq] at hp2
        have j1 : ¬ kids[k] < 1 := by omega
        have j2 : ¬ 2000 < kids[k] := by omega
        have HA2 : Hid (∀ j, (h : j < kids.length) → j < k + 1 → pageB kids[j] = true) := Lib.hid (fun j hj hjk => by
          by_cases e : j = k
          · subst e; exact hp
          · exact HA.out j hj (by omega))
        generalize kids[k] = q at *
        clear hp hp2
        go_wp2
        exact ⟨⟨k + 1, by omega, by simp, HA2, by simp⟩, by simp [intOf]; omega⟩
      · have HNP : Hid (¬ PR) := Lib.hid (HRN.out fun hall => hp (hall _ (List.getElem_mem hlt)))
        have hp2 : kids[k] < 1 ∨ 2000 < kids[k] := by
          unfold pageB at hp
          simp only [Bool.and_eq_true, decide_eq_true_eq] at hp
          omega
        generalize kids[k] = q at *
        clear hp
        rcases hp2 with j1 | j1
        · go_wp2
          go_ret
          exact ⟨false, rfl, hB03, (fun e => by cases e), fun h => absurd h HNP.out⟩
        · have j2 : ¬ q < 1 := by omega
          go_wp2
          go_ret
          exact ⟨false, rfl, hB03, (fun e => by cases e), fun h => absurd h HNP.out⟩
    · obtain rfl : k = kids.length := by omega
      have HYP : Hid PR := Lib.hid (HRF.out fun i hi' => by obtain ⟨j, hj, rfl⟩ := List.getElem_of_mem hi'; exact HA.out j hj hj)
      go_wp2
      go_ret
      exact ⟨true, rfl, hB03, fun _ => HYP.out, fun _ => rfl⟩
end Go.Proofs.Ytlelckdcmlpmdaa
/- louperef12: Right, of a leaf. -/
namespace Go.Proofs.Ytlelckdcmlpmdaa
open Go Go.RowKit Lou

set_option maxRecDepth 100000 in
set_option maxHeartbeats 4000000 in
theorem right_l3 (w : World) (x : Nod) (Ac : Option Addr) (cc : Nat) (Ak : Option Addr) (ck : Nat) (Ai : Option Addr) (ci : Nat) (h : NIs w w.heap.size x Ac cc Ak ck Ai ci) (hl : x.cells.length ≤ 1000000) (hl2 : x.keys.length ≤ 1000000) (hl3 : x.kids.length ≤ 1000000) (hri0 : RisesP (nkeys x)) (hlf : x.leaf = true) (hk0 : x.keys.length = 0) (hi0 : x.kids.length = 0) :
    Calls Try.prog 178 #[.agg (nodC x Ac cc Ak ck Ai ci)] w (YesOut w (RightP x)) := by
  have b0 := BlkIs.new w 76 (nodC x Ac cc Ak ck Ai ci)
  have hB : Below w.heap.size w (w.alloc (.cells (nodC x Ac cc Ak ck Ai ci) 76)) := (Below.refl _ w).alloc (Nat.le_refl _) _
  have h1 := h.grow hB
  have HK := refKeys_gives _ x Ac cc Ak ck Ai ci h1 hl
  have hln := nkeys_len hl hl2
  have hri : RightP x → RisesP (nkeys x) := fun hR => rises_iff.2 ⟨hR.sorted, hR.apart, hR.short⟩
  have hir : RisesP (nkeys x) → _ := fun hR => rises_iff.1 hR
  unfold StrsOut at HK
  have hRF : (∀ c ∈ x.cells, rightB c = true) → RightP x := fun hp => by
    obtain ⟨q1, q2, q3⟩ := hir hri0
    exact ⟨q1, q2, q3, fun _ => ⟨List.eq_nil_of_length_eq_zero hk0, List.eq_nil_of_length_eq_zero hi0, hp⟩, (fun e => by rw [hlf] at e; cases e)⟩
  have hRN : (¬ ∀ c ∈ x.cells, rightB c = true) → ¬ RightP x := fun hp hR => hp (hR.leaf hlf).2.2
  generalize RightP x = PR at *
  generalize nkeys x = ks at *
  have HRP := Lib.hid hri0
  have hc := h.c
  obtain ⟨leaf, cells, keys, kids⟩ := x
  unfold nodC at *
  simp only at *
  subst hlf
  have HRF := Lib.hid hRF
  have HRN := Lib.hid hRN
  obtain rfl := List.eq_nil_of_length_eq_zero hk0
  obtain rfl := List.eq_nil_of_length_eq_zero hi0
  simp only [List.length_nil] at *
  clear hri0 hri hir hRF hRN h
  go_enter Try.func178, Try.ntmps178
  go_upto_if 9 with (first
    | (refine wp_loadW rfl 76 (.tmp 1) rfl w.heap.size rfl rowNod b0 (by rfl) ?_)
    | (go_at_call 50; refine HK.mono ?_; rintro e w2 ⟨A2, c2, rfl, in2, hB2⟩)
    | (go_at_call 203; have HRi := rises_gives w2 A2 c2 _ in2 hln; unfold YesOut at HRi; refine HRi.mono ?_; rintro e w3 ⟨r3, rfl, hB3, hr3⟩; obtain rfl : r3 = true := hr3.2 HRP.out; clear hr3 HRi; have hB03 := hB.trans ((hB2.trans (hB3.mono hB2.size)).mono hB.size); have b3 := (b0.below hB2 b0.lt).below hB3 (Nat.lt_of_lt_of_le b0.lt hB2.size); have k0 : w3.cell? ⟨w.heap.size, 0, none⟩ = some (.bool true) := (by rw [b3.cell]; rfl); have k1 : w3.cell? ⟨w.heap.size, 1, none⟩ = some (.slice Ac cells.length cc) := (by rw [b3.cell]; rfl); have k2 : w3.cell? ⟨w.heap.size, 2, none⟩ = some (.slice Ak 0 ck) := (by rw [b3.cell]; rfl); have k3 : w3.cell? ⟨w.heap.size, 3, none⟩ = some (.slice Ai 0 ci) := (by rw [b3.cell]; rfl)))
  go_wp2
  have hp3 := b3.lt
  go_loopw [4] (fun i wr => ∃ k : Nat, k ≤ cells.length ∧ i = .int .i64 k ∧ Hid (∀ j, (h : j < cells.length) → j < k → rightB cells[j] = true) ∧ Below w3.heap.size w3 wr) (fun i _ => cells.length - (intOf i).toNat)
  case atStart => exact ⟨0, by omega, rfl, Lib.hid (fun j _ h => by omega), Below.refl _ _⟩
  case round =>
    obtain ⟨k, hk, rfl, HA, hBr⟩ := hrel
    have hle := hc.le
    have c1 : wr.cell? ⟨w.heap.size, 1, none⟩ = some (.slice Ac cells.length cc) := (hBr.cell (p := ⟨w.heap.size, 1, none⟩) hp3).trans k1
    have hB0r := hB03.trans (hBr.mono hB03.size)
    by_cases hlt : k < cells.length
    · obtain ⟨g, o, rfl, hg, _⟩ := hc.lies (by omega)
      have hrk : wr.rangeAt g (o + k * 4) (celC cells[k]) := fun j v hj => (hB0r.cell (p := ⟨g, o + k * 4 + j, none⟩) hg).trans (cel_at hc rfl k hlt j v hj)
      have i1 : (0 : Int) ≤ (k : Int) := by omega
      have i2 : (k : Int) < (cells.length : Int) := by omega
      have hwk : IntKind.i64.wrap ((k : Int) + 1) = (k : Int) + 1 := wrapN _ (by omega) (by omega)
      have HNP : rightB cells[k] = false → Hid (¬ PR) := fun hp => Lib.hid (HRN.out fun hall => by have := hall _ (List.getElem_mem hlt); rw [hp] at this; cases this)
      have HA2 : rightB cells[k] = true → Hid (∀ j, (h : j < cells.length) → j < k + 1 → rightB cells[j] = true) := fun hp => Lib.hid (fun j hj hjk => by
        by_cases e : j = k
        · subst e; exact hp
        · exact HA.out j hj (by omega))
      generalize cells[k] = x at *
      obtain ⟨xk, xv, xp, xz⟩ := x
      have n3 := BlkIs.new wr 205 #[.string { data := #[] }, .string { data := #[] }, .int .i64 0, .int .i64 0]
      obtain ⟨W4, hW4, n4, hB34⟩ := cell_box wr (celC (⟨xk, xv, xp, xz⟩ : Cel)).toArray
      have hBr4 := hBr.trans (hB34.mono hBr.size)
      have hB04 := hB0r.trans (hB34.mono hB0r.size)
      have c41 : W4.cell? ⟨wr.heap.size, 1, none⟩ = some (.string xv) := by rw [n4.cell]; rfl
      have c42 : W4.cell? ⟨wr.heap.size, 2, none⟩ = some (.int .i64 xp) := by rw [n4.cell]; rfl
      have c43 : W4.cell? ⟨wr.heap.size, 3, none⟩ = some (.int .i64 xz) := by rw [n4.cell]; rfl
      have HW4 := Lib.hid hW4
      clear hW4
      by_cases p1 : xp < 0
      case pos =>
        have HNP2 := HNP (by unfold rightB pageB; simp only; rw [if_neg (by omega)]; simp only [Bool.and_eq_false_iff, decide_eq_false_iff_not]; exact .inl (.inl (.inl (.inl (by omega)))))
        clear HA2 HNP
        go_upto_region 18 with (first
        | (refine wp_execN rfl (x_loadM rowCel hrk rfl rfl rfl) ?_)
        | (refine wp_storeW rfl 205 (.tmp 5) (.tmp 75) rfl wr.heap.size rfl rfl rowCel n3 rfl rfl (celC_one _) ?_; rw [HW4.out]))
        go_wp2
        go_ret
        exact ⟨false, rfl, hB04, (fun e => by cases e), fun h => absurd h HNP2.out⟩
      by_cases p2 : 2000 < xp
      case pos =>
        have HNP2 := HNP (by unfold rightB pageB; simp only; rw [if_neg (by omega)]; simp only [Bool.and_eq_false_iff, decide_eq_false_iff_not]; exact .inl (.inl (.inl (.inr (by omega)))))
        clear HA2 HNP
        go_upto_region 18 with (first
        | (refine wp_execN rfl (x_loadM rowCel hrk rfl rfl rfl) ?_)
        | (refine wp_storeW rfl 205 (.tmp 5) (.tmp 75) rfl wr.heap.size rfl rfl rowCel n3 rfl rfl (celC_one _) ?_; rw [HW4.out]))
        go_wp2
        go_ret
        exact ⟨false, rfl, hB04, (fun e => by cases e), fun h => absurd h HNP2.out⟩
      by_cases p3 : xp = 0
      case pos =>
        subst p3
        by_cases p4 : (60 : Int) < (xv.size : Int)
        case pos =>
          have HNP2 := HNP (by unfold rightB; simp only [if_true]; simp only [Bool.and_eq_false_iff, decide_eq_false_iff_not]; exact .inl (by omega))
          clear HA2 HNP
          go_upto_region 18 with (first
        | (refine wp_execN rfl (x_loadM rowCel hrk rfl rfl rfl) ?_)
        | (refine wp_storeW rfl 205 (.tmp 5) (.tmp 75) rfl wr.heap.size rfl rfl rowCel n3 rfl rfl (celC_one _) ?_; rw [HW4.out]))
          go_wp2
          go_ret
          exact ⟨false, rfl, hB04, (fun e => by cases e), fun h => absurd h HNP2.out⟩
        by_cases p5 : xz = 0
        case pos =>
          subst p5
          have HA3 := HA2 (by unfold rightB; simp only [if_true]; simp only [Bool.and_eq_true, decide_eq_true_eq, beq_iff_eq]; exact ⟨by omega, trivial⟩)
          clear HA2 HNP
          go_upto_region 18 with (first
        | (refine wp_execN rfl (x_loadM rowCel hrk rfl rfl rfl) ?_)
        | (refine wp_storeW rfl 205 (.tmp 5) (.tmp 75) rfl wr.heap.size rfl rfl rowCel n3 rfl rfl (celC_one _) ?_; rw [HW4.out]))
          go_wp2
          exact ⟨⟨k + 1, by omega, by simp, HA3, hBr4⟩, by simp [intOf]; omega⟩
        case neg =>
          have HNP2 := HNP (by unfold rightB; simp only [if_true]; simp only [Bool.and_eq_false_iff, beq_eq_false_iff_ne]; exact .inr p5)
          clear HA2 HNP
          go_upto_region 18 with (first
        | (refine wp_execN rfl (x_loadM rowCel hrk rfl rfl rfl) ?_)
        | (refine wp_storeW rfl 205 (.tmp 5) (.tmp 75) rfl wr.heap.size rfl rfl rowCel n3 rfl rfl (celC_one _) ?_; rw [HW4.out]))
          go_wp2
          go_ret
          exact ⟨false, rfl, hB04, (fun e => by cases e), fun h => absurd h HNP2.out⟩
      case neg =>
        have p6 : 0 < xp := by omega
        cases p7 : xv.toList.isEmpty with
        | false =>
          have p8 : ¬ xv.toList = [] := by intro e; rw [e] at p7; cases p7
          have HNP2 := HNP (by unfold rightB; simp only; rw [if_neg p3, p7]; simp)
          clear HA2 HNP
          go_upto_region 18 with (first
        | (refine wp_execN rfl (x_loadM rowCel hrk rfl rfl rfl) ?_)
        | (refine wp_storeW rfl 205 (.tmp 5) (.tmp 75) rfl wr.heap.size rfl rfl rowCel n3 rfl rfl (celC_one _) ?_; rw [HW4.out]))
          go_wp2
          go_ret
          exact ⟨false, rfl, hB04, (fun e => by cases e), fun h => absurd h HNP2.out⟩
        | true =>
          have p8 : xv.toList = [] := List.isEmpty_iff.1 p7
          by_cases p9 : xz < 61
          case pos =>
            have HNP2 := HNP (by unfold rightB; simp only; rw [if_neg p3]; simp only [Bool.and_eq_false_iff, decide_eq_false_iff_not]; exact .inl (.inr (by omega)))
            clear HA2 HNP
            go_upto_region 18 with (first
        | (refine wp_execN rfl (x_loadM rowCel hrk rfl rfl rfl) ?_)
        | (refine wp_storeW rfl 205 (.tmp 5) (.tmp 75) rfl wr.heap.size rfl rfl rowCel n3 rfl rfl (celC_one _) ?_; rw [HW4.out]))
            go_wp2
            go_ret
            exact ⟨false, rfl, hB04, (fun e => by cases e), fun h => absurd h HNP2.out⟩
          by_cases p10 : 4000 < xz
          case pos =>
            have HNP2 := HNP (by unfold rightB; simp only; rw [if_neg p3]; simp only [Bool.and_eq_false_iff, decide_eq_false_iff_not]; exact .inr (by omega))
            clear HA2 HNP
            go_upto_region 18 with (first
        | (refine wp_execN rfl (x_loadM rowCel hrk rfl rfl rfl) ?_)
        | (refine wp_storeW rfl 205 (.tmp 5) (.tmp 75) rfl wr.heap.size rfl rfl rowCel n3 rfl rfl (celC_one _) ?_; rw [HW4.out]))
            go_wp2
            go_ret
            exact ⟨false, rfl, hB04, (fun e => by cases e), fun h => absurd h HNP2.out⟩
          case neg =>
            have HA3 := HA2 (by unfold rightB pageB; simp only; rw [if_neg p3, p7]; simp only [Bool.and_eq_true, decide_eq_true_eq]; refine ⟨⟨⟨⟨by omega, by omega⟩, trivial⟩, by omega⟩, by omega⟩)
            clear HA2 HNP
            go_upto_region 18 with (first
        | (refine wp_execN rfl (x_loadM rowCel hrk rfl rfl rfl) ?_)
        | (refine wp_storeW rfl 205 (.tmp 5) (.tmp 75) rfl wr.heap.size rfl rfl rowCel n3 rfl rfl (celC_one _) ?_; rw [HW4.out]))
            go_wp2
            exact ⟨⟨k + 1, by omega, by simp, HA3, hBr4⟩, by simp [intOf]; omega⟩
    · obtain rfl : k = cells.length := by omega
      have HYP : Hid PR := Lib.hid (HRF.out fun i hi' => by obtain ⟨j, hj, rfl⟩ := List.getElem_of_mem hi'; exact HA.out j hj hj)
      go_wp2
      go_ret
      exact ⟨true, rfl, hB0r, fun _ => HYP.out, fun _ => rfl⟩
/-- louperef12.Right, of whatever node. -/
theorem right12_gives (w : World) (x : Nod) (Ac : Option Addr) (cc : Nat) (Ak : Option Addr) (ck : Nat) (Ai : Option Addr) (ci : Nat) (h : NIs w w.heap.size x Ac cc Ak ck Ai ci) (hl : x.cells.length ≤ 1000000) (hl2 : x.keys.length ≤ 1000000) (hl3 : x.kids.length ≤ 1000000) : Calls Try.prog 178 #[.agg (nodC x Ac cc Ak ck Ai ci)] w (YesOut w (RightP x)) := by
  by_cases hr : RisesP (nkeys x)
  case neg => exact right_norise w x Ac cc Ak ck Ai ci h hl hl2 hl3 hr
  cases hlf : x.leaf with
  | true =>
    by_cases h1 : 0 < x.keys.length
    · exact right_l1 w x Ac cc Ak ck Ai ci h hl hl2 hl3 hr hlf h1
    · by_cases h2 : 0 < x.kids.length
      · exact right_l2 w x Ac cc Ak ck Ai ci h hl hl2 hl3 hr hlf (by omega) h2
      · exact right_l3 w x Ac cc Ak ck Ai ci h hl hl2 hl3 hr hlf (by omega) (by omega)
  | false =>
    by_cases h1 : 0 < x.cells.length
    · exact right_i1 w x Ac cc Ak ck Ai ci h hl hl2 hl3 hr hlf h1
    · by_cases h2 : x.keys.length = 0
      · exact right_i2 w x Ac cc Ak ck Ai ci h hl hl2 hl3 hr hlf (by omega) h2
      · by_cases h3 : x.kids.length = x.keys.length + 1
        · exact right_i4 w x Ac cc Ak ck Ai ci h hl hl2 hl3 hr hlf (by omega) h2 h3
        · exact right_i3 w x Ac cc Ak ck Ai ci h hl hl2 hl3 hr hlf (by omega) h2 h3
end Go.Proofs.Ytlelckdcmlpmdaa
/- node.laid, of a node that may not be: it gives up. -/
namespace Go.Proofs.Ytlelckdcmlpmdaa
open Go Go.RowKit Lou

set_option maxRecDepth 100000 in
set_option maxHeartbeats 2000000 in
theorem laid_no (w : World) (x : Nod) (Ac : Option Addr) (cc : Nat) (Ak : Option Addr) (ck : Nat) (Ai : Option Addr) (ci : Nat) (h : NIs w w.heap.size x Ac cc Ak ck Ai ci) (hl : x.cells.length ≤ 1000000) (hl2 : x.keys.length ≤ 1000000) (hl3 : x.kids.length ≤ 1000000) (hno : ¬ RightP x) :
    Calls Try.prog 116 #[.agg (nodC x Ac cc Ak ck Ai ci)] w (GaveOut w 2) := by
  have b0 := BlkIs.new w 76 (nodC x Ac cc Ak ck Ai ci)
  have hB : Below w.heap.size w (w.alloc (.cells (nodC x Ac cc Ak ck Ai ci) 76)) := (Below.refl _ w).alloc (Nat.le_refl _) _
  have HC := check_no _ x Ac cc Ak ck Ai ci (h.grow hB) hl hl2 hl3 hno
  unfold GaveOut at *
  unfold nodC at *
  go_enter Try.func116, Try.ntmps116
  go_wp2_with (first
    | (refine wp_loadW rfl 76 (.tmp 1) rfl w.heap.size rfl rowNod b0 (by rfl) ?_)
    | (go_at_call 169; refine HC.mono ?_; rintro e w2 ⟨rfl, hB2⟩))
  exact ⟨rfl, rfl, hB.trans (hB2.mono hB.size)⟩
end Go.Proofs.Ytlelckdcmlpmdaa
/- node's reader: node, whatever bytes; Encode where it gives up; slices.Equal of bytes. -/
namespace Go.Proofs.Ytlelckdcmlpmdaa
open Go Go.RowKit Lou
attribute [local go_sem] as_errno

set_option maxRecDepth 100000 in
set_option maxHeartbeats 2000000 in
theorem rnode_gives (w : World) (q B : Nat) (l : List UInt8) (h : RdIs w q B l) (hq : B ≤ q) : Calls Try.prog 128 #[.pointer (some ⟨q, 0, none⟩)] w (RNodOut (rdNod l) q w) := by
  cases e1 : rdN12 l with
  | none =>
    have HP := rnod_no (r := rdNod l) (by unfold rdNod; rw [e1]) q w
    generalize RNodOut (rdNod l) q w = PO at *
    have n1 := NS.start h hq
    have H1 := rnum_gives _ q B l n1.r hq
    unfold RdOut at H1
    rw [e1] at H1
    simp only at H1
    clear e1 h
    go_enter Try.func128, Try.ntmps128
    go_wp2_with fail
    refine H1.mono ?_
    rintro e w2 ⟨hg2, rfl⟩
    exact ⟨rfl, HP _ (n1.g.call (Nat.le_of_lt n1.b.lt) hg2).grown⟩
  | some y =>
    obtain ⟨f, r⟩ := y
    by_cases hf1 : f = 1
    · subst hf1
      have e : rdNod l = rdRest true r := by unfold rdNod; rw [e1]; rfl
      rw [e]
      exact rnode_leaf w q B l r h hq e1
    · by_cases hf2 : f = 2
      · subst hf2
        have e : rdNod l = rdRest false r := by unfold rdNod; rw [e1]; rfl
        rw [e]
        exact rnode_inner w q B l r h hq e1
      · have HP := rnod_no (r := rdNod l) (by unfold rdNod; rw [e1]; simp only; rw [if_neg hf1, if_neg hf2]) q w
        generalize RNodOut (rdNod l) q w = PO at *
        have n1 := NS.start h hq
        have H1 := rnum_gives _ q B l n1.r hq
        unfold RdOut at H1
        rw [e1] at H1
        simp only at H1
        have hf1' : ¬ (f : Int) = 1 := by omega
        have hf2' : ¬ (f : Int) = 2 := by omega
        clear e1 h hf1 hf2
        go_enter Try.func128, Try.ntmps128
        go_wp2_with fail
        refine H1.mono ?_
        rintro e w2 ⟨hg2, rfl, h2⟩
        go_wp2_with (go_at_call 115; refine (must_gives _ _ _).mono ?_; rintro e w7 ⟨rfl, h7⟩; obtain rfl := h7.2 (by simp [hf1', hf2']))
        exact ⟨rfl, HP _ (n1.g.call (Nat.le_of_lt n1.b.lt) hg2).grown⟩
/-- The world in which Encode has its boxes. -/
def encW (w : World) (cs : Array Value) : World := ((w.alloc (.cells cs 76)).alloc (.cells #[.slice none 0 0] 30)).alloc (.cells #[.int .i64 0] 27)
theorem encW_is (w : World) (cs : Array Value) : BlkIs (encW w cs) w.heap.size 76 cs ∧ BlkIs (encW w cs) (w.heap.size + 1) 30 #[.slice none 0 0] ∧ BlkIs (encW w cs) (w.heap.size + 1 + 1) 27 #[.int .i64 0] ∧ Below w.heap.size w (encW w cs) := by
  have b0 := BlkIs.new w 76 cs
  have b2 := BlkIs.new (w.alloc (.cells cs 76)) 30 #[.slice none 0 0]
  have b3 := BlkIs.new ((w.alloc (.cells cs 76)).alloc (.cells #[.slice none 0 0] 30)) 27 #[.int .i64 0]
  rw [World.size_alloc] at b2
  rw [World.size_alloc, World.size_alloc] at b3
  exact ⟨(b0.alloc _).alloc _, b2.alloc _, b3, (((Below.refl _ w).alloc (Nat.le_refl _) _).alloc (by simp) _).alloc (by simp; omega) _⟩
def EncNo (w : World) (e0 : Int) (e : Ending) (w' : World) : Prop := e = .returned (.tuple #[.slice none 0 0, .int .i64 e0]) ∧ Below w.heap.size w w'
set_option maxRecDepth 100000 in
set_option maxHeartbeats 2000000 in
theorem encode_bad (w : World) (x : Nod) (Ac : Option Addr) (cc : Nat) (Ak : Option Addr) (ck : Nat) (Ai : Option Addr) (ci : Nat) (e0 : Int) (HL : ∀ W, Below w.heap.size w W → Calls Try.prog 116 #[.agg (nodC x Ac cc Ak ck Ai ci)] W (GaveOut W e0)) :
    Calls Try.prog 109 #[.agg (nodC x Ac cc Ak ck Ai ci)] w (EncNo w e0) := by
  unfold GaveOut at HL
  have hmf : ∀ (fn : Fn) (first cap : Array Value) (w : World), (Instr.makeFunc fn first cap).run Try.prog w = .ok (.func fn first cap) w := fun _ _ _ _ => rfl
  obtain ⟨b1, b2, b3, hB1⟩ := encW_is w (nodC x Ac cc Ak ck Ai ci)
  unfold nodC at *
  obtain ⟨W1, hW1⟩ : ∃ W1, W1 = encW w #[.bool x.leaf, .slice Ac x.cells.length cc, .slice Ak x.keys.length ck, .slice Ai x.kids.length ci] := ⟨_, rfl⟩
  rw [← hW1] at b1 b2 b3 hB1
  unfold encW at hW1
  have HW1 := Lib.hid hW1
  clear hW1
  unfold EncNo
  go_enter_defers Try.func109, Try.ntmps109
  go_wp2_with (first
    | (rw [← HW1.out]; refine wp_loadW rfl 76 (.tmp 1) rfl w.heap.size rfl rowNod b1 (by rfl) ?_)
    | (go_at_call 116; refine (HL _ hB1).mono ?_; rintro e w2 ⟨rfl, hB2⟩; have b22 := b2.below hB2 b2.lt; have b32 := b3.below hB2 b3.lt))
  refine leaves_cons (f := 113) (args := #[.pointer (some ⟨w.heap.size + 1 + 1, 0, none⟩), .func (.func 166) #[] #[.pointer (some ⟨w.heap.size + 1, 0, none⟩)]]) (by simp) (by simp [go_sem]) ?_
  refine (caught_encode _ _ e0 _ _ b32 _ b22 (by omega)).mono ?_
  rintro e u' w'' ⟨rfl, rfl, rfl⟩
  have q2 := ((b22.other (p := ⟨w.heap.size + 1 + 1, 0, none⟩) (by simp) (.int .i64 e0)).set 0 (.slice none 0 0)).boxed
  have q3 := ((b32.set 0 (.int .i64 e0)).other (p := ⟨w.heap.size + 1, 0, none⟩) (by simp) (.slice none 0 0)).boxed
  have hBf : Below w.heap.size w ((w2.setCell ⟨w.heap.size + 1 + 1, 0, none⟩ (.int .i64 e0)).setCell ⟨w.heap.size + 1, 0, none⟩ (.slice none 0 0)) := ((hB1.trans (hB2.mono hB1.size)).setCell (by simp; omega) _).setCell (by simp) _
  generalize (w2.setCell ⟨w.heap.size + 1 + 1, 0, none⟩ (.int .i64 e0)).setCell ⟨w.heap.size + 1, 0, none⟩ (.slice none 0 0) = V at *
  simp [Leaves, settle, gave, results, Try.results109, go_sem, q2, q3]
  exact hBf
set_option maxRecDepth 100000 in
set_option maxHeartbeats 2000000 in
theorem encode_long (w : World) (x : Nod) (Ac : Option Addr) (cc : Nat) (Ak : Option Addr) (ck : Nat) (Ai : Option Addr) (ci : Nat) (lb : List UInt8) (hlb : 512 < lb.length) (HL : ∀ W, Below w.heap.size w W → Calls Try.prog 116 #[.agg (nodC x Ac cc Ak ck Ai ci)] W (GivesB W lb)) :
    Calls Try.prog 109 #[.agg (nodC x Ac cc Ak ck Ai ci)] w (EncNo w 3) := by
  have hmf : ∀ (fn : Fn) (first cap : Array Value) (w : World), (Instr.makeFunc fn first cap).run Try.prog w = .ok (.func fn first cap) w := fun _ _ _ _ => rfl
  obtain ⟨b1, b2, b3, hB1⟩ := encW_is w (nodC x Ac cc Ak ck Ai ci)
  unfold nodC at *
  obtain ⟨W1, hW1⟩ : ∃ W1, W1 = encW w #[.bool x.leaf, .slice Ac x.cells.length cc, .slice Ak x.keys.length ck, .slice Ai x.kids.length ci] := ⟨_, rfl⟩
  rw [← hW1] at b1 b2 b3 hB1
  unfold encW at hW1
  have HW1 := Lib.hid hW1
  clear hW1
  unfold EncNo
  have hle : ¬ (lb.length : Int) ≤ 512 := by omega
  go_enter_defers Try.func109, Try.ntmps109
  go_wp2_with (first
    | (rw [← HW1.out]; refine wp_loadW rfl 76 (.tmp 1) rfl w.heap.size rfl rowNod b1 (by rfl) ?_)
    | (go_at_call 116; refine (HL _ hB1).mono ?_; rintro e w2 ⟨v, rfl, own, hB2⟩; obtain ⟨A2, c2, rfl, hin2⟩ := own.inB; have b22 := b2.below hB2 b2.lt; have b32 := b3.below hB2 b3.lt; have k2 := b22.boxed; have f2 := b22.free 0)
    | (go_at_call 115; refine (must_gives _ _ _).mono ?_; rintro e w7 ⟨rfl, h7⟩; obtain rfl := h7.2 (decide_eq_false (by omega))))
  have b23 := b22.set 0 (.slice A2 lb.length c2)
  have b33 := b32.other (p := ⟨w.heap.size + 1, 0, none⟩) (by simp) (.slice A2 lb.length c2)
  have hB3 : Below w.heap.size w (w2.setCell ⟨w.heap.size + 1, 0, none⟩ (.slice A2 lb.length c2)) := (hB1.trans (hB2.mono hB1.size)).setCell (by simp) _
  generalize w2.setCell ⟨w.heap.size + 1, 0, none⟩ (.slice A2 lb.length c2) = w3 at *
  refine leaves_cons (f := 113) (args := #[.pointer (some ⟨w.heap.size + 1 + 1, 0, none⟩), .func (.func 166) #[] #[.pointer (some ⟨w.heap.size + 1, 0, none⟩)]]) (by simp) (by simp [go_sem]) ?_
  refine (caught_encode _ _ 3 _ _ b33 _ b23 (by omega)).mono ?_
  rintro e u' w'' ⟨rfl, rfl, rfl⟩
  have q2 := ((b23.other (p := ⟨w.heap.size + 1 + 1, 0, none⟩) (by simp) (.int .i64 3)).set 0 (.slice none 0 0)).boxed
  have q3 := ((b33.set 0 (.int .i64 3)).other (p := ⟨w.heap.size + 1, 0, none⟩) (by simp) (.slice none 0 0)).boxed
  have hBf : Below w.heap.size w ((w3.setCell ⟨w.heap.size + 1 + 1, 0, none⟩ (.int .i64 3)).setCell ⟨w.heap.size + 1, 0, none⟩ (.slice none 0 0)) := (hB3.setCell (by simp; omega) _).setCell (by simp) _
  generalize (w3.setCell ⟨w.heap.size + 1 + 1, 0, none⟩ (.int .i64 3)).setCell ⟨w.heap.size + 1, 0, none⟩ (.slice none 0 0) = V at *
  simp [Leaves, settle, gave, results, Try.results109, go_sem, q2, q3]
  exact hBf
set_option maxRecDepth 100000 in
set_option maxHeartbeats 2000000 in
/-- slices.Equal of bytes. -/
theorem eqB_gives (w : World) (A A' : Option Addr) (c c' : Nat) (l l' : List UInt8) (h : InB w w.heap.size A c l) (h' : InB w w.heap.size A' c' l') : Calls Try.prog 129 #[.slice A l.length c, .slice A' l'.length c'] w fun e w' => e = .returned (.bool (decide (l = l'))) ∧ Below w.heap.size w w' := by
  have hle := h.le
  have hmax := h.max
  by_cases hl : l.length = l'.length
  · have hm2 : l'.length ≤ 9223372036854775807 := by have := h'.le; have := h'.max; omega
    rw [← hl]
    have HL := Lib.hid hl
    clear hl
    go_enter Try.func129, Try.ntmps129
    go_wp2
    go_loopw [13] (fun i wr => ∃ k : Nat, k ≤ l.length ∧ i = .int .i64 k ∧ Hid (l.take k = l'.take k) ∧ Below w.heap.size w wr) (fun i _ => l.length - (intOf i).toNat)
    case atStart => exact ⟨0, by omega, rfl, Lib.hid (by simp), Below.refl _ _⟩
    case round =>
      obtain ⟨k, hk, rfl, HT, hB⟩ := hrel
      by_cases hlt : k < l.length
      · have hlt2 : k < l'.length := by have := HL.out; omega
        obtain ⟨g, o, rfl, hg, hc⟩ := h.lies (by omega)
        obtain ⟨g', o', rfl, hg', hc'⟩ := h'.lies (by omega)
        have d0 : wr.cell? ⟨g, o + k, none⟩ = some (.int .u8 (l[k].toNat : Int)) := (hB.cell (p := ⟨g, o + k, none⟩) hg).trans (hc k hlt)
        have d1 : wr.cell? ⟨g', o' + k, none⟩ = some (.int .u8 (l'[k].toNat : Int)) := (hB.cell (p := ⟨g', o' + k, none⟩) hg').trans (hc' k hlt2)
        have e0 : wr.drew.cell? ⟨g, o + k, none⟩ = some (.int .u8 (l[k].toNat : Int)) := d0
        have e1 : wr.drew.cell? ⟨g', o' + k, none⟩ = some (.int .u8 (l'[k].toNat : Int)) := d1
        have j1 : (k : Int) < (l.length : Int) := by omega
        have j2 : (0 : Int) ≤ (k : Int) := by omega
        have hwk : IntKind.i64.wrap ((k : Int) + 1) = (k : Int) + 1 := wrapN _ (by omega) (by omega)
        by_cases he : l[k] = l'[k]
        · have hnx : Hid (l.take (k + 1) = l'.take (k + 1)) := Lib.hid (by rw [List.take_succ_eq_append_getElem hlt, List.take_succ_eq_append_getElem hlt2, HT.out, he])
          rw [← he] at d1 e1
          generalize l[k] = b at *
          clear he hc hc'
          go_wp2
          go_region
          go_wp2
          exact ⟨⟨k + 1, by omega, by simp, hnx, hB.drew⟩, by simp [intOf]; omega⟩
        · have hne : ¬ l = l' := fun e => he (by subst e; rfl)
          have hb : ¬ (l[k].toNat : Int) = (l'[k].toNat : Int) := fun e => he (UInt8.toNat_inj.1 (by omega))
          generalize (l[k].toNat : Int) = x at *
          generalize (l'[k].toNat : Int) = y at *
          have HNE := Lib.hid hne
          clear he hc hc' hne
          go_wp2
          go_region
          go_wp2
          go_ret
          exact ⟨by simp [HNE.out], hB.drew⟩
      · obtain rfl : k = l.length := by omega
        have he : Hid (l = l') := Lib.hid (by
          have h1 := HT.out
          rw [List.take_length, HL.out, List.take_length] at h1
          exact h1)
        go_wp2
        go_ret
        exact ⟨by simp [he.out], hB⟩
  · have hl2 : ¬ (l.length : Int) = (l'.length : Int) := by omega
    have hne : ¬ l = l' := fun e => hl (by rw [e])
    go_enter Try.func129, Try.ntmps129
    go_wp2
    go_ret
    exact ⟨by simp [hne], Below.refl _ _⟩
end Go.Proofs.Ytlelckdcmlpmdaa
/- louperef12: Encode. -/
namespace Go.Proofs.Ytlelckdcmlpmdaa
open Go Go.RowKit Lou

theorem run_appZ0 {w : World} (ty : TypeId) (A : Option Addr) (n c : Nat) (hc : n ≤ c) : (Builtin.append_ #[30, 3] ty #[.slice A n c, .int .i64 0]).run Try.prog w = .ok (.slice A n c) w := by
  obtain ⟨i0, hi, hz0, hz1, hz2⟩ := info_parts inf_u8
  have hst : ∀ a, (storeCells a ([] : List Value)).run Try.prog w = .ok () w := fun a => by simp [storeCells]
  cases A with
  | none => simp [Builtin.append_, run_underlying Try.underlying30, run_underlying Try.underlying3, sizeOf, typeInfo, zeroValue, hi, hz0, asInt, asIntOf, hc, IntKind.wrap_i64]
  | some a => simp [Builtin.append_, run_underlying Try.underlying30, run_underlying Try.underlying3, sizeOf, typeInfo, zeroValue, hi, hz0, asInt, asIntOf, hc, IntKind.wrap_i64, hst]
/-- append(v, make([]byte, k)...), k any. -/
theorem run_appZk {w : World} (ty : TypeId) (base : Nat) (v : Value) (l : List UInt8) (hown : OwnB w base v l) (k : Nat) (hbytes : l.length + k ≤ 1000000000) (hbase : base ≤ w.heap.size) :
    ∃ v' w', (Builtin.append_ #[30, 3] ty #[v, .int .i64 (k : Int)]).run Try.prog w = .ok v' w' ∧ OwnB w' base v' (l ++ List.replicate k 0) ∧ w.grownBy w' v.ownBlock := by
  by_cases h0 : 0 < k
  · obtain ⟨v', w', h1, h2, h3, _⟩ := run_appZ ty base v l hown k h0 hbytes hbase
    exact ⟨v', w', h1, h2, h3⟩
  · obtain rfl : k = 0 := by omega
    obtain ⟨A, c, rfl, hin⟩ := hown.inB
    exact ⟨_, w, run_appZ0 ty A l.length c hin.le, by rw [List.replicate_zero, List.append_nil]; exact hown, World.grownBy.refl _ _⟩
set_option maxRecDepth 100000 in
set_option maxHeartbeats 2000000 in
theorem renc_bad (w : World) (x : Nod) (Ac : Option Addr) (cc : Nat) (Ak : Option Addr) (ck : Nat) (Ai : Option Addr) (ci : Nat) (h : NIs w w.heap.size x Ac cc Ak ck Ai ci) (hl : x.cells.length ≤ 1000) (hl2 : x.keys.length ≤ 1000) (hl3 : x.kids.length ≤ 1001) (hR : ¬ RightP x) :
    Calls Try.prog 132 #[.agg (nodC x Ac cc Ak ck Ai ci)] w (EncNo w 2) := by
  have b0 := BlkIs.new w 76 (nodC x Ac cc Ak ck Ai ci)
  have hB : Below w.heap.size w (w.alloc (.cells (nodC x Ac cc Ak ck Ai ci) 76)) := (Below.refl _ w).alloc (Nat.le_refl _) _
  have HR := right12_gives _ x Ac cc Ak ck Ai ci (h.grow hB) (by omega) (by omega) (by omega)
  unfold YesOut at HR
  have HNR := Lib.hid hR
  generalize RightP x = PR at *
  unfold nodC at *
  unfold EncNo
  obtain ⟨W1, hW1⟩ : ∃ W1, W1 = w.alloc (.cells #[.bool x.leaf, .slice Ac x.cells.length cc, .slice Ak x.keys.length ck, .slice Ai x.kids.length ci] 76) := ⟨_, rfl⟩
  rw [← hW1] at b0 hB HR
  have HW1 := Lib.hid hW1
  clear hW1 hR h
  go_enter Try.func132, Try.ntmps132
  go_wp2_with (first
    | (rw [← HW1.out]; refine wp_loadW rfl 76 (.tmp 1) rfl w.heap.size rfl rowNod b0 (by rfl) ?_)
    | (go_at_call 178; refine HR.mono ?_; rintro e w2 ⟨r2, rfl, hB2, hr2⟩; obtain rfl : r2 = false := (by cases r2 with | false => rfl | true => exact absurd (hr2.1 rfl) HNR.out); clear hr2))
  go_ret2
  exact ⟨rfl, hB.trans (hB2.mono hB.size)⟩
set_option maxRecDepth 100000 in
set_option maxHeartbeats 2000000 in
theorem renc_long (w : World) (x : Nod) (Ac : Option Addr) (cc : Nat) (Ak : Option Addr) (ck : Nat) (Ai : Option Addr) (ci : Nat) (h : NIs w w.heap.size x Ac cc Ak ck Ai ci) (hl : x.cells.length ≤ 1000) (hl2 : x.keys.length ≤ 1000) (hl3 : x.kids.length ≤ 1001) (hR : RightP x) (hlong : 512 < (laidB x).length) :
    Calls Try.prog 132 #[.agg (nodC x Ac cc Ak ck Ai ci)] w (EncNo w 3) := by
  have b0 := BlkIs.new w 76 (nodC x Ac cc Ak ck Ai ci)
  have hB : Below w.heap.size w (w.alloc (.cells (nodC x Ac cc Ak ck Ai ci) 76)) := (Below.refl _ w).alloc (Nat.le_refl _) _
  have h1 := h.grow hB
  have HR := right12_gives _ x Ac cc Ak ck Ai ci h1 (by omega) (by omega) (by omega)
  have HG := fun W (hW : Below (w.alloc (.cells (nodC x Ac cc Ak ck Ai ci) 76)).heap.size (w.alloc (.cells (nodC x Ac cc Ak ck Ai ci) 76)) W) => rbytes_gives W x Ac cc Ak ck Ai ci (h1.grow hW) (by omega) (by omega) (by omega) hR
  unfold YesOut at HR
  unfold GivesB at HG
  have HYR := Lib.hid hR
  generalize laidB x = lb at *
  generalize RightP x = PR at *
  unfold nodC at *
  unfold EncNo
  have hlb : (512 : Int) < (lb.length : Int) := by omega
  obtain ⟨W1, hW1⟩ : ∃ W1, W1 = w.alloc (.cells #[.bool x.leaf, .slice Ac x.cells.length cc, .slice Ak x.keys.length ck, .slice Ai x.kids.length ci] 76) := ⟨_, rfl⟩
  rw [← hW1] at b0 hB HR HG
  have HW1 := Lib.hid hW1
  clear hW1 hR h hlong h1
  go_enter Try.func132, Try.ntmps132
  go_wp2_with (first
    | (rw [← HW1.out]; refine wp_loadW rfl 76 (.tmp 1) rfl w.heap.size rfl rowNod b0 (by rfl) ?_)
    | (refine wp_loadW rfl 76 (.tmp 1) rfl w.heap.size rfl rowNod b2 (by rfl) ?_)
    | (go_at_call 178; refine HR.mono ?_; rintro e w2 ⟨r2, rfl, hB2, hr2⟩; obtain rfl : r2 = true := hr2.2 HYR.out; clear hr2; have b2 := b0.below hB2 b0.lt)
    | (go_at_call 179; refine (HG _ hB2).mono ?_; rintro e w3 ⟨v3, rfl, own3, hB3⟩; obtain ⟨A3, c3, rfl, in3⟩ := own3.inB))
  go_ret2
  have hB12 := hB.trans (hB2.mono hB.size)
  exact ⟨rfl, hB12.trans (hB3.mono hB12.size)⟩
set_option maxRecDepth 100000 in
set_option maxHeartbeats 2000000 in
theorem renc_ok (w : World) (x : Nod) (Ac : Option Addr) (cc : Nat) (Ak : Option Addr) (ck : Nat) (Ai : Option Addr) (ci : Nat) (h : NIs w w.heap.size x Ac cc Ak ck Ai ci) (hl : x.cells.length ≤ 1000) (hl2 : x.keys.length ≤ 1000) (hl3 : x.kids.length ≤ 1001) (hR : RightP x) (hfit : (laidB x).length ≤ 512) :
    Calls Try.prog 132 #[.agg (nodC x Ac cc Ak ck Ai ci)] w (EncOut w (laidB x)) := by
  have b0 := BlkIs.new w 76 (nodC x Ac cc Ak ck Ai ci)
  have hB : Below w.heap.size w (w.alloc (.cells (nodC x Ac cc Ak ck Ai ci) 76)) := (Below.refl _ w).alloc (Nat.le_refl _) _
  have h1 := h.grow hB
  have HR := right12_gives _ x Ac cc Ak ck Ai ci h1 (by omega) (by omega) (by omega)
  have HG := fun W (hW : Below (w.alloc (.cells (nodC x Ac cc Ak ck Ai ci) 76)).heap.size (w.alloc (.cells (nodC x Ac cc Ak ck Ai ci) 76)) W) => rbytes_gives W x Ac cc Ak ck Ai ci (h1.grow hW) (by omega) (by omega) (by omega) hR
  unfold YesOut at HR
  unfold GivesB at HG
  have HYR := Lib.hid hR
  generalize laidB x = lb at *
  generalize RightP x = PR at *
  unfold nodC at *
  unfold EncOut
  have hlb : ¬ (512 : Int) < (lb.length : Int) := by omega
  have hsub : IntKind.i64.wrap (512 - (lb.length : Int)) = ((512 - lb.length : Nat) : Int) := by rw [wrapN _ (by omega) (by omega)]; omega
  have hfull : (lb ++ List.replicate (512 - lb.length) (0 : UInt8)).length = 512 := by rw [List.length_append, List.length_replicate]; omega
  generalize hk : 512 - lb.length = k at *
  have hk1 : lb.length + k ≤ 1000000000 := by omega
  obtain ⟨W1, hW1⟩ : ∃ W1, W1 = w.alloc (.cells #[.bool x.leaf, .slice Ac x.cells.length cc, .slice Ak x.keys.length ck, .slice Ai x.kids.length ci] 76) := ⟨_, rfl⟩
  rw [← hW1] at b0 hB HR HG
  have HW1 := Lib.hid hW1
  have HK := Lib.hid hk
  have HF := Lib.hid hfull
  clear hW1 hR h hfit h1 hk hfull
  go_enter Try.func132, Try.ntmps132
  go_wp2_with (first
    | (rw [← HW1.out]; refine wp_loadW rfl 76 (.tmp 1) rfl w.heap.size rfl rowNod b0 (by rfl) ?_)
    | (refine wp_loadW rfl 76 (.tmp 1) rfl w.heap.size rfl rowNod b2 (by rfl) ?_)
    | (go_at_call 178; refine HR.mono ?_; rintro e w2 ⟨r2, rfl, hB2, hr2⟩; obtain rfl : r2 = true := hr2.2 HYR.out; clear hr2; have b2 := b0.below hB2 b0.lt)
    | (go_at_call 179; refine (HG _ hB2).mono ?_; rintro e w3 ⟨v3, rfl, own3, hB3⟩; obtain ⟨A3, c3, rfl, in3⟩ := own3.inB; have hs3 := hB3.size)
    | (at_builtin; obtain ⟨v4, w4, hr4, own4, hg4⟩ := run_appZk (w := w3) 30 w2.heap.size (.slice A3 lb.length c3) lb own3 k hk1 hs3; refine Lib.wpList_append_run _ rfl (.tmp 13) (.tmp 16) _ _ rfl _ _ rfl rfl _ _ hr4 ?_))
  go_ret2
  have hB12 := hB.trans (hB2.mono hB.size)
  have hB13 := hB12.trans (hB3.mono hB12.size)
  obtain ⟨A4, c4, rfl, in4⟩ := own4.inB
  rw [HF.out]
  refine ⟨A4, c4, rfl, in4, hB13.trans (grown_below hg4 hB13.size fun r hr => ?_)⟩
  have := own3.ownGe r hr
  have := hB12.size
  omega
end Go.Proofs.Ytlelckdcmlpmdaa
/- node.Split's boxes; what gives up, caught; Split where laid gives up. -/
namespace Go.Proofs.Ytlelckdcmlpmdaa
open Go Go.RowKit Lou
attribute [local go_sem] as_errno

/-- A node of noughts. -/
def zeroN : Array Value := #[.bool false, .slice none 0 0, .slice none 0 0, .slice none 0 0]
theorem zeroN_one : ∀ v ∈ zeroN.toList, v.oneCell' = true := by
  intro v hv
  simp [zeroN] at hv
  rcases hv with rfl | rfl | rfl | rfl <;> rfl
/-- The boxes of what Split answers. -/
structure Bx (w0 w : World) (p : Nat) (a b : Array Value) (s e : Value) : Prop where
  a : BlkIs w (p + 1) 76 a
  b : BlkIs w (p + 1 + 1) 76 b
  s : BlkIs w (p + 1 + 1 + 1) 9 #[s]
  e : BlkIs w (p + 1 + 1 + 1 + 1) 27 #[e]
  h : Below (p + 1) w0 w
section
variable {w0 w w' : World} {p : Nat} {a b : Array Value} {s e : Value}
theorem Bx.past (h : Bx w0 w p a b s e) (hB : Below w.heap.size w w') : Bx w0 w' p a b s e :=
  ⟨h.a.below hB h.a.lt, h.b.below hB h.b.lt, h.s.below hB h.s.lt, h.e.below hB h.e.lt, h.h.trans (hB.mono (Nat.le_of_lt h.a.lt))⟩
theorem Bx.base (h : Bx w0 w p a b s e) : Bx w w p a b s e := ⟨h.a, h.b, h.s, h.e, Below.refl _ w⟩
theorem Bx.drew (h : Bx w0 w p a b s e) : Bx w0 w.drew p a b s e := h.past (Below.refl _ w).drew
theorem Bx.setA (h : Bx w0 w p a b s e) (i : Nat) (v : Value) : Bx w0 (w.setCell ⟨p + 1, i, none⟩ v) p (a.setIfInBounds i v) b s e :=
  ⟨h.a.set i v, h.b.other (by simp <;> omega) v, h.s.other (by simp <;> omega) v, h.e.other (by simp <;> omega) v, h.h.setCell (by simp <;> omega) v⟩
theorem Bx.setB (h : Bx w0 w p a b s e) (i : Nat) (v : Value) : Bx w0 (w.setCell ⟨p + 1 + 1, i, none⟩ v) p a (b.setIfInBounds i v) s e :=
  ⟨h.a.other (by simp <;> omega) v, h.b.set i v, h.s.other (by simp <;> omega) v, h.e.other (by simp <;> omega) v, h.h.setCell (by simp <;> omega) v⟩
theorem Bx.setS (h : Bx w0 w p a b s e) (v : Value) : Bx w0 (w.setCell ⟨p + 1 + 1 + 1, 0, none⟩ v) p a b v e :=
  ⟨h.a.other (by simp <;> omega) v, h.b.other (by simp <;> omega) v, h.s.set 0 v, h.e.other (by simp <;> omega) v, h.h.setCell (by simp <;> omega) v⟩
theorem Bx.setE (h : Bx w0 w p a b s e) (v : Value) : Bx w0 (w.setCell ⟨p + 1 + 1 + 1 + 1, 0, none⟩ v) p a b s v :=
  ⟨h.a.other (by simp <;> omega) v, h.b.other (by simp <;> omega) v, h.s.other (by simp <;> omega) v, h.e.set 0 v, h.h.setCell (by simp <;> omega) v⟩
theorem Bx.rowA (h : Bx w0 w p a b s e) (cs : Array Value) : Bx w0 (w.setRow (p + 1) cs) p cs b s e :=
  ⟨h.a.setRow cs, h.b.setRow_ne (by simp <;> omega) cs, h.s.setRow_ne (by simp <;> omega) cs, h.e.setRow_ne (by simp <;> omega) cs, below_setRow h.h (by simp <;> omega) cs⟩
theorem Bx.rowB (h : Bx w0 w p a b s e) (cs : Array Value) : Bx w0 (w.setRow (p + 1 + 1) cs) p a cs s e :=
  ⟨h.a.setRow_ne (by simp <;> omega) cs, h.b.setRow cs, h.s.setRow_ne (by simp <;> omega) cs, h.e.setRow_ne (by simp <;> omega) cs, below_setRow h.h (by simp <;> omega) cs⟩
end
/-- The world in which Split has its boxes. -/
def bxW (w : World) (cs : Array Value) : World := ((((w.alloc (.cells cs 76)).alloc (.cells #[.bool false, .slice none 0 0, .slice none 0 0, .slice none 0 0] 76)).alloc (.cells #[.bool false, .slice none 0 0, .slice none 0 0, .slice none 0 0] 76)).alloc (.cells #[.string { data := #[] }] 9)).alloc (.cells #[.int .i64 0] 27)
theorem bxW_is (w : World) (cs : Array Value) : BlkIs (bxW w cs) w.heap.size 76 cs ∧ Bx (bxW w cs) (bxW w cs) w.heap.size zeroN zeroN (.string { data := #[] }) (.int .i64 0) ∧ Below w.heap.size w (bxW w cs) := by
  have s1 := World.size_alloc w (.cells cs 76)
  have a0 := BlkIs.new w 76 cs
  have b1 : Below w.heap.size w (w.alloc (.cells cs 76)) := (Below.refl _ w).alloc (Nat.le_refl _) _
  unfold bxW zeroN
  generalize w.alloc (.cells cs 76) = w1 at *
  have s2 := World.size_alloc w1 (.cells #[.bool false, .slice none 0 0, .slice none 0 0, .slice none 0 0] 76)
  have a1 := BlkIs.new w1 76 #[.bool false, .slice none 0 0, .slice none 0 0, .slice none 0 0]
  have a0' := a0.alloc (.cells #[.bool false, .slice none 0 0, .slice none 0 0, .slice none 0 0] 76)
  have b2 := b1.alloc (by omega) (.cells #[.bool false, .slice none 0 0, .slice none 0 0, .slice none 0 0] 76)
  generalize w1.alloc (.cells #[.bool false, .slice none 0 0, .slice none 0 0, .slice none 0 0] 76) = w2 at *
  have s3 := World.size_alloc w2 (.cells #[.bool false, .slice none 0 0, .slice none 0 0, .slice none 0 0] 76)
  have a2 := BlkIs.new w2 76 #[.bool false, .slice none 0 0, .slice none 0 0, .slice none 0 0]
  have a0'' := a0'.alloc (.cells #[.bool false, .slice none 0 0, .slice none 0 0, .slice none 0 0] 76)
  have a1' := a1.alloc (.cells #[.bool false, .slice none 0 0, .slice none 0 0, .slice none 0 0] 76)
  have b3 := b2.alloc (by omega) (.cells #[.bool false, .slice none 0 0, .slice none 0 0, .slice none 0 0] 76)
  generalize w2.alloc (.cells #[.bool false, .slice none 0 0, .slice none 0 0, .slice none 0 0] 76) = w3 at *
  have s4 := World.size_alloc w3 (.cells #[.string { data := #[] }] 9)
  have a3 := BlkIs.new w3 9 #[.string { data := #[] }]
  have a0q := a0''.alloc (.cells #[.string { data := #[] }] 9)
  have a1q := a1'.alloc (.cells #[.string { data := #[] }] 9)
  have a2q := a2.alloc (.cells #[.string { data := #[] }] 9)
  have b4 := b3.alloc (by omega) (.cells #[.string { data := #[] }] 9)
  generalize w3.alloc (.cells #[.string { data := #[] }] 9) = w4 at *
  have a4 := BlkIs.new w4 27 #[.int .i64 0]
  have b5 := b4.alloc (by omega) (.cells #[.int .i64 0] 27)
  rw [s4, s3, s2, s1] at a4
  rw [s3, s2, s1] at a3
  rw [s2, s1] at a2q
  rw [s1] at a1q
  exact ⟨a0q.alloc _, ⟨a1q.alloc _, a2q.alloc _, a3.alloc _, a4, Below.refl _ _⟩, b5⟩
set_option maxRecDepth 100000 in
set_option maxHeartbeats 1000000 in
theorem split1_gives {w0 w : World} {p : Nat} {a b : Array Value} {s e : Value} (h : Bx w0 w p a b s e) (ha : a.size = 4) (hb : b.size = 4) :
    Calls Try.prog 114 #[.pointer (some ⟨p + 1, 0, none⟩), .pointer (some ⟨p + 1 + 1, 0, none⟩), .pointer (some ⟨p + 1 + 1 + 1, 0, none⟩)] w fun e' w' => (∃ v, e' = .returned v) ∧ Bx w0 w' p zeroN zeroN (.string { data := #[] }) e := by
  go_enter Try.func114, Try.ntmps114
  go_wp2_with (first
    | (refine wp_storeW rfl 76 (.tmp 0) (.tmp 3) rfl (p + 1) rfl rfl rowNod h.a ha (by rw [ha]; rfl) zeroN_one ?_; have h1 := h.rowA zeroN)
    | (refine wp_storeW rfl 76 (.tmp 1) (.tmp 4) rfl (p + 1 + 1) rfl rfl rowNod h1.b hb (by rw [hb]; rfl) zeroN_one ?_; have h2 := h1.rowB zeroN; have c2 := h2.s.boxed; have f2 := h2.s.free 0; unfold zeroN at c2 f2))
  go_end0
  exact ⟨⟨_, rfl⟩, h2.setS _⟩
set_option maxRecDepth 100000 in
set_option maxHeartbeats 1000000 in
theorem caught_split {w0 w : World} {p : Nat} {a b : Array Value} {s e : Value} (h : Bx w0 w p a b s e) (ha : a.size = 4) (hb : b.size = 4) (e0 : Int) :
    CallsD Try.prog 113 #[.pointer (some ⟨p + 1 + 1 + 1 + 1, 0, none⟩), .func (.func 114) #[] #[.pointer (some ⟨p + 1, 0, none⟩), .pointer (some ⟨p + 1 + 1, 0, none⟩), .pointer (some ⟨p + 1 + 1 + 1, 0, none⟩)]] (.panicking [gave e0 false]) w fun e' u' w' => e' = .returned (.tuple #[]) ∧ u' = .panicking [gave e0 true] ∧
      Bx w0 w' p zeroN zeroN (.string { data := #[] }) (.int .i64 e0) := by
  refine callsD_of_wpS Try.func113 rfl fun c₀ cs hu => ?_
  unfold gave at hu
  apply wpS_seq
  apply wpS_region
  simp [wpOpsS, go_sem, recoverD, hu, Try.ntmps113, Exit.thenS]
  refine wpS_of_wp ?_
  simp only [Array.replicate_succ, Array.replicate_zero, List.push_toArray, List.nil_append, List.cons_append]
  have c1 := h.e.boxed
  have f1 := h.e.free 0
  have h2 := h.setE (.int .i64 e0)
  go_wp2_with (go_at_call 114; refine (split1_gives h2 ha hb).mono ?_; rintro e1 w1 ⟨⟨v1, rfl⟩, h3⟩)
  refine ⟨rfl, _, rfl, _, results_none rfl _ _ _, rfl, rfl, h3⟩
theorem box4 {w : World} {g : Nat} {t : TypeId} {v0 v1 v2 v3 : Value} (h : BlkIs w g t #[v0, v1, v2, v3]) : w.cell? ⟨g, 0, none⟩ = some v0 ∧ w.cell? ⟨g, 1, none⟩ = some v1 ∧ w.cell? ⟨g, 2, none⟩ = some v2 ∧ w.cell? ⟨g, 3, none⟩ = some v3 :=
  ⟨by rw [h.cell]; rfl, by rw [h.cell]; rfl, by rw [h.cell]; rfl, by rw [h.cell]; rfl⟩
/-- Split gives up. -/
def BadOut (w : World) (e0 : Int) (e : Ending) (w' : World) : Prop := e = .returned (.tuple #[.agg zeroN, .agg zeroN, .string { data := #[] }, .int .i64 e0]) ∧ Below w.heap.size w w'
set_option maxRecDepth 100000 in
set_option maxHeartbeats 2000000 in
theorem split_bad (w : World) (x : Nod) (Ac : Option Addr) (cc : Nat) (Ak : Option Addr) (ck : Nat) (Ai : Option Addr) (ci : Nat) (e0 : Int) (HL : ∀ W, Below w.heap.size w W → Calls Try.prog 116 #[.agg (nodC x Ac cc Ak ck Ai ci)] W (GaveOut W e0)) :
    Calls Try.prog 52 #[.agg (nodC x Ac cc Ak ck Ai ci)] w (BadOut w e0) := by
  unfold GaveOut at HL
  have hmf : ∀ (fn : Fn) (first cap : Array Value) (w : World), (Instr.makeFunc fn first cap).run Try.prog w = .ok (.func fn first cap) w := fun _ _ _ _ => rfl
  obtain ⟨b1, hx, hB1⟩ := bxW_is w (nodC x Ac cc Ak ck Ai ci)
  unfold nodC at *
  obtain ⟨W1, hW1⟩ : ∃ W1, W1 = bxW w #[.bool x.leaf, .slice Ac x.cells.length cc, .slice Ak x.keys.length ck, .slice Ai x.kids.length ci] := ⟨_, rfl⟩
  rw [← hW1] at b1 hx hB1
  unfold bxW at hW1
  have HW1 := Lib.hid hW1
  clear hW1
  unfold BadOut
  go_enter_defers Try.func52, Try.ntmps52
  go_wp2_with (first
    | (rw [← HW1.out]; refine wp_loadW rfl 76 (.tmp 1) rfl w.heap.size rfl rowNod b1 (by rfl) ?_)
    | (go_at_call 116; refine (HL _ hB1).mono ?_; rintro e w2 ⟨rfl, hB2⟩; have hx2 := hx.past hB2))
  refine leaves_cons (f := 113) (args := #[.pointer (some ⟨w.heap.size + 1 + 1 + 1 + 1, 0, none⟩), .func (.func 114) #[] #[.pointer (some ⟨w.heap.size + 1, 0, none⟩), .pointer (some ⟨w.heap.size + 1 + 1, 0, none⟩), .pointer (some ⟨w.heap.size + 1 + 1 + 1, 0, none⟩)]]) (by simp) (by simp [go_sem]) ?_
  refine (caught_split hx2 rfl rfl e0).mono ?_
  rintro e u' w3 ⟨rfl, rfl, hx3⟩
  obtain ⟨a0, a1, a2, a3⟩ := box4 hx3.a
  obtain ⟨d0, d1, d2, d3⟩ := box4 hx3.b
  have q3 := hx3.s.boxed
  have q4 := hx3.e.boxed
  have hBf := hB1.trans (hx3.h.mono (by omega))
  simp [Leaves, settle, gave, results, Try.results52, go_sem, a0, a1, a2, a3, d0, d1, d2, d3, q3, q4, zeroN]
  exact hBf
end Go.Proofs.Ytlelckdcmlpmdaa
