/- Texts that the proof of NodeReads leans on, part 6. -/
import Derived.Recover
import Derived.Deep.OwnRows
import Derived.Deep.RegionLaw
import Derived.Deep.RegionHeld3
import Derived.Lib.SliceRun
import Derived.Deep.Upon
import Derived.Test.YtlelckdcmlpmdaaNodeReadsB5
/- node.laid: the walk. -/
namespace Go.Proofs.Ytlelckdcmlpmdaa
open Go Go.RowKit Lou

set_option maxRecDepth 100000 in
set_option maxHeartbeats 2000000 in
theorem laid_gives (w : World) (x : Nod) (Ac : Option Addr) (cc : Nat) (Ak : Option Addr) (ck : Nat) (Ai : Option Addr) (ci : Nat) (h : NIs w w.heap.size x Ac cc Ak ck Ai ci) (hl : x.cells.length ≤ 1000) (hl2 : x.keys.length ≤ 1000) (hl3 : x.kids.length ≤ 1001) (hR : RightP x) :
    Calls Try.prog 116 #[.agg (nodC x Ac cc Ak ck Ai ci)] w (GivesB w (laidB x)) := by
  have b0 := BlkIs.new w 76 (nodC x Ac cc Ak ck Ai ci)
  have hB : Below w.heap.size w (w.alloc (.cells (nodC x Ac cc Ak ck Ai ci) 76)) := (Below.refl _ w).alloc (Nat.le_refl _) _
  have h1 := h.grow hB
  have HC := check_ok _ x Ac cc Ak ck Ai ci h1 (by omega) (by omega) (by omega) hR
  have HL : ∀ W, Below (w.alloc (.cells (nodC x Ac cc Ak ck Ai ci) 76)).heap.size (w.alloc (.cells (nodC x Ac cc Ak ck Ai ci) 76)) W → Calls Try.prog 117 #[.agg (nodC x Ac cc Ak ck Ai ci)] W (LotsOut W (lotsB x)) := fun W hW => lots_gives W x Ac cc Ak ck Ai ci (h1.grow hW) (by omega) (by omega) (by omega) hR
  have hlen : (lotsB x).length = x.cells.length + x.keys.length := by simp [lotsB]
  have hflat : (lotsB x).flatten.length ≤ 1000000 := by
    have := flat_bound (lotsB x) 200 (lots_each hR)
    omega
  have hlb : laidB x = ((if x.leaf then 1 else 2) :: num (lotsB x).length ++ (if x.leaf then [] else num (x.kids.getD 0 0).toNat)) ++ (lotsB x).flatten := rfl
  have hkid : x.leaf = false → ∃ n : Nat, n ≤ 2000 ∧ ∃ h2 : 0 < x.kids.length, x.kids[0] = (n : Int) := fun e => by
    obtain ⟨_, _, hln, hp⟩ := hR.inner e
    have h2 : 0 < x.kids.length := by omega
    have hp2 := hp _ (List.getElem_mem h2)
    simp only [pageB, Bool.and_eq_true, decide_eq_true_eq] at hp2
    exact ⟨x.kids[0].toNat, by omega, h2, by omega⟩
  rw [hlb]
  generalize lotsB x = ls at *
  generalize hfl : ls.flatten = fl at *
  have HFL := Lib.hid hfl
  clear hfl
  have hnl := num_length ls.length
  clear hlb
  have hnn : ls.length ≤ 2000 := by omega
  clear hlen
  obtain ⟨leaf, cells, keys, kids⟩ := x
  unfold nodC at *
  simp only at *
  unfold Void at HC
  cases leaf with
  | true =>
    clear hkid
    go_enter Try.func116, Try.ntmps116
    go_wp2_with (first
      | (refine wp_loadW rfl 76 (.tmp 1) rfl w.heap.size rfl rowNod b0 (by rfl) ?_)
      | (refine wp_loadW rfl 76 (.tmp 1) rfl w.heap.size rfl rowNod b2 (by rfl) ?_)
      | (go_at_call 169; refine HC.mono ?_; rintro e w2 ⟨⟨v2, rfl⟩, hB2⟩; have b2 := b0.below hB2 b0.lt)
      | (go_at_call 117; refine (HL _ hB2).mono ?_; rintro e w3 ⟨A3, c3, vs, rfl, hL3, hB3⟩; have hB03 := hB2.trans (hB3.mono hB2.size); have b3 := b0.below hB03 b0.lt))
    have hBa : Below w3.heap.size w3 (w3.alloc (.cells #[.int .u8 2] 5)) := (Below.refl _ w3).alloc (Nat.le_refl _) _
    have n2 : BlkIs (w3.alloc (.cells #[.int .u8 2] 5)) w3.heap.size 5 (([2] : List UInt8).map b8).toArray := BlkIs.new w3 5 _
    have hin2 : InB (w3.alloc (.cells #[.int .u8 2] 5)) (w3.alloc (.cells #[.int .u8 2] 5)).heap.size (some ⟨w3.heap.size, 0, none⟩) 1 [2] := n2.inB _ n2.lt (by decide)
    refine (number12_gives _ ls.length (by omega)).mono ?_
    rintro e w4 ⟨v4, rfl, own4, hB4⟩
    obtain ⟨A4, c4, rfl, hin4⟩ := own4.inB
    go_wp2_with fail
    refine (join2 hin2 hin4 hB4 rfl (by simp; omega)).mono ?_
    rintro e w5 ⟨v5, rfl, own5, hB5⟩
    have e5 : ([[2], num ls.length] : List (List UInt8)).flatten = 2 :: num ls.length := by simp
    rw [e5] at own5
    have hBb : Below w4.heap.size w4 (w4.alloc (.cells #[.slice (some ⟨w3.heap.size, 0, none⟩) 1 1, .slice A4 (num ls.length).length c4] 30)) := (Below.refl _ w4).alloc (Nat.le_refl _) _
    have hB34 := hBa.trans (hB4.mono hBa.size)
    have hB35 := hB34.trans ((hBb.trans (hB5.mono hBb.size)).mono hB34.size)
    have b5 := b3.below hB35 b3.lt
    have k0 : w5.cell? ⟨w.heap.size, 0, none⟩ = some (.bool true) := by rw [b5.cell]; rfl
    have k3 : w5.cell? ⟨w.heap.size, 3, none⟩ = some (.slice Ai kids.length ci) := by rw [b5.cell]; rfl
    obtain ⟨g5, cap5, rfl, hg5, hg5l, hc5⟩ := own5.at_ (by simp)
    have hg5' : w3.heap.size ≤ g5 := Nat.le_trans (Nat.le_trans hB34.size hBb.size) hg5
    have hB05 := (hB.trans (hB03.mono hB.size)).trans (hB35.mono (hB.trans (hB03.mono hB.size)).size)
    have k5 := own5.cell 0 (by simp)
    have f5 := own5.free 0
    have hl1 : (1 : Int) ≤ ((2 :: num ls.length : List UInt8).length : Int) := by simp; omega
    have own6 := own5.set 0 1 (by decide)
    have e6 : (2 :: num ls.length : List UInt8).set 0 (UInt8.ofNat 1) = 1 :: num ls.length := rfl
    rw [e6] at own6
    have hB6 : Below w3.heap.size w3 (w5.setCell ⟨g5, 0, none⟩ (.int .u8 1)) := hB35.setCell hg5' _
    have hB06 : Below w.heap.size w (w5.setCell ⟨g5, 0, none⟩ (.int .u8 1)) := hB05.setCell (by have := hB05.size; have := (hB.trans (hB03.mono hB.size)).size; show w.heap.size ≤ g5; omega) _
    have hl5e : (2 :: num ls.length : List UInt8).length = (num ls.length).length + 1 := rfl
    go_wp2_with fail
    have HJ := joinedR_gives (hL3.grow hB6) (by rw [HFL.out]; omega)
    rw [HFL.out] at HJ
    refine HJ.mono ?_
    rintro e w7 ⟨v7, rfl, own7, hB7⟩
    obtain ⟨A7, c7, rfl, hin7⟩ := own7.inB
    obtain ⟨A6, c6, e6', hin6⟩ := own6.inB
    injection e6' with e61 e62 e63
    subst e61 e63
    go_wp2_with fail
    refine (join2 hin6 hin7 hB7 rfl (by simp only [List.flatten_cons, List.flatten_nil, List.append_nil, List.length_append, List.length_cons]; omega)).mono ?_
    rintro e w8 ⟨v8, rfl, own8, hB8⟩
    have hBc : Below w7.heap.size w7 (w7.alloc (.cells #[.slice (some ⟨g5, 0, none⟩) ((1 :: num ls.length : List UInt8)).length cap5, .slice A7 fl.length c7] 30)) := (Below.refl _ w7).alloc (Nat.le_refl _) _
    have hB07 := hB06.trans (hB7.mono hB06.size)
    have hB08 := hB07.trans ((hBc.trans (hB8.mono hBc.size)).mono hB07.size)
    have e8 : ([(1 :: num ls.length : List UInt8), fl] : List (List UInt8)).flatten = 1 :: (num ls.length ++ fl) := by simp
    rw [e8] at own8
    go_wp2
    go_ret
    exact ⟨v8, rfl, OwnB.base own8 (Nat.le_trans hB07.size hBc.size), hB08⟩
  | false =>
    obtain ⟨q, hq, hq2, hqk⟩ := hkid rfl
    clear hkid
    go_enter Try.func116, Try.ntmps116
    go_wp2_with (first
      | (refine wp_loadW rfl 76 (.tmp 1) rfl w.heap.size rfl rowNod b0 (by rfl) ?_)
      | (refine wp_loadW rfl 76 (.tmp 1) rfl w.heap.size rfl rowNod b2 (by rfl) ?_)
      | (go_at_call 169; refine HC.mono ?_; rintro e w2 ⟨⟨v2, rfl⟩, hB2⟩; have b2 := b0.below hB2 b0.lt)
      | (go_at_call 117; refine (HL _ hB2).mono ?_; rintro e w3 ⟨A3, c3, vs, rfl, hL3, hB3⟩; have hB03 := hB2.trans (hB3.mono hB2.size); have b3 := b0.below hB03 b0.lt))
    have hBa : Below w3.heap.size w3 (w3.alloc (.cells #[.int .u8 2] 5)) := (Below.refl _ w3).alloc (Nat.le_refl _) _
    have n2 : BlkIs (w3.alloc (.cells #[.int .u8 2] 5)) w3.heap.size 5 (([2] : List UInt8).map b8).toArray := BlkIs.new w3 5 _
    have hin2 : InB (w3.alloc (.cells #[.int .u8 2] 5)) (w3.alloc (.cells #[.int .u8 2] 5)).heap.size (some ⟨w3.heap.size, 0, none⟩) 1 [2] := n2.inB _ n2.lt (by decide)
    refine (number12_gives _ ls.length (by omega)).mono ?_
    rintro e w4 ⟨v4, rfl, own4, hB4⟩
    obtain ⟨A4, c4, rfl, hin4⟩ := own4.inB
    go_wp2_with fail
    refine (join2 hin2 hin4 hB4 rfl (by simp; omega)).mono ?_
    rintro e w5 ⟨v5, rfl, own5, hB5⟩
    have e5 : ([[2], num ls.length] : List (List UInt8)).flatten = 2 :: num ls.length := by simp
    rw [e5] at own5
    have hBb : Below w4.heap.size w4 (w4.alloc (.cells #[.slice (some ⟨w3.heap.size, 0, none⟩) 1 1, .slice A4 (num ls.length).length c4] 30)) := (Below.refl _ w4).alloc (Nat.le_refl _) _
    have hB34 := hBa.trans (hB4.mono hBa.size)
    have hB35 := hB34.trans ((hBb.trans (hB5.mono hBb.size)).mono hB34.size)
    have b5 := b3.below hB35 b3.lt
    have k0 : w5.cell? ⟨w.heap.size, 0, none⟩ = some (.bool false) := by rw [b5.cell]; rfl
    have k3 : w5.cell? ⟨w.heap.size, 3, none⟩ = some (.slice Ai kids.length ci) := by rw [b5.cell]; rfl
    obtain ⟨g5, cap5, rfl, hg5, hg5l, hc5⟩ := own5.at_ (by simp)
    have hg5' : w3.heap.size ≤ g5 := Nat.le_trans (Nat.le_trans hB34.size hBb.size) hg5
    have hB05 := (hB.trans (hB03.mono hB.size)).trans (hB35.mono (hB.trans (hB03.mono hB.size)).size)
    obtain ⟨gi, oi, rfl, hgi, _⟩ := h1.i.lies hq2
    have d0 : w5.cell? ⟨gi, oi, none⟩ = some (.int .i64 (q : Int)) := by
      have h2 := int_at h1.i rfl 0 hq2
      rw [hqk] at h2
      have hB15 := hB03.trans (hB35.mono hB03.size)
      exact (hB15.cell (p := ⟨gi, oi, none⟩) hgi).trans h2
    have hl1 : (1 : Int) ≤ (kids.length : Int) := by omega
    have hl0 : (0 : Int) < (kids.length : Int) := by omega
    have e0 : kids.getD 0 0 = (q : Int) := by rw [List.getD_eq_getElem?_getD, List.getElem?_eq_getElem hq2, Option.getD_some, hqk]
    have HQK := Lib.hid hqk
    have hnq := num_length q
    clear e0 hqk
    obtain ⟨A5', c5', e5', hin5⟩ := own5.inB
    injection e5' with e51 e52 e53
    subst e51 e53
    go_wp2_with fail
    refine (number12_gives _ q (by omega)).mono ?_
    rintro e wa ⟨va, rfl, owna, hBA⟩
    obtain ⟨Aa, ca, rfl, hina⟩ := owna.inB
    go_wp2_with fail
    refine (join2 hin5 hina hBA rfl (by simp only [List.flatten_cons, List.flatten_nil, List.append_nil, List.length_append, List.length_cons]; omega)).mono ?_
    rintro e wb ⟨vb, rfl, ownb, hBB⟩
    have eb : ([(2 :: num ls.length : List UInt8), num q] : List (List UInt8)).flatten = 2 :: (num ls.length ++ num q) := by simp
    obtain ⟨HD, hHD⟩ : ∃ HD : List UInt8, HD = 2 :: (num ls.length ++ num q) := ⟨_, rfl⟩
    rw [eb, ← hHD] at ownb
    have hHL : HD.length ≤ 21 := by rw [hHD]; simp; omega
    have hHP : 0 < HD.length := by rw [hHD]; simp
    have HHD := Lib.hid hHD
    clear hHD
    have hBx : Below wa.heap.size wa (wa.alloc (.cells #[.slice (some ⟨g5, 0, none⟩) (2 :: num ls.length : List UInt8).length cap5, .slice Aa (num q).length ca] 30)) := (Below.refl _ wa).alloc (Nat.le_refl _) _
    have hB5a := hBA.trans ((hBx.trans (hBB.mono hBx.size)).mono hBA.size)
    have hB6 := hB35.trans (hB5a.mono hB35.size)
    have hB06 := hB05.trans (hB5a.mono hB05.size)
    obtain ⟨gq, capq, rfl, hgq, hgql, hcq⟩ := ownb.at_ hHP
    have own6 := ownb
    go_wp2_with fail
    have HJ := joinedR_gives (hL3.grow hB6) (by rw [HFL.out]; omega)
    rw [HFL.out] at HJ
    refine HJ.mono ?_
    rintro e w7 ⟨v7, rfl, own7, hB7⟩
    obtain ⟨A7, c7, rfl, hin7⟩ := own7.inB
    obtain ⟨A6, c6, e6', hin6⟩ := own6.inB
    injection e6' with e61 e62 e63
    subst e61 e63
    go_wp2_with fail
    refine (join2 hin6 hin7 hB7 rfl (by simp only [List.flatten_cons, List.flatten_nil, List.append_nil, List.length_append, List.length_cons]; omega)).mono ?_
    rintro e w8 ⟨v8, rfl, own8, hB8⟩
    have hBc : Below w7.heap.size w7 (w7.alloc (.cells #[.slice (some ⟨gq, 0, none⟩) (HD).length capq, .slice A7 fl.length c7] 30)) := (Below.refl _ w7).alloc (Nat.le_refl _) _
    have hB07 := hB06.trans (hB7.mono hB06.size)
    have hB08 := hB07.trans ((hBc.trans (hB8.mono hBc.size)).mono hB07.size)
    have e8 : ([HD, fl] : List (List UInt8)).flatten = 2 :: (num ls.length ++ (num q ++ fl)) := by rw [HHD.out]; simp
    rw [e8] at own8
    go_wp2
    go_ret
    refine ⟨v8, rfl, ?_, hB08⟩
    have ek : kids[0].toNat = q := by rw [HQK.out]; rfl
    rw [ek]
    exact OwnB.base own8 (Nat.le_trans hB07.size hBc.size)
end Go.Proofs.Ytlelckdcmlpmdaa
/- node.caught where nothing was given up; node.Bytes. -/
namespace Go.Proofs.Ytlelckdcmlpmdaa
open Go Go.RowKit Lou

set_option maxHeartbeats 1000000 in
theorem caught_idle (p f : Value) (w : World) :
    CallsD Try.prog 113 #[p, f] .returning w fun e u' w' => e = .returned (.tuple #[]) ∧ u' = .returning ∧ w' = w := by
  refine callsD_of_wpS Try.func113 rfl fun c₀ cs hu => ?_
  apply wpS_seq
  apply wpS_region
  simp [wpOpsS, go_sem, recoverD, hu, Try.ntmps113, Exit.thenS]
  apply wpS_seq
  apply wpS_region
  simp [wpOpsS, go_sem, Exit.thenS]
  refine wpS_cond (t := false) (by simp [Act.eval, Array.replicate]) ?_
  simp only [Bool.false_eq_true, if_false]
  refine wpS_of_wp (wp_skip ?_)
  cases c₀
  simp_all [bodyPostS, results, Try.results113]
set_option maxRecDepth 100000 in
set_option maxHeartbeats 2000000 in
theorem bytes_ok (w : World) (x : Nod) (Ac : Option Addr) (cc : Nat) (Ak : Option Addr) (ck : Nat) (Ai : Option Addr) (ci : Nat) (h : NIs w w.heap.size x Ac cc Ak ck Ai ci) (hl : x.cells.length ≤ 1000) (hl2 : x.keys.length ≤ 1000) (hl3 : x.kids.length ≤ 1001) (hR : RightP x) :
    Calls Try.prog 53 #[.agg (nodC x Ac cc Ak ck Ai ci)] w fun e w' => e = .returned (.tuple #[.int .i64 ((laidB x).length : Int), .int .i64 0]) ∧ Below w.heap.size w w' := by
  have HL : ∀ W, Below w.heap.size w W → Calls Try.prog 116 #[.agg (nodC x Ac cc Ak ck Ai ci)] W (GivesB W (laidB x)) := fun W hW => laid_gives W x Ac cc Ak ck Ai ci (h.grow hW) hl hl2 hl3 hR
  generalize laidB x = lb at *
  have b0 := BlkIs.new w 76 (nodC x Ac cc Ak ck Ai ci)
  have hmf : ∀ (fn : Fn) (first cap : Array Value) (w : World), (Instr.makeFunc fn first cap).run Try.prog w = .ok (.func fn first cap) w := fun _ _ _ _ => rfl
  unfold nodC at *
  obtain ⟨W1, hW1⟩ : ∃ W1, W1 = ((w.alloc (.cells #[.bool x.leaf, .slice Ac x.cells.length cc, .slice Ak x.keys.length ck, .slice Ai x.kids.length ci] 76)).alloc (.cells #[.int .i64 0] 3)).alloc (.cells #[.int .i64 0] 27) := ⟨_, rfl⟩
  have b1 : BlkIs W1 w.heap.size 76 #[.bool x.leaf, .slice Ac x.cells.length cc, .slice Ak x.keys.length ck, .slice Ai x.kids.length ci] := by rw [hW1]; exact (b0.alloc _).alloc _
  have b2 : BlkIs W1 (w.heap.size + 1) 3 #[.int .i64 0] := by
    have := BlkIs.new (w.alloc (.cells #[.bool x.leaf, .slice Ac x.cells.length cc, .slice Ak x.keys.length ck, .slice Ai x.kids.length ci] 76)) 3 #[.int .i64 0]
    rw [World.size_alloc] at this
    rw [hW1]
    exact this.alloc _
  have b3 : BlkIs W1 (w.heap.size + 1 + 1) 27 #[.int .i64 0] := by
    have := BlkIs.new ((w.alloc (.cells #[.bool x.leaf, .slice Ac x.cells.length cc, .slice Ak x.keys.length ck, .slice Ai x.kids.length ci] 76)).alloc (.cells #[.int .i64 0] 3)) 27 #[.int .i64 0]
    rw [World.size_alloc, World.size_alloc] at this
    rw [hW1]
    exact this
  have hB1 : Below w.heap.size w W1 := by rw [hW1]; exact (((Below.refl _ w).alloc (Nat.le_refl _) _).alloc (by simp) _).alloc (by simp; omega) _
  have HW1 := Lib.hid hW1
  clear hW1 b0
  go_enter_defers Try.func53, Try.ntmps53
  go_wp2_with (first
    | (rw [← HW1.out]; refine wp_loadW rfl 76 (.tmp 1) rfl w.heap.size rfl rowNod b1 (by rfl) ?_)
    | (go_at_call 116; refine (HL _ hB1).mono ?_; rintro e w2 ⟨v, rfl, own, hB2⟩; obtain ⟨A2, c2, rfl, hin2⟩ := own.inB; have b22 := b2.below hB2 b2.lt; have b32 := b3.below hB2 b3.lt; have k2 := b22.boxed; have k3 := b32.boxed; have f2 := b22.free 0; have f3 := b32.free 0))
  refine leaves_cons (f := 113) (args := #[.pointer (some ⟨w.heap.size + 1 + 1, 0, none⟩), .func (.func 121) #[] #[.pointer (some ⟨w.heap.size + 1, 0, none⟩)]]) (by simp) (by simp [go_sem]) ?_
  refine (caught_idle _ _ _).mono ?_
  rintro e u' w'' ⟨rfl, rfl, rfl⟩
  have q2 : ((w2.setCell ⟨w.heap.size + 1, 0, none⟩ (.int .i64 (lb.length : Int))).setCell ⟨w.heap.size + 1 + 1, 0, none⟩ (.int .i64 0)).cell? ⟨w.heap.size + 1, 0, none⟩ = some (.int .i64 (lb.length : Int)) := ((b22.set 0 _).other (p := ⟨w.heap.size + 1 + 1, 0, none⟩) (by simp) _).boxed
  have q3 : ((w2.setCell ⟨w.heap.size + 1, 0, none⟩ (.int .i64 (lb.length : Int))).setCell ⟨w.heap.size + 1 + 1, 0, none⟩ (.int .i64 0)).cell? ⟨w.heap.size + 1 + 1, 0, none⟩ = some (.int .i64 0) := ((b32.other (p := ⟨w.heap.size + 1, 0, none⟩) (by simp) _).set 0 _).boxed
  have hBf : Below w.heap.size w ((w2.setCell ⟨w.heap.size + 1, 0, none⟩ (.int .i64 (lb.length : Int))).setCell ⟨w.heap.size + 1 + 1, 0, none⟩ (.int .i64 0)) := ((hB1.trans (hB2.mono hB1.size)).setCell (by simp) _).setCell (by simp; omega) _
  generalize (w2.setCell ⟨w.heap.size + 1, 0, none⟩ (.int .i64 (lb.length : Int))).setCell ⟨w.heap.size + 1 + 1, 0, none⟩ (.int .i64 0) = V at *
  simp [Leaves, settle, results, Try.results53, go_sem, q2, q3]
  exact hBf
end Go.Proofs.Ytlelckdcmlpmdaa
/- node.Encode, of a node that may be and fits. -/
namespace Go.Proofs.Ytlelckdcmlpmdaa
open Go Go.RowKit Lou

theorem x_makeU (w : World) (n : Nat) (hn : n ≤ 1000000) :
    (Instr.makeSlice 30 (.int .i64 (n : Int)) (.int .i64 (n : Int))).run Try.prog w = .ok (.slice (some ⟨w.heap.size, 0, none⟩) n n) (w.alloc (.cells ((List.replicate n (0 : UInt8)).map b8).toArray 5)) := by
  have h := run_make_row' (P := Try.prog) 30 5 (.int .u8 0) 1 Try.underlying30 inf_u8 rfl .i64 .i64 n (by omega) (by omega) w
  have e : madeCells #[Value.int .u8 0] n = ((List.replicate n (0 : UInt8)).map b8).toArray := by
    apply Array.toList_inj.1
    rw [toList_madeCells_one]
    simp [b8]
  rw [e] at h
  exact h
/-- A cell of a block older than an own row is written. -/
theorem ownB_set {w : World} {base r : Nat} {v : Value} {l : List UInt8} (h : OwnB w base v l) (hr : r < base) (i : Nat) (u : Value) : OwnB (w.setCell ⟨r, i, none⟩ u) base v l :=
  World.ownsRow.kept h (grownBy_set w r i u) (by
    cases hb : v.ownBlock with
    | none => exact .inl rfl
    | some b => exact .inr (fun e => by injection e with e; have := h.ownGe b hb; omega))
/-- What Encode answers. -/
def EncOut (w : World) (lb : List UInt8) (e : Ending) (w' : World) : Prop := ∃ A c, e = .returned (.tuple #[.slice A 512 c, .int .i64 0]) ∧ InB w' w'.heap.size A c (lb ++ List.replicate (512 - lb.length) 0) ∧ Below w.heap.size w w'
set_option maxRecDepth 100000 in
set_option maxHeartbeats 2000000 in
theorem encode_ok (w : World) (x : Nod) (Ac : Option Addr) (cc : Nat) (Ak : Option Addr) (ck : Nat) (Ai : Option Addr) (ci : Nat) (h : NIs w w.heap.size x Ac cc Ak ck Ai ci) (hl : x.cells.length ≤ 1000) (hl2 : x.keys.length ≤ 1000) (hl3 : x.kids.length ≤ 1001) (hR : RightP x) (hfit : (laidB x).length ≤ 512) :
    Calls Try.prog 109 #[.agg (nodC x Ac cc Ak ck Ai ci)] w (EncOut w (laidB x)) := by
  have HL : ∀ W, Below w.heap.size w W → Calls Try.prog 116 #[.agg (nodC x Ac cc Ak ck Ai ci)] W (GivesB W (laidB x)) := fun W hW => laid_gives W x Ac cc Ak ck Ai ci (h.grow hW) hl hl2 hl3 hR
  generalize laidB x = lb at *
  have b0 := BlkIs.new w 76 (nodC x Ac cc Ak ck Ai ci)
  have hmf : ∀ (fn : Fn) (first cap : Array Value) (w : World), (Instr.makeFunc fn first cap).run Try.prog w = .ok (.func fn first cap) w := fun _ _ _ _ => rfl
  unfold nodC at *
  obtain ⟨W1, hW1⟩ : ∃ W1, W1 = ((w.alloc (.cells #[.bool x.leaf, .slice Ac x.cells.length cc, .slice Ak x.keys.length ck, .slice Ai x.kids.length ci] 76)).alloc (.cells #[.slice none 0 0] 30)).alloc (.cells #[.int .i64 0] 27) := ⟨_, rfl⟩
  have b1 : BlkIs W1 w.heap.size 76 #[.bool x.leaf, .slice Ac x.cells.length cc, .slice Ak x.keys.length ck, .slice Ai x.kids.length ci] := by rw [hW1]; exact (b0.alloc _).alloc _
  have b2 : BlkIs W1 (w.heap.size + 1) 30 #[.slice none 0 0] := by
    have := BlkIs.new (w.alloc (.cells #[.bool x.leaf, .slice Ac x.cells.length cc, .slice Ak x.keys.length ck, .slice Ai x.kids.length ci] 76)) 30 #[.slice none 0 0]
    rw [World.size_alloc] at this
    rw [hW1]
    exact this.alloc _
  have b3 : BlkIs W1 (w.heap.size + 1 + 1) 27 #[.int .i64 0] := by
    have := BlkIs.new ((w.alloc (.cells #[.bool x.leaf, .slice Ac x.cells.length cc, .slice Ak x.keys.length ck, .slice Ai x.kids.length ci] 76)).alloc (.cells #[.slice none 0 0] 30)) 27 #[.int .i64 0]
    rw [World.size_alloc, World.size_alloc] at this
    rw [hW1]
    exact this
  have hB1 : Below w.heap.size w W1 := by rw [hW1]; exact (((Below.refl _ w).alloc (Nat.le_refl _) _).alloc (by simp) _).alloc (by simp; omega) _
  have HW1 := Lib.hid hW1
  clear hW1 b0
  go_enter_defers Try.func109, Try.ntmps109
  have hle : (lb.length : Int) ≤ 512 := by omega
  have hsub : IntKind.i64.wrap (512 - (lb.length : Int)) = ((512 - lb.length : Nat) : Int) := by rw [wrapN _ (by omega) (by omega)]; omega
  go_wp2_with (first
    | (rw [← HW1.out]; refine wp_loadW rfl 76 (.tmp 1) rfl w.heap.size rfl rowNod b1 (by rfl) ?_)
    | (go_at_call 116; refine (HL _ hB1).mono ?_; rintro e w2 ⟨v, rfl, own, hB2⟩; obtain ⟨A2, c2, rfl, hin2⟩ := own.inB; have b22 := b2.below hB2 b2.lt; have b32 := b3.below hB2 b3.lt; have k2 := b22.boxed; have k3 := b32.boxed; have f2 := b22.free 0; have f3 := b32.free 0)
    | (go_at_call 115; refine (must_ok _ _).mono ?_; rintro e w7 ⟨⟨v7, rfl⟩, rfl⟩))
  have hs1 : W1.heap.size = w.heap.size + 3 := by rw [HW1.out, World.size_alloc, World.size_alloc, World.size_alloc]
  have hB2' := hB1.trans (hB2.mono hB1.size)
  have own2 : OwnB (w2.setCell ⟨w.heap.size + 1, 0, none⟩ (.slice A2 lb.length c2)) W1.heap.size (.slice A2 lb.length c2) lb :=
    ownB_set own (by omega) 0 _
  have v2 := b22.set 0 (.slice A2 lb.length c2)
  have v3 := b32.other (p := ⟨w.heap.size + 1, 0, none⟩) (by simp) (.slice A2 lb.length c2)
  have hBV : Below w.heap.size w (w2.setCell ⟨w.heap.size + 1, 0, none⟩ (.slice A2 lb.length c2)) := hB2'.setCell (by simp) _
  generalize w2.setCell ⟨w.heap.size + 1, 0, none⟩ (.slice A2 lb.length c2) = V at *
  obtain ⟨A2', c2', e2', hinV⟩ := own2.inB
  injection e2' with e21 e22 e23
  subst e21 e23
  obtain ⟨m, hm⟩ : ∃ m, m = 512 - lb.length := ⟨_, rfl⟩
  rw [← hm] at hsub
  have hS : ∀ W, Below V.heap.size V W → W.cell? ⟨w.heap.size + 1, 0, none⟩ = some (.slice A2 lb.length c2) ∧ W.cell? ⟨w.heap.size + 1 + 1, 0, none⟩ = some (.int .i64 0) ∧ W.frozen? ⟨w.heap.size + 1, 0, none⟩ = false ∧ W.frozen? ⟨w.heap.size + 1 + 1, 0, none⟩ = false := fun W hW => by
    have x2 := v2.below hW v2.lt
    have x3 := v3.below hW v3.lt
    exact ⟨by rw [x2.cell]; rfl, by rw [x3.cell]; rfl, x2.free 0, x3.free 0⟩
  have hBd : Below V.heap.size V V.drew := (Below.refl _ V).drew
  have qd := hS _ hBd
  obtain ⟨W5, hW5⟩ : ∃ W5, W5 = V.drew.alloc (.cells ((List.replicate m (0 : UInt8)).map b8).toArray 5) := ⟨_, rfl⟩
  have hB5 : Below V.heap.size V W5 := by rw [hW5]; exact hBd.alloc hBd.size _
  have q5 := hS _ hB5
  have hin5 : InB W5 W5.heap.size (some ⟨V.heap.size, 0, none⟩) (List.replicate m (0 : UInt8)).length (List.replicate m (0 : UInt8)) := by
    have h := (BlkIs.new V.drew 5 ((List.replicate m (0 : UInt8)).map b8).toArray).inB (l := List.replicate m (0 : UInt8)) W5.heap.size (by rw [hW5, World.size_alloc]; exact Nat.lt_succ_self _) (by simp; omega)
    rw [← hW5] at h
    exact h
  have HJ := join2 (hinV.drew) hin5 (by rw [hW5]; exact (Below.refl _ V.drew).alloc (Nat.le_refl _) _) (show [lb, List.replicate m (0 : UInt8)].flatten = lb ++ List.replicate m 0 by simp) (by simp; omega)
  rw [List.length_replicate] at HJ hin5
  have hfl : (lb ++ List.replicate m (0 : UInt8)).length = 512 := by rw [List.length_append, List.length_replicate]; omega
  have HFU : Hid (lb ++ List.replicate (512 - lb.length) (0 : UInt8) = lb ++ List.replicate m (0 : UInt8)) := Lib.hid (by rw [← hm])
  generalize lb ++ List.replicate m (0 : UInt8) = full at *
  have hmk := x_makeU V.drew m (by omega)
  rw [← hW5] at hmk
  have hsz : V.drew.heap.size = V.heap.size := rfl
  rw [hsz] at hmk
  have HFL := Lib.hid hfl
  have HW5 := Lib.hid hW5
  have HM := Lib.hid hm
  have hB6 := hB5.alloc hB5.size (.cells #[.slice A2 lb.length c2, .slice (some ⟨V.heap.size, 0, none⟩) m m] 30)
  have q6 := hS _ hB6
  clear hW5 hm hsz hfl
  obtain ⟨d1, d2, d3, d4⟩ := qd
  obtain ⟨c1, c2', c3, c4⟩ := q5
  obtain ⟨r1, r2, r3, r4⟩ := q6
  refine wp_region_noPanic ?_
  go_region_law (first
    | (go_at_call 167; refine HJ.mono ?_; rintro e W7 ⟨v7, rfl, own7, hB7⟩; obtain ⟨y1, y2, y3, y4⟩ := hS _ (hB6.trans (hB7.mono hB6.size)); obtain ⟨A7, c7, rfl, hin7⟩ := own7.inB)
    | (go_simp; go_at_call 167; refine HJ.mono ?_; rintro e W7 ⟨v7, rfl, own7, hB7⟩; obtain ⟨y1, y2, y3, y4⟩ := hS _ (hB6.trans (hB7.mono hB6.size)); obtain ⟨A7, c7, rfl, hin7⟩ := own7.inB))
  all_goals
    refine NoPanic.normal ?_
    go_wp2
    refine leaves_cons (f := 113) (args := #[.pointer (some ⟨w.heap.size + 1 + 1, 0, none⟩), .func (.func 166) #[] #[.pointer (some ⟨w.heap.size + 1, 0, none⟩)]]) (by simp) (by simp [go_sem]) ?_
    refine (caught_idle _ _ _).mono ?_
    rintro e u' w'' ⟨rfl, rfl, rfl⟩
    have hB07 := hB6.trans (hB7.mono hB6.size)
    have z2 := v2.below hB07 v2.lt
    have z3 := v3.below hB07 v3.lt
    have q2 : ((W7.setCell ⟨w.heap.size + 1, 0, none⟩ (.slice A7 full.length c7)).setCell ⟨w.heap.size + 1 + 1, 0, none⟩ (.int .i64 0)).cell? ⟨w.heap.size + 1, 0, none⟩ = some (.slice A7 full.length c7) := ((z2.set 0 _).other (p := ⟨w.heap.size + 1 + 1, 0, none⟩) (by simp) _).boxed
    have q3 : ((W7.setCell ⟨w.heap.size + 1, 0, none⟩ (.slice A7 full.length c7)).setCell ⟨w.heap.size + 1 + 1, 0, none⟩ (.int .i64 0)).cell? ⟨w.heap.size + 1 + 1, 0, none⟩ = some (.int .i64 0) := ((z3.other (p := ⟨w.heap.size + 1, 0, none⟩) (by simp) _).set 0 _).boxed
    have hle : W1.heap.size ≤ V.heap.size := by have := v3.lt; omega
    have hsz : V.heap.size ≤ (W5.alloc (.cells #[.slice A2 lb.length c2, .slice (some ⟨V.heap.size, 0, none⟩) m m] 30)).heap.size := hB6.size
    have ownF : OwnB ((W7.setCell ⟨w.heap.size + 1, 0, none⟩ (.slice A7 full.length c7)).setCell ⟨w.heap.size + 1 + 1, 0, none⟩ (.int .i64 0)) (W5.alloc (.cells #[.slice A2 lb.length c2, .slice (some ⟨V.heap.size, 0, none⟩) m m] 30)).heap.size (.slice A7 full.length c7) full :=
      ownB_set (ownB_set own7 (by omega) 0 _) (by omega) 0 _
    have hBf : Below w.heap.size w ((W7.setCell ⟨w.heap.size + 1, 0, none⟩ (.slice A7 full.length c7)).setCell ⟨w.heap.size + 1 + 1, 0, none⟩ (.int .i64 0)) := ((hBV.trans (hB07.mono hBV.size)).setCell (by simp) _).setCell (by simp; omega) _
    obtain ⟨A9, c9, e9, hin9⟩ := ownF.inB
    injection e9 with e91 e92 e93
    subst e91 e93
    generalize (W7.setCell ⟨w.heap.size + 1, 0, none⟩ (.slice A7 full.length c7)).setCell ⟨w.heap.size + 1 + 1, 0, none⟩ (.int .i64 0) = Z at *
    simp [Leaves, settle, results, Try.results109, go_sem, q2, q3]
    rw [HFL.out]
    exact ⟨A7, c7, rfl, by rw [HFU.out]; exact hin9, hBf⟩
end Go.Proofs.Ytlelckdcmlpmdaa
/- node.must where it gives up; node.caught where something was given up. -/
namespace Go.Proofs.Ytlelckdcmlpmdaa
open Go Go.RowKit Lou

/-- What was given up: the reason. -/
def gave (e : Int) (r : Bool) : PanicEntry := { v := .iface 27 (.int .i64 e), recovered := r }
set_option maxHeartbeats 1000000 in
theorem must_no (w : World) (e : Int) : Calls Try.prog 115 #[.bool false, .int .i64 e] w fun e' w' => e' = .panicked [gave e false] ∧ w = w' := by
  go_enter Try.func115, Try.ntmps115
  go_wp2
  exact ⟨rfl, rfl, rfl⟩
set_option maxHeartbeats 1000000 in
theorem bytes1_gives (w : World) (q : Nat) (k0 : Int) (hq : BlkIs w q 3 #[.int .i64 k0]) : Calls Try.prog 121 #[.pointer (some ⟨q, 0, none⟩)] w fun e w' => (∃ v, e = .returned v) ∧ w' = w.setCell ⟨q, 0, none⟩ (.int .i64 0) := by
  have c2 := hq.boxed
  have f2 := hq.free 0
  go_enter Try.func121, Try.ntmps121
  go_wp2
  go_end0
  exact ⟨⟨_, rfl⟩, rfl⟩
set_option maxHeartbeats 1000000 in
theorem encode1_gives (w : World) (q : Nat) (v0 : Value) (hq : BlkIs w q 30 #[v0]) : Calls Try.prog 166 #[.pointer (some ⟨q, 0, none⟩)] w fun e w' => (∃ v, e = .returned v) ∧ w' = w.setCell ⟨q, 0, none⟩ (.slice none 0 0) := by
  have c2 := hq.boxed
  have f2 := hq.free 0
  go_enter Try.func166, Try.ntmps166
  go_wp2
  go_end0
  exact ⟨⟨_, rfl⟩, rfl⟩
@[local go_sem] theorem as_errno (v : Value) (w : World) : (Instr.typeAssert (.iface 27 v) 20 27 false).run Try.prog w = .ok v w := by kernel_rfl
set_option maxRecDepth 100000 in
set_option maxHeartbeats 1000000 in
theorem caught_bytes (p q : Nat) (e : Int) (w : World) (k : Int) (hp : BlkIs w p 27 #[.int .i64 k]) (k0 : Int) (hq : BlkIs w q 3 #[.int .i64 k0]) (hpq : p ≠ q) :
    CallsD Try.prog 113 #[.pointer (some ⟨p, 0, none⟩), .func (.func 121) #[] #[.pointer (some ⟨q, 0, none⟩)]] (.panicking [gave e false]) w fun e' u' w' => e' = .returned (.tuple #[]) ∧ u' = .panicking [gave e true] ∧
      w' = (w.setCell ⟨p, 0, none⟩ (.int .i64 e)).setCell ⟨q, 0, none⟩ (.int .i64 0) := by
  refine callsD_of_wpS Try.func113 rfl fun c₀ cs hu => ?_
  unfold gave at hu
  apply wpS_seq
  apply wpS_region
  simp [wpOpsS, go_sem, recoverD, hu, Try.ntmps113, Exit.thenS]
  refine wpS_of_wp ?_
  simp only [Array.replicate_succ, Array.replicate_zero, List.push_toArray, List.append_toArray, List.nil_append, List.cons_append]
  have c1 := hp.boxed
  have f1 := hp.free 0
  have hq2 := hq.other (p := ⟨p, 0, none⟩) (by simpa using fun h => hpq h.symm) (.int .i64 e)
  have c2 := hq2.boxed
  have f2 := hq2.free 0
  go_wp2_with (go_at_call 121; refine (bytes1_gives _ q k0 hq2).mono ?_; rintro e1 w1 ⟨⟨v1, rfl⟩, rfl⟩)
  refine ⟨rfl, _, rfl, _, results_none rfl _ _ _, rfl, rfl, rfl⟩
set_option maxRecDepth 100000 in
set_option maxHeartbeats 1000000 in
theorem caught_encode (p q : Nat) (e : Int) (w : World) (k : Int) (hp : BlkIs w p 27 #[.int .i64 k]) (v0 : Value) (hq : BlkIs w q 30 #[v0]) (hpq : p ≠ q) :
    CallsD Try.prog 113 #[.pointer (some ⟨p, 0, none⟩), .func (.func 166) #[] #[.pointer (some ⟨q, 0, none⟩)]] (.panicking [gave e false]) w fun e' u' w' => e' = .returned (.tuple #[]) ∧ u' = .panicking [gave e true] ∧
      w' = (w.setCell ⟨p, 0, none⟩ (.int .i64 e)).setCell ⟨q, 0, none⟩ (.slice none 0 0) := by
  refine callsD_of_wpS Try.func113 rfl fun c₀ cs hu => ?_
  unfold gave at hu
  apply wpS_seq
  apply wpS_region
  simp [wpOpsS, go_sem, recoverD, hu, Try.ntmps113, Exit.thenS]
  refine wpS_of_wp ?_
  simp only [Array.replicate_succ, Array.replicate_zero, List.push_toArray, List.append_toArray, List.nil_append, List.cons_append]
  have c1 := hp.boxed
  have f1 := hp.free 0
  have hq2 := hq.other (p := ⟨p, 0, none⟩) (by simpa using fun h => hpq h.symm) (.int .i64 e)
  have c2 := hq2.boxed
  have f2 := hq2.free 0
  go_wp2_with (go_at_call 166; refine (encode1_gives _ q v0 hq2).mono ?_; rintro e1 w1 ⟨⟨v1, rfl⟩, rfl⟩)
  refine ⟨rfl, _, rfl, _, results_none rfl _ _ _, rfl, rfl, rfl⟩
end Go.Proofs.Ytlelckdcmlpmdaa
/- Where node.laid gives up: Bytes, Fits. -/
namespace Go.Proofs.Ytlelckdcmlpmdaa
open Go Go.RowKit Lou

/-- A reason was given up. -/
def GaveOut (w : World) (e0 : Int) (e : Ending) (w' : World) : Prop := e = .panicked [gave e0 false] ∧ Below w.heap.size w w'
set_option maxRecDepth 100000 in
set_option maxHeartbeats 2000000 in
theorem bytes_bad (w : World) (x : Nod) (Ac : Option Addr) (cc : Nat) (Ak : Option Addr) (ck : Nat) (Ai : Option Addr) (ci : Nat) (h : NIs w w.heap.size x Ac cc Ak ck Ai ci) (e0 : Int) (HL : ∀ W, Below w.heap.size w W → Calls Try.prog 116 #[.agg (nodC x Ac cc Ak ck Ai ci)] W (GaveOut W e0)) :
    Calls Try.prog 53 #[.agg (nodC x Ac cc Ak ck Ai ci)] w fun e w' => e = .returned (.tuple #[.int .i64 0, .int .i64 e0]) ∧ Below w.heap.size w w' := by
  unfold GaveOut at HL
  have b0 := BlkIs.new w 76 (nodC x Ac cc Ak ck Ai ci)
  have hmf : ∀ (fn : Fn) (first cap : Array Value) (w : World), (Instr.makeFunc fn first cap).run Try.prog w = .ok (.func fn first cap) w := fun _ _ _ _ => rfl
  unfold nodC at *
  obtain ⟨W1, hW1⟩ : ∃ W1, W1 = ((w.alloc (.cells #[.bool x.leaf, .slice Ac x.cells.length cc, .slice Ak x.keys.length ck, .slice Ai x.kids.length ci] 76)).alloc (.cells #[.int .i64 0] 3)).alloc (.cells #[.int .i64 0] 27) := ⟨_, rfl⟩
  have b1 : BlkIs W1 w.heap.size 76 #[.bool x.leaf, .slice Ac x.cells.length cc, .slice Ak x.keys.length ck, .slice Ai x.kids.length ci] := by rw [hW1]; exact (b0.alloc _).alloc _
  have b2 : BlkIs W1 (w.heap.size + 1) 3 #[.int .i64 0] := by
    have := BlkIs.new (w.alloc (.cells #[.bool x.leaf, .slice Ac x.cells.length cc, .slice Ak x.keys.length ck, .slice Ai x.kids.length ci] 76)) 3 #[.int .i64 0]
    rw [World.size_alloc] at this
    rw [hW1]
    exact this.alloc _
  have b3 : BlkIs W1 (w.heap.size + 1 + 1) 27 #[.int .i64 0] := by
    have := BlkIs.new ((w.alloc (.cells #[.bool x.leaf, .slice Ac x.cells.length cc, .slice Ak x.keys.length ck, .slice Ai x.kids.length ci] 76)).alloc (.cells #[.int .i64 0] 3)) 27 #[.int .i64 0]
    rw [World.size_alloc, World.size_alloc] at this
    rw [hW1]
    exact this
  have hB1 : Below w.heap.size w W1 := by rw [hW1]; exact (((Below.refl _ w).alloc (Nat.le_refl _) _).alloc (by simp) _).alloc (by simp; omega) _
  have HW1 := Lib.hid hW1
  clear hW1 b0
  go_enter_defers Try.func53, Try.ntmps53
  go_wp2_with (first
    | (rw [← HW1.out]; refine wp_loadW rfl 76 (.tmp 1) rfl w.heap.size rfl rowNod b1 (by rfl) ?_)
    | (go_at_call 116; refine (HL _ hB1).mono ?_; rintro e w2 ⟨rfl, hB2⟩; have b22 := b2.below hB2 b2.lt; have b32 := b3.below hB2 b3.lt))
  refine leaves_cons (f := 113) (args := #[.pointer (some ⟨w.heap.size + 1 + 1, 0, none⟩), .func (.func 121) #[] #[.pointer (some ⟨w.heap.size + 1, 0, none⟩)]]) (by simp) (by simp [go_sem]) ?_
  refine (caught_bytes _ _ e0 _ _ b32 _ b22 (by omega)).mono ?_
  rintro e u' w'' ⟨rfl, rfl, rfl⟩
  have q2 : ((w2.setCell ⟨w.heap.size + 1 + 1, 0, none⟩ (.int .i64 e0)).setCell ⟨w.heap.size + 1, 0, none⟩ (.int .i64 0)).cell? ⟨w.heap.size + 1, 0, none⟩ = some (.int .i64 0) := ((b22.other (p := ⟨w.heap.size + 1 + 1, 0, none⟩) (by simp) _).set 0 _).boxed
  have q3 : ((w2.setCell ⟨w.heap.size + 1 + 1, 0, none⟩ (.int .i64 e0)).setCell ⟨w.heap.size + 1, 0, none⟩ (.int .i64 0)).cell? ⟨w.heap.size + 1 + 1, 0, none⟩ = some (.int .i64 e0) := ((b32.set 0 _).other (p := ⟨w.heap.size + 1, 0, none⟩) (by simp) _).boxed
  have hBf : Below w.heap.size w ((w2.setCell ⟨w.heap.size + 1 + 1, 0, none⟩ (.int .i64 e0)).setCell ⟨w.heap.size + 1, 0, none⟩ (.int .i64 0)) := ((hB1.trans (hB2.mono hB1.size)).setCell (by simp; omega) _).setCell (by simp) _
  generalize (w2.setCell ⟨w.heap.size + 1 + 1, 0, none⟩ (.int .i64 e0)).setCell ⟨w.heap.size + 1, 0, none⟩ (.int .i64 0) = V at *
  simp [Leaves, settle, gave, results, Try.results53, go_sem, q2, q3]
  exact hBf
end Go.Proofs.Ytlelckdcmlpmdaa
/- slices.Compact over strings two of which, side by side, are the same: what comes back is shorter. -/
namespace Go.Proofs.Ytlelckdcmlpmdaa
open Go Go.RowKit Lou

theorem sameB {a b : ByteArray} (h : a.toList = b.toList) : a = b := by
  rw [ByteArray.toList_eq, ByteArray.toList_eq] at h
  exact ByteArray.ext (Array.toList_inj.1 h)
theorem setCells_grownBy (g : Nat) : ∀ (vs : List Value) (o : Nat) (w : World), w.grownBy (w.setCells g o vs) (some g)
  | [], _, _ => ⟨rfl, rfl, rfl, Nat.le_refl _, fun _ _ _ => rfl⟩
  | v :: vs, o, w => by
    have h1 := grownBy_set w g o v
    have h2 := setCells_grownBy g vs (o + 1) (w.setCell ⟨g, o, none⟩ v)
    exact ⟨h2.os.trans h1.os, h2.tape.trans h1.tape, h2.output.trans h1.output, Nat.le_trans h1.size h2.size, fun k hk hne => (h2.block k (Nat.lt_of_lt_of_le hk h1.size) hne).trans (h1.block k hk hne)⟩
/-- A row of strings, whatever they are. -/
def StrRow (w : World) (g o n : Nat) : Prop := ∀ j, j < n → (∃ s, w.cell? ⟨g, o + j, none⟩ = some (.string s)) ∧ w.frozen? ⟨g, o + j, none⟩ = false
theorem StrRow.drew {w : World} {g o n : Nat} (h : StrRow w g o n) : StrRow w.drew g o n := h
theorem StrRow.set {w : World} {g o n : Nat} (h : StrRow w g o n) (i : Nat) (s : ByteArray) : StrRow (w.setCell ⟨g, i, none⟩ (.string s)) g o n := fun j hj => by
  obtain ⟨⟨s0, h1⟩, h2⟩ := h j hj
  refine ⟨?_, by simpa [go_sem] using h2⟩
  by_cases e : i = o + j
  · subst e
    exact ⟨s, by simp [go_sem, h1]⟩
  · exact ⟨s0, by simp [go_sem, h1, e]⟩
theorem below_grownB {w w' : World} (h : Below w.heap.size w w') (r : Nat) : w.grownBy w' (some r) := ⟨h.os, h.tape, h.output, h.size, fun k hk _ => h.block k hk⟩
theorem grownB_trans {a b c : World} {row : Option Nat} (h1 : a.grownBy b row) (h2 : b.grownBy c row) : a.grownBy c row :=
  ⟨h2.os.trans h1.os, h2.tape.trans h1.tape, h2.output.trans h1.output, Nat.le_trans h1.size h2.size, fun k hk hne => (h2.block k (Nat.lt_of_lt_of_le hk h1.size) hne).trans (h1.block k hk hne)⟩
def LessOut (w : World) (g o c n : Nat) (e : Ending) (w' : World) : Prop := ∃ m, m < n ∧ e = .returned (.slice (some ⟨g, o, none⟩) m c) ∧ w.grownBy w' (some g)
set_option maxRecDepth 100000 in
set_option maxHeartbeats 4000000 in
theorem compact_less (w : World) (B g o c : Nat) (l : List ByteArray) (h : InG w B 1 (some ⟨g, o, none⟩) l.length c (skC l)) (hB0 : B ≤ w.heap.size) (hg : g < B) (hfr : ∀ j, j < l.length → w.frozen? ⟨g, o + j, none⟩ = false) (hl : l.length ≤ 1000000) (hn : ¬ ApartS l) :
    Calls Try.prog 194 #[.slice (some ⟨g, o, none⟩) l.length c] w (LessOut w g o c l.length) := by
  have hle := h.le
  have hmx := h.max
  have h2 : ¬ l.length < 2 := fun h2 => hn (fun j hj => by omega)
  have h2' : ¬ (l.length : Int) < 2 := by omega
  have HN := Lib.hid hn
  clear hn
  unfold LessOut
  go_enter Try.func194, Try.ntmps194
  go_wp2
  go_loopw [3] (fun i wr => ∃ (k m : Nat), i = .int .i64 m ∧ m = k + 1 ∧ m ≤ l.length ∧ Below w.heap.size w wr ∧ ∀ j, (h : j + 1 < l.length) → j < k → (l[j + 1].toList == l[j].toList) = false) (fun i _ => l.length - (intOf i).toNat)
  case atStart => exact ⟨0, 1, rfl, rfl, by omega, Below.refl _ _, fun j _ h => by omega⟩
  case round =>
    obtain ⟨k, m, rfl, hm, hml, hB, hap⟩ := hrel
    by_cases hlt : m < l.length
    · have hk : k + 1 < l.length := by omega
      have hlie : ∀ j, (hj : j < l.length) → w.cell? ⟨g, o + j, none⟩ = some (.string l[j]) := fun j hj => str_at h rfl j hj
      have hgw : g < w.heap.size := by omega
      have e1 : wr.cell? ⟨g, o + m, none⟩ = some (.string l[k + 1]) := by rw [hm]; exact (hB.cell (p := ⟨g, o + (k + 1), none⟩) hgw).trans (hlie (k + 1) hk)
      have e0 : wr.cell? ⟨g, o + k, none⟩ = some (.string l[k]) := (hB.cell (p := ⟨g, o + k, none⟩) hgw).trans (hlie k (by omega))
      have hrow : StrRow wr g o l.length := fun j hj => ⟨⟨l[j], (hB.cell (p := ⟨g, o + j, none⟩) hgw).trans (hlie j hj)⟩, (hB.frozen (p := ⟨g, o + j, none⟩) hgw).trans (hfr j hj)⟩
      have hap2 : (l[k + 1].toList == l[k].toList) = false → ∀ j, (h : j + 1 < l.length) → j < k + 1 → (l[j + 1].toList == l[j].toList) = false := fun hne j hj hjk => by
        by_cases e : j = k
        · subst e; exact hne
        · exact hap j hj (by omega)
      have hwk : IntKind.i64.wrap ((m : Int) - 1) = (k : Int) := by rw [wrapN _ (by omega) (by omega)]; omega
      have hwm : IntKind.i64.wrap ((m : Int) + 1) = (m : Int) + 1 := wrapN _ (by omega) (by omega)
      have hk0 : (0 : Int) ≤ (m : Int) := by omega
      have hk1 : (m : Int) < (l.length : Int) := by omega
      have hk2 : (0 : Int) ≤ (k : Int) := by omega
      have hk3 : (k : Int) < (l.length : Int) := by omega
      have HM := Lib.hid hm
      have HA := Lib.hid hap2
      have HR := Lib.hid hrow
      generalize l[k + 1] = s1 at *
      generalize l[k] = s0 at *
      have d1 : wr.drew.cell? ⟨g, o + m, none⟩ = some (.string s1) := e1
      have d0 : wr.drew.cell? ⟨g, o + k, none⟩ = some (.string s0) := e0
      clear hm hap hap2 hlie hrow
      by_cases hs : s1 = s0
      · subst hs
        go_wp2
        go_region
        go_wp2
        have hBd := hB.drew
        have hR0 : StrRow wr.drew g o l.length := HR.out
        clear e1 e0 d1 d0 HR HA hwm hwk hB
        generalize wr.drew = W at *
        clear wr
        have hcl' : m ≤ c := by omega
        go_loopw [3, 5] (fun i j wr => ∃ (kk k2 : Nat), i = .int .i64 kk ∧ j = .int .i64 k2 ∧ 1 ≤ k2 ∧ m ≤ kk ∧ kk + 1 ≤ m + k2 ∧ m + k2 ≤ l.length ∧ w.grownBy wr (some g) ∧ StrRow wr g o l.length) (fun _ j _ => l.length - (intOf j).toNat)
        case atStart => exact ⟨m, 1, rfl, rfl, by omega, by omega, by omega, by omega, below_grownB hBd g, hR0⟩
        case round =>
          obtain ⟨kk, k2, rfl, rfl, h21, hkm, hkk, hkl, hgr, hR⟩ := hrel
          by_cases hlt2 : m + k2 < l.length
          · obtain ⟨⟨sa, ea⟩, _⟩ := hR (m + k2) hlt2
            obtain ⟨⟨sb, eb⟩, _⟩ := hR (m + (k2 - 1)) (by omega)
            obtain ⟨⟨so, eo⟩, fo⟩ := hR kk (by omega)
            rw [← Nat.add_assoc] at ea eb
            have hg3 : ((l.length - m : Nat) : Int) = (l.length : Int) - m := by omega
            have hw1 : IntKind.i64.wrap ((k2 : Int) - 1) = ((k2 - 1 : Nat) : Int) := by rw [wrapN _ (by omega) (by omega)]; omega
            have hw2 : IntKind.i64.wrap ((k2 : Int) + 1) = (k2 : Int) + 1 := wrapN _ (by omega) (by omega)
            have hw3 : IntKind.i64.wrap ((kk : Int) + 1) = (kk : Int) + 1 := wrapN _ (by omega) (by omega)
            have i1 : (k2 : Int) < ((l.length - m : Nat) : Int) := by omega
            have i2 : (0 : Int) ≤ ((k2 - 1 : Nat) : Int) := by omega
            have i3 : ((k2 - 1 : Nat) : Int) < ((l.length - m : Nat) : Int) := by omega
            have i4 : (kk : Int) < (l.length : Int) := by omega
            have j1 : k2 < l.length - m := by omega
            have j2 : k2 - 1 < l.length - m := by omega
            have HR := Lib.hid hR
            clear hR
            obtain ⟨q, hq⟩ : ∃ q, q = k2 - 1 := ⟨_, rfl⟩
            rw [← hq] at hw1 i2 i3 eb j2
            have HQ := Lib.hid hq
            clear hq hg3
            have ed : wr.drew.cell? ⟨g, o + m + k2, none⟩ = some (.string sa) := ea
            have ec : wr.drew.cell? ⟨g, o + m + q, none⟩ = some (.string sb) := eb
            by_cases hs2 : sa = sb
            · subst hs2
              go_wp2
              go_region
              go_wp2
              exact ⟨⟨kk, k2 + 1, by simp, by simp, by omega, by omega, by omega, by omega, grownB_trans hgr (below_grownB ((Below.refl _ wr).drew) g), HR.out⟩, by simp [intOf]; omega⟩
            · have hne : (sa.toList == sb.toList) = false := by simpa using fun h => hs2 (sameB h)
              go_wp2
              go_region
              go_wp2
              exact ⟨⟨kk + 1, k2 + 1, by simp, by simp, by omega, by omega, by omega, by omega, grownB_trans hgr (grownB_trans (grownBy_set wr g (o + kk) _) (below_grownB ((Below.refl _ _).drew) g)), (HR.out.set (o + kk) sa).drew⟩, by simp [intOf]; omega⟩
          · obtain rfl : k2 = l.length - m := by omega
            have hcl : ∀ ty, (Builtin.clear_ #[73] ty #[.slice (some ⟨g, o + kk, none⟩) (l.length - kk) (c - kk)]).run Try.prog wr = .ok (.tuple #[]) (wr.setCells g (o + kk) (List.replicate (l.length - kk) (.string ByteArray.empty))) := fun ty =>
              Lib.run_clear_slice wr _ 9 ty (.string ByteArray.empty) Try.underlying73 (fun w => by kernel_rfl) rfl rfl g (o + kk) _ _ (by omega) (fun j hj => by
                obtain ⟨⟨sx, ex⟩, _⟩ := hR (kk + j) (by omega)
                rw [Nat.add_assoc, ex]
                rfl) (fun j hj => by
                obtain ⟨_, fx⟩ := hR (kk + j) (by omega)
                rw [Nat.add_assoc]
                exact fx)
            have hkc : kk ≤ c := by omega
            have hkl2 : kk ≤ l.length := by omega
            have hml2 : kk < l.length := by omega
            have hgf := grownB_trans hgr (setCells_grownBy g (List.replicate (l.length - kk) (.string ByteArray.empty)) (o + kk) wr)
            clear hR
            go_wp2
            go_ret
            exact ⟨kk, hml2, rfl, hgf⟩
      · have hne : (s1.toList == s0.toList) = false := by simpa using fun h => hs (sameB h)
        go_wp2
        go_region
        go_wp2
        exact ⟨⟨k + 1, m + 1, by simp, by rw [HM.out], by omega, hB.drew, HA.out hne⟩, by simp [intOf]; omega⟩
    · exact absurd (fun j hj => hap j hj (by omega)) HN.out
end Go.Proofs.Ytlelckdcmlpmdaa
/- node.check, of a node that may not be: it gives up. -/
namespace Go.Proofs.Ytlelckdcmlpmdaa
open Go Go.RowKit Lou

/-- Where an own row lies. -/
theorem own_row {w : World} {b c : Nat} {A : Option Addr} {l : List ByteArray} (h : w.ownsRow b 9 1 (.slice A l.length c) l.length (skC l)) (h0 : 0 < l.length) : ∃ g, A = some ⟨g, 0, none⟩ ∧ b ≤ g ∧ g < w.heap.size ∧ InG w w.heap.size 1 (some ⟨g, 0, none⟩) l.length c (skC l) ∧ ∀ j, j < l.length → w.frozen? ⟨g, 0 + j, none⟩ = false := by
  rcases h.2 with ⟨e1, e2⟩ | ⟨g, cap, cur, hv, hb, hg, hle, hm, hs, ht⟩
  · omega
  · obtain ⟨A', c', e, hin⟩ := ownG_in h (skC_one l)
    injection hv with hv1 hv2 hv3
    subst hv1 hv3
    injection e with e1 e2 e3
    subst e1 e3
    exact ⟨g, rfl, hb, (Array.getElem?_eq_some_iff.1 hg).1, hin, fun j _ => World.ownsRow.frozenAt (w := w) h (0 + j)⟩
theorem must_gives (w : World) (b : Bool) (n : Int) : Calls Try.prog 115 #[.bool b, .int .i64 n] w fun e w' => w = w' ∧ (b = true → ∃ v, e = .returned v) ∧ (b = false → e = .panicked [gave n false]) := by
  cases b with
  | true => exact (must_ok w n).mono fun e w' h => ⟨h.2, fun _ => h.1, (fun e => by cases e)⟩
  | false => exact (must_no w n).mono fun e w' h => ⟨h.2, (fun e => by cases e), fun _ => h.1⟩
set_option maxRecDepth 100000 in
set_option maxHeartbeats 4000000 in
theorem check_unsorted (w : World) (x : Nod) (Ac : Option Addr) (cc : Nat) (Ak : Option Addr) (ck : Nat) (Ai : Option Addr) (ci : Nat) (h : NIs w w.heap.size x Ac cc Ak ck Ai ci) (hl : x.cells.length ≤ 1000000) (hl2 : x.keys.length ≤ 1000000) (hl3 : x.kids.length ≤ 1000000) (hno : ¬ SortedS (nkeys x)) :
    Calls Try.prog 169 #[.agg (nodC x Ac cc Ak ck Ai ci)] w (GaveOut w 2) := by
  have b0 := BlkIs.new w 76 (nodC x Ac cc Ak ck Ai ci)
  have hB : Below w.heap.size w (w.alloc (.cells (nodC x Ac cc Ak ck Ai ci) 76)) := (Below.refl _ w).alloc (Nat.le_refl _) _
  have h1 := h.grow hB
  have HK := keys_gives _ x Ac cc Ak ck Ai ci h1 hl
  have hln := nkeys_len hl hl2
  generalize nkeys x = ks at *
  have HSO := Lib.hid hno
  clear hno
  unfold GaveOut
  unfold nodC at *
  go_enter Try.func169, Try.ntmps169
  go_wp2_with (first
    | (refine wp_loadW rfl 76 (.tmp 1) rfl w.heap.size rfl rowNod b0 (by rfl) ?_)
    | (go_at_call 110; refine HK.mono ?_; rintro e w2 ⟨A, c, rfl, hin2, hB2⟩)
    | (go_at_call 193; refine (sortedS_gives w2 A c ks hin2 hln).mono ?_; rintro e w3 ⟨r3, rfl, hB3, hr3⟩; obtain rfl : r3 = false := (by cases r3 with | false => rfl | true => exact absurd (hr3.1 rfl) HSO.out); clear hr3)
    | (go_at_call 115; refine (must_gives _ _ _).mono ?_; rintro e w7 ⟨rfl, h7⟩; first | (obtain ⟨v7, rfl⟩ := h7.1 rfl) | (obtain rfl := h7.2 rfl)))
  exact ⟨rfl, rfl, hB.trans ((hB2.trans (hB3.mono hB2.size)).mono hB.size)⟩
set_option maxRecDepth 100000 in
set_option maxHeartbeats 4000000 in
theorem check_same (w : World) (x : Nod) (Ac : Option Addr) (cc : Nat) (Ak : Option Addr) (ck : Nat) (Ai : Option Addr) (ci : Nat) (h : NIs w w.heap.size x Ac cc Ak ck Ai ci) (hl : x.cells.length ≤ 1000000) (hl2 : x.keys.length ≤ 1000000) (hl3 : x.kids.length ≤ 1000000) (hso : SortedS (nkeys x)) (hno : ¬ ApartS (nkeys x)) :
    Calls Try.prog 169 #[.agg (nodC x Ac cc Ak ck Ai ci)] w (GaveOut w 2) := by
  have b0 := BlkIs.new w 76 (nodC x Ac cc Ak ck Ai ci)
  have hB : Below w.heap.size w (w.alloc (.cells (nodC x Ac cc Ak ck Ai ci) 76)) := (Below.refl _ w).alloc (Nat.le_refl _) _
  have h1 := h.grow hB
  have HK := keys_gives _ x Ac cc Ak ck Ai ci h1 hl
  have hln := nkeys_len hl hl2
  generalize nkeys x = ks at *
  have h2 : 0 < ks.length := by
    rcases Nat.eq_zero_or_pos ks.length with e | e
    · exact absurd (fun j hj => by omega) hno
    · exact e
  have HSO := Lib.hid hso
  have HAP := Lib.hid hno
  clear hso hno
  unfold GaveOut
  unfold nodC at *
  go_enter Try.func169, Try.ntmps169
  go_wp2_with (first
    | (refine wp_loadW rfl 76 (.tmp 1) rfl w.heap.size rfl rowNod b0 (by rfl) ?_)
    | (go_at_call 110; refine HK.mono ?_; rintro e w2 ⟨A, c, rfl, hin2, hB2⟩)
    | (go_at_call 193; refine (sortedS_gives w2 A c ks hin2 hln).mono ?_; rintro e w3 ⟨r3, rfl, hB3, hr3⟩; obtain rfl : r3 = true := hr3.2 HSO.out; clear hr3)
    | (go_at_call 111; refine (sclone_gives w3 A c ks (hin2.grow hB3) hln).mono ?_; rintro e w4 ⟨A4, c4, rfl, own4, hB4⟩)
    | (go_at_call 194; obtain ⟨g4, rfl, hg4, hlt4, hin4, hfr4⟩ := own_row own4 h2; refine (compact_less w4 w4.heap.size g4 0 c4 ks hin4 (Nat.le_refl _) hlt4 hfr4 hln HAP.out).mono ?_; rintro e w5 ⟨m5, hm5, rfl, hg5⟩; have hne5 : ¬ (m5 : Int) = (ks.length : Int) := (by omega))
    | (go_at_call 115; refine (must_gives _ _ _).mono ?_; rintro e w7 ⟨rfl, h7⟩; first | (obtain ⟨v7, rfl⟩ := h7.1 rfl) | (obtain rfl := h7.2 rfl)))
  exact ⟨rfl, rfl, hB.trans ((hB2.trans ((hB3.trans ((hB4.trans (grown_below hg5 hB4.size (fun r e => by injection e with e; omega))).mono hB3.size)).mono hB2.size)).mono hB.size)⟩
set_option maxRecDepth 100000 in
set_option maxHeartbeats 4000000 in
theorem check_long (w : World) (x : Nod) (Ac : Option Addr) (cc : Nat) (Ak : Option Addr) (ck : Nat) (Ai : Option Addr) (ci : Nat) (h : NIs w w.heap.size x Ac cc Ak ck Ai ci) (hl : x.cells.length ≤ 1000000) (hl2 : x.keys.length ≤ 1000000) (hl3 : x.kids.length ≤ 1000000) (hso : SortedS (nkeys x)) (hap : ApartS (nkeys x)) (hno : ¬ ∀ s ∈ nkeys x, shortS s = true) :
    Calls Try.prog 169 #[.agg (nodC x Ac cc Ak ck Ai ci)] w (GaveOut w 2) := by
  have b0 := BlkIs.new w 76 (nodC x Ac cc Ak ck Ai ci)
  have hB : Below w.heap.size w (w.alloc (.cells (nodC x Ac cc Ak ck Ai ci) 76)) := (Below.refl _ w).alloc (Nat.le_refl _) _
  have h1 := h.grow hB
  have HK := keys_gives _ x Ac cc Ak ck Ai ci h1 hl
  have hln := nkeys_len hl hl2
  generalize nkeys x = ks at *
  have HSO := Lib.hid hso
  have HAP := Lib.hid hap
  have HSH := Lib.hid hno
  clear hso hap hno
  unfold GaveOut
  unfold nodC at *
  go_enter Try.func169, Try.ntmps169
  go_wp2_with (first
    | (refine wp_loadW rfl 76 (.tmp 1) rfl w.heap.size rfl rowNod b0 (by rfl) ?_)
    | (go_at_call 110; refine HK.mono ?_; rintro e w2 ⟨A, c, rfl, hin2, hB2⟩)
    | (go_at_call 193; refine (sortedS_gives w2 A c ks hin2 hln).mono ?_; rintro e w3 ⟨r3, rfl, hB3, hr3⟩; obtain rfl : r3 = true := hr3.2 HSO.out; clear hr3)
    | (go_at_call 111; refine (sclone_gives w3 A c ks (hin2.grow hB3) hln).mono ?_; rintro e w4 ⟨A4, c4, rfl, own4, hB4⟩)
    | (go_at_call 194; obtain ⟨A5, c5, e5, hin4⟩ := ownG_in own4 (skC_one _); injection e5 with e51 e52 e53; subst e51 e53; refine (compact_same w4 A4 c4 ks hin4 hln HAP.out).mono ?_; rintro e w5 ⟨rfl, hB5⟩)
    | (go_at_call 195; refine (eachS_gives w5 A c ks ((((hin2.grow hB3).grow hB4)).grow hB5) hln).mono ?_; rintro e w6 ⟨r6, rfl, hB6, hr6⟩; obtain rfl : r6 = false := (by cases r6 with | false => rfl | true => exact absurd (hr6.1 rfl) HSH.out); clear hr6; have hB16 := hB2.trans ((hB3.trans ((hB4.trans ((hB5.trans (hB6.mono hB5.size)).mono hB4.size)).mono hB3.size)).mono hB2.size))
    | (go_at_call 115; refine (must_gives _ _ _).mono ?_; rintro e w7 ⟨rfl, h7⟩; first | (obtain ⟨v7, rfl⟩ := h7.1 rfl) | (obtain rfl := h7.2 rfl)))
  exact ⟨rfl, rfl, hB.trans (hB16.mono hB.size)⟩
set_option maxRecDepth 100000 in
set_option maxHeartbeats 4000000 in
theorem check_leaf1 (w : World) (x : Nod) (Ac : Option Addr) (cc : Nat) (Ak : Option Addr) (ck : Nat) (Ai : Option Addr) (ci : Nat) (h : NIs w w.heap.size x Ac cc Ak ck Ai ci) (hl : x.cells.length ≤ 1000000) (hl2 : x.keys.length ≤ 1000000) (hl3 : x.kids.length ≤ 1000000) (hso : SortedS (nkeys x)) (hap : ApartS (nkeys x)) (hsh : ∀ s ∈ nkeys x, shortS s = true) (hlf : x.leaf = true) (hno : x.keys.length + x.kids.length ≠ 0) :
    Calls Try.prog 169 #[.agg (nodC x Ac cc Ak ck Ai ci)] w (GaveOut w 2) := by
  have b0 := BlkIs.new w 76 (nodC x Ac cc Ak ck Ai ci)
  have hB : Below w.heap.size w (w.alloc (.cells (nodC x Ac cc Ak ck Ai ci) 76)) := (Below.refl _ w).alloc (Nat.le_refl _) _
  have h1 := h.grow hB
  have HK := keys_gives _ x Ac cc Ak ck Ai ci h1 hl
  have hln := nkeys_len hl hl2
  generalize nkeys x = ks at *
  have HSO := Lib.hid hso
  have HAP := Lib.hid hap
  have HSH := Lib.hid hsh
  clear hso hap hsh
  obtain ⟨leaf, cells, keys, kids⟩ := x
  simp only at *
  subst hlf
  have g1 : IntKind.i64.wrap ((keys.length : Int) + (kids.length : Int)) = (keys.length : Int) + (kids.length : Int) := wrapN _ (by omega) (by omega)
  have g2 : ¬ (keys.length : Int) + (kids.length : Int) = 0 := by omega
  clear hno
  unfold GaveOut
  unfold nodC at *
  go_enter Try.func169, Try.ntmps169
  go_wp2_with (first
    | (refine wp_loadW rfl 76 (.tmp 1) rfl w.heap.size rfl rowNod b0 (by rfl) ?_)
    | (go_at_call 110; refine HK.mono ?_; rintro e w2 ⟨A, c, rfl, hin2, hB2⟩)
    | (go_at_call 193; refine (sortedS_gives w2 A c ks hin2 hln).mono ?_; rintro e w3 ⟨r3, rfl, hB3, hr3⟩; obtain rfl : r3 = true := hr3.2 HSO.out; clear hr3)
    | (go_at_call 111; refine (sclone_gives w3 A c ks (hin2.grow hB3) hln).mono ?_; rintro e w4 ⟨A4, c4, rfl, own4, hB4⟩)
    | (go_at_call 194; obtain ⟨A5, c5, e5, hin4⟩ := ownG_in own4 (skC_one _); injection e5 with e51 e52 e53; subst e51 e53; refine (compact_same w4 A4 c4 ks hin4 hln HAP.out).mono ?_; rintro e w5 ⟨rfl, hB5⟩)
    | (go_at_call 195; refine (eachS_gives w5 A c ks ((((hin2.grow hB3).grow hB4)).grow hB5) hln).mono ?_; rintro e w6 ⟨r6, rfl, hB6, hr6⟩; obtain rfl : r6 = true := hr6.2 HSH.out; clear hr6; have hB16 := hB2.trans ((hB3.trans ((hB4.trans ((hB5.trans (hB6.mono hB5.size)).mono hB4.size)).mono hB3.size)).mono hB2.size); have b6 := b0.below hB16 b0.lt; have k0 : w6.cell? ⟨w.heap.size, 0, none⟩ = some (.bool true) := (by rw [b6.cell]; rfl); have k1 : w6.cell? ⟨w.heap.size, 1, none⟩ = some (.slice Ac cells.length cc) := (by rw [b6.cell]; rfl); have k2 : w6.cell? ⟨w.heap.size, 2, none⟩ = some (.slice Ak keys.length ck) := (by rw [b6.cell]; rfl); have k3 : w6.cell? ⟨w.heap.size, 3, none⟩ = some (.slice Ai kids.length ci) := (by rw [b6.cell]; rfl)))
  refine (must_gives _ _ _).mono ?_
  rintro e w7 ⟨rfl, h7⟩
  obtain ⟨v7, rfl⟩ := h7.1 rfl
  go_wp2_with (first
    | (go_at_call 115; refine (must_gives _ _ _).mono ?_; rintro e w7 ⟨rfl, h7⟩; first | (obtain ⟨v7, rfl⟩ := h7.1 rfl) | (obtain rfl := h7.2 rfl)))
  exact ⟨rfl, rfl, hB.trans (hB16.mono hB.size)⟩
set_option maxRecDepth 100000 in
set_option maxHeartbeats 4000000 in
theorem check_leaf2 (w : World) (x : Nod) (Ac : Option Addr) (cc : Nat) (Ak : Option Addr) (ck : Nat) (Ai : Option Addr) (ci : Nat) (h : NIs w w.heap.size x Ac cc Ak ck Ai ci) (hl : x.cells.length ≤ 1000000) (hl2 : x.keys.length ≤ 1000000) (hl3 : x.kids.length ≤ 1000000) (hso : SortedS (nkeys x)) (hap : ApartS (nkeys x)) (hsh : ∀ s ∈ nkeys x, shortS s = true) (hlf : x.leaf = true) (he : x.keys.length = 0 ∧ x.kids.length = 0) (hno : ¬ ∀ c ∈ x.cells, rightB c = true) :
    Calls Try.prog 169 #[.agg (nodC x Ac cc Ak ck Ai ci)] w (GaveOut w 2) := by
  have b0 := BlkIs.new w 76 (nodC x Ac cc Ak ck Ai ci)
  have hB : Below w.heap.size w (w.alloc (.cells (nodC x Ac cc Ak ck Ai ci) 76)) := (Below.refl _ w).alloc (Nat.le_refl _) _
  have h1 := h.grow hB
  have HK := keys_gives _ x Ac cc Ak ck Ai ci h1 hl
  have hln := nkeys_len hl hl2
  generalize nkeys x = ks at *
  have HSO := Lib.hid hso
  have HAP := Lib.hid hap
  have HSH := Lib.hid hsh
  clear hso hap hsh
  obtain ⟨leaf, cells, keys, kids⟩ := x
  simp only at *
  subst hlf
  obtain ⟨he1, he2⟩ := he
  obtain rfl := List.eq_nil_of_length_eq_zero he1
  obtain rfl := List.eq_nil_of_length_eq_zero he2
  have HCR := Lib.hid hno
  clear hno he1 he2
  unfold GaveOut
  unfold nodC at *
  go_enter Try.func169, Try.ntmps169
  go_wp2_with (first
    | (refine wp_loadW rfl 76 (.tmp 1) rfl w.heap.size rfl rowNod b0 (by rfl) ?_)
    | (go_at_call 110; refine HK.mono ?_; rintro e w2 ⟨A, c, rfl, hin2, hB2⟩)
    | (go_at_call 193; refine (sortedS_gives w2 A c ks hin2 hln).mono ?_; rintro e w3 ⟨r3, rfl, hB3, hr3⟩; obtain rfl : r3 = true := hr3.2 HSO.out; clear hr3)
    | (go_at_call 111; refine (sclone_gives w3 A c ks (hin2.grow hB3) hln).mono ?_; rintro e w4 ⟨A4, c4, rfl, own4, hB4⟩)
    | (go_at_call 194; obtain ⟨A5, c5, e5, hin4⟩ := ownG_in own4 (skC_one _); injection e5 with e51 e52 e53; subst e51 e53; refine (compact_same w4 A4 c4 ks hin4 hln HAP.out).mono ?_; rintro e w5 ⟨rfl, hB5⟩)
    | (go_at_call 195; refine (eachS_gives w5 A c ks ((((hin2.grow hB3).grow hB4)).grow hB5) hln).mono ?_; rintro e w6 ⟨r6, rfl, hB6, hr6⟩; obtain rfl : r6 = true := hr6.2 HSH.out; clear hr6; have hB16 := hB2.trans ((hB3.trans ((hB4.trans ((hB5.trans (hB6.mono hB5.size)).mono hB4.size)).mono hB3.size)).mono hB2.size); have b6 := b0.below hB16 b0.lt; have k0 : w6.cell? ⟨w.heap.size, 0, none⟩ = some (.bool true) := (by rw [b6.cell]; rfl); have k1 : w6.cell? ⟨w.heap.size, 1, none⟩ = some (.slice Ac cells.length cc) := (by rw [b6.cell]; rfl); have k2 : w6.cell? ⟨w.heap.size, 2, none⟩ = some (.slice Ak 0 ck) := (by rw [b6.cell]; rfl); have k3 : w6.cell? ⟨w.heap.size, 3, none⟩ = some (.slice Ai 0 ci) := (by rw [b6.cell]; rfl)))
  refine (must_gives _ _ _).mono ?_
  rintro e w7 ⟨rfl, h7⟩
  obtain ⟨v7, rfl⟩ := h7.1 rfl
  go_wp2_with (first
    | (go_at_call 197; refine (eachC_gives w6 Ac cc cells (h1.c.grow hB16) hl).mono ?_; rintro e w8 ⟨r8, rfl, hB8, hr8⟩; obtain rfl : r8 = false := (by cases r8 with | false => rfl | true => exact absurd (hr8.1 rfl) HCR.out); clear hr8)
    | (go_at_call 115; refine (must_gives _ _ _).mono ?_; rintro e w7 ⟨rfl, h7⟩; first | (obtain ⟨v7, rfl⟩ := h7.1 rfl) | (obtain rfl := h7.2 rfl)))
  exact ⟨rfl, rfl, (hB.trans (hB16.mono hB.size)).trans (hB8.mono (hB.trans (hB16.mono hB.size)).size)⟩
set_option maxRecDepth 100000 in
set_option maxHeartbeats 4000000 in
theorem check_inner1 (w : World) (x : Nod) (Ac : Option Addr) (cc : Nat) (Ak : Option Addr) (ck : Nat) (Ai : Option Addr) (ci : Nat) (h : NIs w w.heap.size x Ac cc Ak ck Ai ci) (hl : x.cells.length ≤ 1000000) (hl2 : x.keys.length ≤ 1000000) (hl3 : x.kids.length ≤ 1000000) (hso : SortedS (nkeys x)) (hap : ApartS (nkeys x)) (hsh : ∀ s ∈ nkeys x, shortS s = true) (hlf : x.leaf = false) (hno : x.cells.length ≠ 0) :
    Calls Try.prog 169 #[.agg (nodC x Ac cc Ak ck Ai ci)] w (GaveOut w 2) := by
  have b0 := BlkIs.new w 76 (nodC x Ac cc Ak ck Ai ci)
  have hB : Below w.heap.size w (w.alloc (.cells (nodC x Ac cc Ak ck Ai ci) 76)) := (Below.refl _ w).alloc (Nat.le_refl _) _
  have h1 := h.grow hB
  have HK := keys_gives _ x Ac cc Ak ck Ai ci h1 hl
  have hln := nkeys_len hl hl2
  generalize nkeys x = ks at *
  have HSO := Lib.hid hso
  have HAP := Lib.hid hap
  have HSH := Lib.hid hsh
  clear hso hap hsh
  obtain ⟨leaf, cells, keys, kids⟩ := x
  simp only at *
  subst hlf
  have g2 : ¬ (cells.length : Int) = 0 := by omega
  have g3 : ¬ cells.length = 0 := hno
  clear hno
  unfold GaveOut
  unfold nodC at *
  go_enter Try.func169, Try.ntmps169
  go_wp2_with (first
    | (refine wp_loadW rfl 76 (.tmp 1) rfl w.heap.size rfl rowNod b0 (by rfl) ?_)
    | (go_at_call 110; refine HK.mono ?_; rintro e w2 ⟨A, c, rfl, hin2, hB2⟩)
    | (go_at_call 193; refine (sortedS_gives w2 A c ks hin2 hln).mono ?_; rintro e w3 ⟨r3, rfl, hB3, hr3⟩; obtain rfl : r3 = true := hr3.2 HSO.out; clear hr3)
    | (go_at_call 111; refine (sclone_gives w3 A c ks (hin2.grow hB3) hln).mono ?_; rintro e w4 ⟨A4, c4, rfl, own4, hB4⟩)
    | (go_at_call 194; obtain ⟨A5, c5, e5, hin4⟩ := ownG_in own4 (skC_one _); injection e5 with e51 e52 e53; subst e51 e53; refine (compact_same w4 A4 c4 ks hin4 hln HAP.out).mono ?_; rintro e w5 ⟨rfl, hB5⟩)
    | (go_at_call 195; refine (eachS_gives w5 A c ks ((((hin2.grow hB3).grow hB4)).grow hB5) hln).mono ?_; rintro e w6 ⟨r6, rfl, hB6, hr6⟩; obtain rfl : r6 = true := hr6.2 HSH.out; clear hr6; have hB16 := hB2.trans ((hB3.trans ((hB4.trans ((hB5.trans (hB6.mono hB5.size)).mono hB4.size)).mono hB3.size)).mono hB2.size); have b6 := b0.below hB16 b0.lt; have k0 : w6.cell? ⟨w.heap.size, 0, none⟩ = some (.bool false) := (by rw [b6.cell]; rfl); have k1 : w6.cell? ⟨w.heap.size, 1, none⟩ = some (.slice Ac cells.length cc) := (by rw [b6.cell]; rfl); have k2 : w6.cell? ⟨w.heap.size, 2, none⟩ = some (.slice Ak keys.length ck) := (by rw [b6.cell]; rfl); have k3 : w6.cell? ⟨w.heap.size, 3, none⟩ = some (.slice Ai kids.length ci) := (by rw [b6.cell]; rfl)))
  refine (must_gives _ _ _).mono ?_
  rintro e w7 ⟨rfl, h7⟩
  obtain ⟨v7, rfl⟩ := h7.1 rfl
  go_wp2_with (first
    | (go_at_call 115; refine (must_gives _ _ _).mono ?_; rintro e w7 ⟨rfl, h7⟩; first | (obtain ⟨v7, rfl⟩ := h7.1 rfl) | (obtain rfl := h7.2 rfl)))
  exact ⟨rfl, rfl, hB.trans (hB16.mono hB.size)⟩
set_option maxRecDepth 100000 in
set_option maxHeartbeats 4000000 in
theorem check_inner2 (w : World) (x : Nod) (Ac : Option Addr) (cc : Nat) (Ak : Option Addr) (ck : Nat) (Ai : Option Addr) (ci : Nat) (h : NIs w w.heap.size x Ac cc Ak ck Ai ci) (hl : x.cells.length ≤ 1000000) (hl2 : x.keys.length ≤ 1000000) (hl3 : x.kids.length ≤ 1000000) (hso : SortedS (nkeys x)) (hap : ApartS (nkeys x)) (hsh : ∀ s ∈ nkeys x, shortS s = true) (hlf : x.leaf = false) (he : x.cells.length = 0) (hno : x.keys.length = 0) :
    Calls Try.prog 169 #[.agg (nodC x Ac cc Ak ck Ai ci)] w (GaveOut w 2) := by
  have b0 := BlkIs.new w 76 (nodC x Ac cc Ak ck Ai ci)
  have hB : Below w.heap.size w (w.alloc (.cells (nodC x Ac cc Ak ck Ai ci) 76)) := (Below.refl _ w).alloc (Nat.le_refl _) _
  have h1 := h.grow hB
  have HK := keys_gives _ x Ac cc Ak ck Ai ci h1 hl
  have hln := nkeys_len hl hl2
  generalize nkeys x = ks at *
  have HSO := Lib.hid hso
  have HAP := Lib.hid hap
  have HSH := Lib.hid hsh
  clear hso hap hsh
  obtain ⟨leaf, cells, keys, kids⟩ := x
  simp only at *
  subst hlf
  obtain rfl := List.eq_nil_of_length_eq_zero he
  obtain rfl := List.eq_nil_of_length_eq_zero hno
  clear hno he
  unfold GaveOut
  unfold nodC at *
  go_enter Try.func169, Try.ntmps169
  go_wp2_with (first
    | (refine wp_loadW rfl 76 (.tmp 1) rfl w.heap.size rfl rowNod b0 (by rfl) ?_)
    | (go_at_call 110; refine HK.mono ?_; rintro e w2 ⟨A, c, rfl, hin2, hB2⟩)
    | (go_at_call 193; refine (sortedS_gives w2 A c ks hin2 hln).mono ?_; rintro e w3 ⟨r3, rfl, hB3, hr3⟩; obtain rfl : r3 = true := hr3.2 HSO.out; clear hr3)
    | (go_at_call 111; refine (sclone_gives w3 A c ks (hin2.grow hB3) hln).mono ?_; rintro e w4 ⟨A4, c4, rfl, own4, hB4⟩)
    | (go_at_call 194; obtain ⟨A5, c5, e5, hin4⟩ := ownG_in own4 (skC_one _); injection e5 with e51 e52 e53; subst e51 e53; refine (compact_same w4 A4 c4 ks hin4 hln HAP.out).mono ?_; rintro e w5 ⟨rfl, hB5⟩)
    | (go_at_call 195; refine (eachS_gives w5 A c ks ((((hin2.grow hB3).grow hB4)).grow hB5) hln).mono ?_; rintro e w6 ⟨r6, rfl, hB6, hr6⟩; obtain rfl : r6 = true := hr6.2 HSH.out; clear hr6; have hB16 := hB2.trans ((hB3.trans ((hB4.trans ((hB5.trans (hB6.mono hB5.size)).mono hB4.size)).mono hB3.size)).mono hB2.size); have b6 := b0.below hB16 b0.lt; have k0 : w6.cell? ⟨w.heap.size, 0, none⟩ = some (.bool false) := (by rw [b6.cell]; rfl); have k1 : w6.cell? ⟨w.heap.size, 1, none⟩ = some (.slice Ac 0 cc) := (by rw [b6.cell]; rfl); have k2 : w6.cell? ⟨w.heap.size, 2, none⟩ = some (.slice Ak 0 ck) := (by rw [b6.cell]; rfl); have k3 : w6.cell? ⟨w.heap.size, 3, none⟩ = some (.slice Ai kids.length ci) := (by rw [b6.cell]; rfl)))
  refine (must_gives _ _ _).mono ?_
  rintro e w7 ⟨rfl, h7⟩
  obtain ⟨v7, rfl⟩ := h7.1 rfl
  go_wp2_with (first
    | (go_at_call 115; refine (must_gives _ _ _).mono ?_; rintro e w7 ⟨rfl, h7⟩; first | (obtain ⟨v7, rfl⟩ := h7.1 rfl) | (obtain rfl := h7.2 rfl)))
  exact ⟨rfl, rfl, hB.trans (hB16.mono hB.size)⟩
set_option maxRecDepth 100000 in
set_option maxHeartbeats 4000000 in
theorem check_inner3 (w : World) (x : Nod) (Ac : Option Addr) (cc : Nat) (Ak : Option Addr) (ck : Nat) (Ai : Option Addr) (ci : Nat) (h : NIs w w.heap.size x Ac cc Ak ck Ai ci) (hl : x.cells.length ≤ 1000000) (hl2 : x.keys.length ≤ 1000000) (hl3 : x.kids.length ≤ 1000000) (hso : SortedS (nkeys x)) (hap : ApartS (nkeys x)) (hsh : ∀ s ∈ nkeys x, shortS s = true) (hlf : x.leaf = false) (he : x.cells.length = 0) (hk : 0 < x.keys.length) (hno : x.kids.length ≠ x.keys.length + 1) :
    Calls Try.prog 169 #[.agg (nodC x Ac cc Ak ck Ai ci)] w (GaveOut w 2) := by
  have b0 := BlkIs.new w 76 (nodC x Ac cc Ak ck Ai ci)
  have hB : Below w.heap.size w (w.alloc (.cells (nodC x Ac cc Ak ck Ai ci) 76)) := (Below.refl _ w).alloc (Nat.le_refl _) _
  have h1 := h.grow hB
  have HK := keys_gives _ x Ac cc Ak ck Ai ci h1 hl
  have hln := nkeys_len hl hl2
  generalize nkeys x = ks at *
  have HSO := Lib.hid hso
  have HAP := Lib.hid hap
  have HSH := Lib.hid hsh
  clear hso hap hsh
  obtain ⟨leaf, cells, keys, kids⟩ := x
  simp only at *
  subst hlf
  obtain rfl := List.eq_nil_of_length_eq_zero he
  have g1 : (0 : Int) < (keys.length : Int) := by omega
  have g2 : IntKind.i64.wrap ((keys.length : Int) + 1) = (keys.length : Int) + 1 := wrapN _ (by omega) (by omega)
  have g3 : ¬ (kids.length : Int) = (keys.length : Int) + 1 := by omega
  clear hno he hk
  unfold GaveOut
  unfold nodC at *
  go_enter Try.func169, Try.ntmps169
  go_wp2_with (first
    | (refine wp_loadW rfl 76 (.tmp 1) rfl w.heap.size rfl rowNod b0 (by rfl) ?_)
    | (go_at_call 110; refine HK.mono ?_; rintro e w2 ⟨A, c, rfl, hin2, hB2⟩)
    | (go_at_call 193; refine (sortedS_gives w2 A c ks hin2 hln).mono ?_; rintro e w3 ⟨r3, rfl, hB3, hr3⟩; obtain rfl : r3 = true := hr3.2 HSO.out; clear hr3)
    | (go_at_call 111; refine (sclone_gives w3 A c ks (hin2.grow hB3) hln).mono ?_; rintro e w4 ⟨A4, c4, rfl, own4, hB4⟩)
    | (go_at_call 194; obtain ⟨A5, c5, e5, hin4⟩ := ownG_in own4 (skC_one _); injection e5 with e51 e52 e53; subst e51 e53; refine (compact_same w4 A4 c4 ks hin4 hln HAP.out).mono ?_; rintro e w5 ⟨rfl, hB5⟩)
    | (go_at_call 195; refine (eachS_gives w5 A c ks ((((hin2.grow hB3).grow hB4)).grow hB5) hln).mono ?_; rintro e w6 ⟨r6, rfl, hB6, hr6⟩; obtain rfl : r6 = true := hr6.2 HSH.out; clear hr6; have hB16 := hB2.trans ((hB3.trans ((hB4.trans ((hB5.trans (hB6.mono hB5.size)).mono hB4.size)).mono hB3.size)).mono hB2.size); have b6 := b0.below hB16 b0.lt; have k0 : w6.cell? ⟨w.heap.size, 0, none⟩ = some (.bool false) := (by rw [b6.cell]; rfl); have k1 : w6.cell? ⟨w.heap.size, 1, none⟩ = some (.slice Ac 0 cc) := (by rw [b6.cell]; rfl); have k2 : w6.cell? ⟨w.heap.size, 2, none⟩ = some (.slice Ak keys.length ck) := (by rw [b6.cell]; rfl); have k3 : w6.cell? ⟨w.heap.size, 3, none⟩ = some (.slice Ai kids.length ci) := (by rw [b6.cell]; rfl)))
  refine (must_gives _ _ _).mono ?_
  rintro e w7 ⟨rfl, h7⟩
  obtain ⟨v7, rfl⟩ := h7.1 rfl
  go_wp2_with (first
    | (go_at_call 115; refine (must_gives _ _ _).mono ?_; rintro e w7 ⟨rfl, h7⟩; first | (obtain ⟨v7, rfl⟩ := h7.1 rfl) | (obtain rfl := h7.2 rfl)))
  exact ⟨rfl, rfl, hB.trans (hB16.mono hB.size)⟩
set_option maxRecDepth 100000 in
set_option maxHeartbeats 4000000 in
theorem check_inner4 (w : World) (x : Nod) (Ac : Option Addr) (cc : Nat) (Ak : Option Addr) (ck : Nat) (Ai : Option Addr) (ci : Nat) (h : NIs w w.heap.size x Ac cc Ak ck Ai ci) (hl : x.cells.length ≤ 1000000) (hl2 : x.keys.length ≤ 1000000) (hl3 : x.kids.length ≤ 1000000) (hso : SortedS (nkeys x)) (hap : ApartS (nkeys x)) (hsh : ∀ s ∈ nkeys x, shortS s = true) (hlf : x.leaf = false) (he : x.cells.length = 0) (hk : 0 < x.keys.length) (hk2 : x.kids.length = x.keys.length + 1) (hno : ¬ ∀ i ∈ x.kids, pageB i = true) :
    Calls Try.prog 169 #[.agg (nodC x Ac cc Ak ck Ai ci)] w (GaveOut w 2) := by
  have b0 := BlkIs.new w 76 (nodC x Ac cc Ak ck Ai ci)
  have hB : Below w.heap.size w (w.alloc (.cells (nodC x Ac cc Ak ck Ai ci) 76)) := (Below.refl _ w).alloc (Nat.le_refl _) _
  have h1 := h.grow hB
  have HK := keys_gives _ x Ac cc Ak ck Ai ci h1 hl
  have hln := nkeys_len hl hl2
  generalize nkeys x = ks at *
  have HSO := Lib.hid hso
  have HAP := Lib.hid hap
  have HSH := Lib.hid hsh
  clear hso hap hsh
  obtain ⟨leaf, cells, keys, kids⟩ := x
  simp only at *
  subst hlf
  obtain rfl := List.eq_nil_of_length_eq_zero he
  have g1 : (0 : Int) < (keys.length : Int) := by omega
  have g2 : IntKind.i64.wrap ((keys.length : Int) + 1) = (kids.length : Int) := by rw [wrapN _ (by omega) (by omega)]; omega
  have HCR := Lib.hid hno
  clear hno he hk hk2
  unfold GaveOut
  unfold nodC at *
  go_enter Try.func169, Try.ntmps169
  go_wp2_with (first
    | (refine wp_loadW rfl 76 (.tmp 1) rfl w.heap.size rfl rowNod b0 (by rfl) ?_)
    | (go_at_call 110; refine HK.mono ?_; rintro e w2 ⟨A, c, rfl, hin2, hB2⟩)
    | (go_at_call 193; refine (sortedS_gives w2 A c ks hin2 hln).mono ?_; rintro e w3 ⟨r3, rfl, hB3, hr3⟩; obtain rfl : r3 = true := hr3.2 HSO.out; clear hr3)
    | (go_at_call 111; refine (sclone_gives w3 A c ks (hin2.grow hB3) hln).mono ?_; rintro e w4 ⟨A4, c4, rfl, own4, hB4⟩)
    | (go_at_call 194; obtain ⟨A5, c5, e5, hin4⟩ := ownG_in own4 (skC_one _); injection e5 with e51 e52 e53; subst e51 e53; refine (compact_same w4 A4 c4 ks hin4 hln HAP.out).mono ?_; rintro e w5 ⟨rfl, hB5⟩)
    | (go_at_call 195; refine (eachS_gives w5 A c ks ((((hin2.grow hB3).grow hB4)).grow hB5) hln).mono ?_; rintro e w6 ⟨r6, rfl, hB6, hr6⟩; obtain rfl : r6 = true := hr6.2 HSH.out; clear hr6; have hB16 := hB2.trans ((hB3.trans ((hB4.trans ((hB5.trans (hB6.mono hB5.size)).mono hB4.size)).mono hB3.size)).mono hB2.size); have b6 := b0.below hB16 b0.lt; have k0 : w6.cell? ⟨w.heap.size, 0, none⟩ = some (.bool false) := (by rw [b6.cell]; rfl); have k1 : w6.cell? ⟨w.heap.size, 1, none⟩ = some (.slice Ac 0 cc) := (by rw [b6.cell]; rfl); have k2 : w6.cell? ⟨w.heap.size, 2, none⟩ = some (.slice Ak keys.length ck) := (by rw [b6.cell]; rfl); have k3 : w6.cell? ⟨w.heap.size, 3, none⟩ = some (.slice Ai kids.length ci) := (by rw [b6.cell]; rfl)))
  refine (must_gives _ _ _).mono ?_
  rintro e w7 ⟨rfl, h7⟩
  obtain ⟨v7, rfl⟩ := h7.1 rfl
  go_wp2_with (first
    | (go_at_call 199; refine (eachI_gives w6 Ai ci kids (h1.i.grow hB16) hl3).mono ?_; rintro e w8 ⟨r8, rfl, hB8, hr8⟩; obtain rfl : r8 = false := (by cases r8 with | false => rfl | true => exact absurd (hr8.1 rfl) HCR.out); clear hr8)
    | (go_at_call 115; refine (must_gives _ _ _).mono ?_; rintro e w7 ⟨rfl, h7⟩; first | (obtain ⟨v7, rfl⟩ := h7.1 rfl) | (obtain rfl := h7.2 rfl)))
  exact ⟨rfl, rfl, (hB.trans (hB16.mono hB.size)).trans (hB8.mono (hB.trans (hB16.mono hB.size)).size)⟩
theorem check_no (w : World) (x : Nod) (Ac : Option Addr) (cc : Nat) (Ak : Option Addr) (ck : Nat) (Ai : Option Addr) (ci : Nat) (h : NIs w w.heap.size x Ac cc Ak ck Ai ci) (hl : x.cells.length ≤ 1000000) (hl2 : x.keys.length ≤ 1000000) (hl3 : x.kids.length ≤ 1000000) (hno : ¬ RightP x) :
    Calls Try.prog 169 #[.agg (nodC x Ac cc Ak ck Ai ci)] w (GaveOut w 2) := by
  by_cases h1 : SortedS (nkeys x)
  · by_cases h2 : ApartS (nkeys x)
    · by_cases h3 : ∀ s ∈ nkeys x, shortS s = true
      · cases h4 : x.leaf with
        | true =>
          by_cases h5 : x.keys.length + x.kids.length = 0
          · by_cases h6 : ∀ c ∈ x.cells, rightB c = true
            · exact absurd ⟨h1, h2, h3, fun _ => ⟨List.eq_nil_of_length_eq_zero (by omega), List.eq_nil_of_length_eq_zero (by omega), h6⟩, (fun e => by rw [h4] at e; cases e)⟩ hno
            · exact check_leaf2 w x Ac cc Ak ck Ai ci h hl hl2 hl3 h1 h2 h3 h4 ⟨by omega, by omega⟩ h6
          · exact check_leaf1 w x Ac cc Ak ck Ai ci h hl hl2 hl3 h1 h2 h3 h4 h5
        | false =>
          by_cases h5 : x.cells.length = 0
          · by_cases h6 : x.keys.length = 0
            · exact check_inner2 w x Ac cc Ak ck Ai ci h hl hl2 hl3 h1 h2 h3 h4 h5 h6
            · by_cases h7 : x.kids.length = x.keys.length + 1
              · by_cases h8 : ∀ i ∈ x.kids, pageB i = true
                · exact absurd ⟨h1, h2, h3, (fun e => by rw [h4] at e; cases e), fun _ => ⟨List.eq_nil_of_length_eq_zero h5, by omega, h7, h8⟩⟩ hno
                · exact check_inner4 w x Ac cc Ak ck Ai ci h hl hl2 hl3 h1 h2 h3 h4 h5 (by omega) h7 h8
              · exact check_inner3 w x Ac cc Ak ck Ai ci h hl hl2 hl3 h1 h2 h3 h4 h5 (by omega) h7
          · exact check_inner1 w x Ac cc Ak ck Ai ci h hl hl2 hl3 h1 h2 h3 h4 h5
      · exact check_long w x Ac cc Ak ck Ai ci h hl hl2 hl3 h1 h2 h3
    · exact check_same w x Ac cc Ak ck Ai ci h hl hl2 hl3 h1 h2
  · exact check_unsorted w x Ac cc Ak ck Ai ci h hl hl2 hl3 h1
end Go.Proofs.Ytlelckdcmlpmdaa
/- A region that draws its order, by an invariant of whatever kind: over which operations are done, the slots, the world. -/
namespace Go.Proofs.Ytlelckdcmlpmdaa
open Go Go.RowKit
namespace Reg
variable {P : Program} {ops : Array Oper}

/-- Each edge that binds leads back. -/
def backs (ops : Array Oper) : Bool := ops.toList.zipIdx.all fun (o, i) => o.after.toList.all fun e => !Region.binds .any e || decide (e.on < i)
/-- Slot t, looked at by o (number i): each operation that writes it comes ahead by an edge. -/
def ahead (ops : Array Oper) (o : Oper) (t : Nat) : Bool := ops.toList.zipIdx.all fun (p, j) => p.dst != some t || (o.after.toList.any fun e => Region.binds .any e && e.on == j)
/-- .. each operation that writes it waits for number i. -/
def waits (ops : Array Oper) (i : Nat) (t : Nat) : Bool := ops.toList.zipIdx.all fun (p, _) => p.dst != some t || (p.after.toList.any fun e => Region.binds .any e && e.on == i)
theorem backs_spec (h : backs ops = true) {i : Nat} {o : Oper} (ho : ops[i]? = some o) : ∀ e ∈ o.after.toList, Region.binds .any e = true → e.on < i := by
  unfold backs at h
  rw [List.all_eq_true] at h
  have hm : (o, i) ∈ ops.toList.zipIdx := by
    rw [List.mem_zipIdx_iff_getElem?]
    simpa using ho
  have := h _ hm
  simp only [List.all_eq_true] at this
  intro e he hb
  have := this e he
  simpa [hb] using this
theorem ahead_spec {o : Oper} {t : Nat} (h : ahead ops o t = true) {j : Nat} {p : Oper} (hp : ops[j]? = some p) (hd : p.dst = some t) : ∃ e ∈ o.after.toList, Region.binds .any e = true ∧ e.on = j := by
  unfold ahead at h
  rw [List.all_eq_true] at h
  have hm : (p, j) ∈ ops.toList.zipIdx := by
    rw [List.mem_zipIdx_iff_getElem?]
    simpa using hp
  have := h _ hm
  simp only [hd, bne_self_eq_false, Bool.false_or, List.any_eq_true, Bool.and_eq_true, beq_iff_eq] at this
  obtain ⟨e, he, hb, hj⟩ := this
  exact ⟨e, he, hb, hj⟩
theorem waits_spec {i t : Nat} (h : waits ops i t = true) {j : Nat} {p : Oper} (hp : ops[j]? = some p) (hd : p.dst = some t) : ∃ e ∈ p.after.toList, Region.binds .any e = true ∧ e.on = i := by
  unfold waits at h
  rw [List.all_eq_true] at h
  have hm : (p, j) ∈ ops.toList.zipIdx := by
    rw [List.mem_zipIdx_iff_getElem?]
    simpa using hp
  have := h _ hm
  simp only [hd, bne_self_eq_false, Bool.false_or, List.any_eq_true, Bool.and_eq_true, beq_iff_eq] at this
  obtain ⟨e, he, hb, hj⟩ := this
  exact ⟨e, he, hb, hj⟩

/-- One operation, in whatever order: where it is ready it leads from the invariant to the invariant. -/
def StepOk (P : Program) (ops : Array Oper) (Inv : Array Bool → Act → World → Prop) (i : Nat) (o : Oper) : Prop :=
  ∀ (listed : Array Bool) (a : Act) (w : World) (K : Act → World → Prop) (Q : Exit → Act → World → Prop), listed.size = ops.size → listed.getD i true = false → (∀ e ∈ o.after.toList, Region.binds .any e = true → listed.getD e.on false = true) →
    Inv listed a w → (∀ v w', Inv (listed.setIfInBounds i true) (a.put o.dst v) w' → K (a.put o.dst v) w') →
    (if Region.wanted o (yielded ops a.tmps) then o.wp P a w K Q ∨ (o.asks P a w ∧ LetsOut Q) else K (a.put o.dst undef) w)

theorem region_inv (hm : P.follows .mixedOrders = true) (hcov : backs ops = true) {id : Nat} {a0 : Act} {w0 : World} {Q : Exit → Act → World → Prop} (Inv : Array Bool → Act → World → Prop)
    (h0 : Inv (Array.replicate ops.size false) a0 w0.drew) (hstep : ∀ i o, ops[i]? = some o → StepOk P ops Inv i o)
    (hend : ∀ listed a w, listed.size = ops.size → (∀ i, i < ops.size → listed.getD i true = true) → Inv listed a w → Q .normal a w) :
    (Code.region id ops true).wp P Q a0 w0 := by
  refine wp_region_any hm ?_
  have key : ∀ (fuel : Nat) (listed : Array Bool) (a : Act) (w : World), listed.size = ops.size → left listed ≤ fuel → Inv listed a w → wpAny P .any ops Q fuel listed a w := by
    intro fuel
    have hdone : ∀ (listed : Array Bool) (a : Act) (w : World), listed.size = ops.size → Inv listed a w → Region.ready .any ops listed = [] → Q .normal a w := by
      intro listed a w hs hJ hr
      refine hend listed a w hs ?_ hJ
      intro i
      induction i using Nat.strongRecOn with
      | _ i ih =>
        intro hi
        cases hl : listed.getD i true with
        | true => rfl
        | false =>
          exfalso
          have : i ∈ Region.ready .any ops listed := by
            unfold Region.ready
            simp only [List.mem_filter, List.mem_range, Bool.and_eq_true, Bool.not_eq_true']
            refine ⟨hi, hl, ?_⟩
            have ho : ops[i]? = some ops[i] := Array.getElem?_eq_getElem hi
            simp only [ho, Option.map_some, Option.getD_some]
            rw [Array.all_eq_true_iff_forall_mem]
            intro e he
            have hc := backs_spec hcov ho e (Array.mem_toList_iff.2 he)
            cases hb : Region.binds .any e with
            | false => simp
            | true =>
              have hlt := hc hb
              have h1 := ih e.on hlt (by omega)
              have h2 : e.on < listed.size := by omega
              simp only [Array.getD, h2, dif_pos] at h1 ⊢
              simpa using h1
          rw [hr] at this
          cases this
    induction fuel with
    | zero =>
      intro listed a w hs hf hJ
      have hr : Region.ready .any ops listed = [] := by
        rcases hr : Region.ready .any ops listed with _ | ⟨i, r⟩
        · rfl
        · exfalso
          obtain ⟨o, ho, hl, _⟩ := ready_mem (ops := ops) (listed := listed) (i := i) (by rw [hr]; simp)
          have hi : i < listed.size := by rw [hs]; exact (Array.getElem?_eq_some_iff.1 ho).1
          have hmem : listed[i] ∈ listed.toList.filter (! ·) := by
            rw [List.mem_filter]
            refine ⟨by simp, ?_⟩
            have hl' : listed[i] = false := by simpa [Array.getD, hi] using hl
            simp [hl']
          have : 0 < left listed := List.length_pos_of_mem hmem
          omega
      exact ⟨hr, hdone listed a w hs hJ hr⟩
    | succ fuel ih =>
      intro listed a w hs hf hJ
      refine ⟨hdone listed a w hs hJ, fun i hi => ?_⟩
      obtain ⟨o, ho, hl, hedges⟩ := ready_mem hi
      have hisz : i < listed.size := by rw [hs]; exact (Array.getElem?_eq_some_iff.1 ho).1
      have hnext : ∀ v w', Inv (listed.setIfInBounds i true) (a.put o.dst v) w' → wpAny P .any ops Q fuel (listed.setIfInBounds i true) (a.put o.dst v) w' := by
        intro v w' hv
        refine ih _ _ _ (by simpa using hs) ?_ hv
        have hl' : listed[i] = false := by simpa [Array.getD, hisz] using hl
        have : left (listed.setIfInBounds i true) < left listed := by
          unfold left
          rw [Array.toList_setIfInBounds]
          have e1 : listed.toList = listed.toList.take i ++ false :: listed.toList.drop (i + 1) := by
            have h3 : listed.toList[i]'(by simpa using hisz) = false := by simpa using hl'
            conv => lhs; rw [← List.take_append_drop i listed.toList, List.drop_eq_getElem_cons (by simpa using hisz), h3]
          rw [List.set_eq_take_append_cons_drop, if_pos (by simpa using hisz)]
          conv => rhs; rw [e1]
          simp
        omega
      have := hstep i o ho listed a w (fun a' w' => wpAny P .any ops Q fuel (listed.setIfInBounds i true) a' w') Q hs hl hedges hJ hnext
      unfold wpOp
      simp only [ho]
      exact this
  refine key ops.size _ a0 _ (by simp) ?_ h0
  unfold left
  simp
end Reg
end Go.Proofs.Ytlelckdcmlpmdaa
