/- Texts that the proof of DiskCopies leans on, part 8. -/
import Derived.Test.YtlelckdcmlpmdaaDiskCopiesB7
/- loupelaw04: acts: bytes, few. -/
namespace Go.Proofs.Ytlelckdcmlpmdaa
open Go Go.RowKit Lou

/-- A call of a disk. -/
structure ActV where
  what : Int
  at_ : Int
  n : Int
  b : UInt8
  keep : List Bool
  K : Option Addr
  kc : Nat
def actC (x : ActV) : List Value := [.int .i64 x.what, .int .i64 x.at_, .int .i64 x.n, .int .u8 (x.b.toNat : Int), .slice x.K x.keep.length x.kc]
def acsC (xs : List ActV) : List Value := (xs.map actC).flatten
theorem acsC_elem : ∀ (xs : List ActV) (j : Nat) (h : j < xs.length), ((acsC xs).drop (j * 5)).take 5 = actC xs[j]
  | x :: xs, 0, _ => by
    have e : acsC (x :: xs) = actC x ++ acsC xs := rfl
    rw [e]
    rfl
  | x :: xs, j + 1, h => by
    have e : acsC (x :: xs) = actC x ++ acsC xs := rfl
    rw [e, show (j + 1) * 5 = 5 + j * 5 from by omega, ← List.drop_drop]
    have e2 : (actC x ++ acsC xs).drop 5 = acsC xs := rfl
    rw [e2, acsC_elem xs j (by simpa using h)]
    rfl
theorem actC_one (x : ActV) : ∀ v ∈ actC x, v.oneCell' = true := by
  intro v hv
  simp [actC] at hv
  rcases hv with rfl | rfl | rfl | rfl | rfl <;> rfl
theorem acsC_one (xs : List ActV) : ∀ v ∈ acsC xs, v.oneCell' = true := by
  intro v hv
  obtain ⟨l, hl, hv⟩ := List.mem_flatten.1 hv
  obtain ⟨c, _, rfl⟩ := List.mem_map.1 hl
  exact actC_one c v hv
theorem rowAct : RowTy Try.prog 136 5 := ⟨⟨_, Try.underlying136, rfl⟩, by kernel_rfl⟩
theorem elAct : ElT 134 136 5 56 (.agg #[.int .i64 0, .int .i64 0, .int .i64 0, .int .u8 0, .slice none 0 0]) := ⟨Try.underlying134, by kernel_rfl, by kernel_rfl, by decide⟩
/-- What an act's truths lie in. -/
def KeepIs (w : World) (B : Nat) (x : ActV) : Prop := InG w B 1 x.K x.keep.length x.kc (x.keep.map Value.bool)
/-- What an act writes. -/
def bytesOf (x : ActV) : List UInt8 := if x.n < 0 ∨ 100 < x.n then [] else if x.n = 0 then secL x.b else List.replicate x.n.toNat 0
set_option maxRecDepth 100000 in
set_option maxHeartbeats 2000000 in
theorem bytes4_gives (w : World) (x : ActV) : Calls Try.prog 144 #[.agg (actC x).toArray] w fun e w' => ∃ A c, e = .returned (.slice A (bytesOf x).length c) ∧ InB w' w'.heap.size A c (bytesOf x) ∧ Below w.heap.size w w' := by
  have b1 := BlkIs.new w 136 (actC x).toArray
  have hB1 : Below w.heap.size w (w.alloc (.cells (actC x).toArray 136)) := (Below.refl _ w).alloc (Nat.le_refl _) _
  have hb1 : bytesOf x = if x.n < 0 ∨ 100 < x.n then [] else if x.n = 0 then secL x.b else List.replicate x.n.toNat 0 := rfl
  generalize bytesOf x = bl at *
  obtain ⟨what, at_, n, b, keep, K, kc⟩ := x
  simp only [actC] at *
  obtain ⟨W1, hW1⟩ : ∃ W, W = w.alloc (.cells #[.int .i64 what, .int .i64 at_, .int .i64 n, .int .u8 (b.toNat : Int), .slice K keep.length kc] 136) := ⟨_, rfl⟩
  rw [← hW1] at b1 hB1
  have HW1 := Lib.hid hW1
  clear hW1
  have a2 : W1.cell? ⟨w.heap.size, 2, none⟩ = some (.int .i64 n) := by rw [b1.cell]; rfl
  have a3 : W1.cell? ⟨w.heap.size, 3, none⟩ = some (.int .u8 (b.toNat : Int)) := by rw [b1.cell]; rfl
  by_cases hr : n < 0 ∨ 100 < n
  · rw [if_pos hr] at hb1
    subst hb1
    rcases ha : decide (n < 0) with _ | _
    · have h1 : 100 < n := by simp at ha; omega
      clear hr
      go_enter Try.func144, Try.ntmps144
      go_upto_region 1 with fail
      rw [← HW1.out]
      clear HW1
      go_wp2
      go_ret
      exact ⟨none, 0, rfl, (OwnB.nil W1 0).inB.choose_spec.choose_spec.2 |> fun _ => ⟨Nat.le_refl _, by omega, fun _ => rfl, fun h => by cases h⟩, hB1⟩
    · clear hr
      go_enter Try.func144, Try.ntmps144
      go_upto_region 1 with fail
      rw [← HW1.out]
      clear HW1
      go_wp2
      go_ret
      exact ⟨none, 0, rfl, ⟨Nat.le_refl _, by omega, fun _ => rfl, fun h => by cases h⟩, hB1⟩
  · rw [if_neg hr] at hb1
    have ha : decide (n < 0) = false := by simp; omega
    have h2 : ¬ 100 < n := by omega
    by_cases hn : n = 0
    · rw [if_pos hn] at hb1
      subst hn
      subst hb1
      have hlen : (secL b).length = 64 := by simp [secL]
      have HS := sec4_gives W1 b
      unfold GivesB at HS
      generalize secL b = l at *
      clear hr hlen
      go_enter Try.func144, Try.ntmps144
      go_upto_region 1 with fail
      rw [← HW1.out]
      clear HW1
      go_wp2_with (go_at_call 22; refine HS.mono ?_; rintro e w2 ⟨v2, rfl, own2, hB2⟩; obtain ⟨A2, c2, rfl, in2⟩ := own2.inB)
      go_ret
      exact ⟨A2, c2, rfl, in2, hB1.trans (hB2.mono hB1.size)⟩
    · rw [if_neg hn] at hb1
      obtain ⟨m, hm⟩ : ∃ m : Nat, n = (m : Int) := ⟨n.toNat, by omega⟩
      subst hm
      have hm2 : ((m : Int)).toNat = m := by omega
      rw [hm2] at hb1
      have hbl : bl.length = m := by rw [hb1, List.length_replicate]
      have HBL := Lib.hid hbl
      have HB1 := Lib.hid hb1
      have hm3 : m ≤ 100 := by omega
      have hm4 : ¬ (m : Int) = 0 := hn
      have hm5 : ¬ m = 0 := by omega
      have hm6 : ((m : Int) != 0) = true := by simpa using hm5
      clear hr hn hm2 hb1 hbl
      go_enter Try.func144, Try.ntmps144
      go_upto_region 1 with fail
      rw [← HW1.out]
      clear HW1
      go_wp2_with (refine wp_makeB rfl (.tmp 15) (.tmp 15) rfl W1.heap.size .i64 .i64 m rfl rfl (by omega) (Nat.le_refl _) ?_; intro w2 own2 hg2)
      go_ret
      obtain ⟨A2, c2, e2, in2⟩ := own2.inB
      rw [List.length_replicate] at e2
      injection e2 with e21 e22 e23
      subst e21 e23
      rw [HBL.out]
      exact ⟨_, _, rfl, by rw [HB1.out]; exact in2, hB1.trans (grown_below hg2 hB1.size (fun r e => by cases e) |>.mono (Nat.le_refl _) |> fun h => h)⟩
end Go.Proofs.Ytlelckdcmlpmdaa
/- loupelaw04: few. -/
namespace Go.Proofs.Ytlelckdcmlpmdaa
open Go Go.RowKit Lou

def Few4 (xs : List ActV) (most : Nat) : Prop := (∀ x ∈ xs, x.keep.length ≤ 40) ∧ xs.length ≤ most
set_option maxRecDepth 100000 in
set_option maxHeartbeats 2000000 in
theorem few4_gives (w : World) (A : Option Addr) (c : Nat) (xs : List ActV) (h : InG w w.heap.size 5 A xs.length c (acsC xs)) (hl : xs.length ≤ 2600000000000) (most : Nat) :
    Calls Try.prog 81 #[.slice A xs.length c, .int .i64 (most : Int)] w (YesR w (Few4 xs most)) := by
  unfold YesR
  have HF : Hid (Few4 xs most ↔ ((∀ x ∈ xs, x.keep.length ≤ 40) ∧ xs.length ≤ most)) := Lib.hid Iff.rfl
  generalize Few4 xs most = PF at *
  go_enter Try.func81, Try.ntmps81
  go_wp2
  go_loopw [5] (fun i wr => ∃ k : Nat, k ≤ xs.length ∧ i = .int .i64 k ∧ Hid (∀ j, (hj : j < xs.length) → j < k → xs[j].keep.length ≤ 40) ∧ wr = w) (fun i _ => xs.length - (intOf i).toNat)
  case atStart => exact ⟨0, by omega, rfl, Lib.hid (fun j _ h => by omega), rfl⟩
  case round =>
    obtain ⟨k, hk, rfl, HA, rfl⟩ := hrel
    by_cases hlt : k < xs.length
    · obtain ⟨g, o, rfl, hg, _⟩ := h.lies (by omega)
      have hr := h.elem k hlt
      rw [acsC_elem xs k hlt] at hr
      have d4 : wr.cell? ⟨g, o + k * 5 + 4, none⟩ = some (.slice xs[k].K xs[k].keep.length xs[k].kc) := hr 4 _ rfl
      have i1 : (0 : Int) ≤ (k : Int) := by omega
      have i2 : (k : Int) < (xs.length : Int) := by omega
      have hwk : IntKind.i64.wrap ((k : Int) + 1) = (k : Int) + 1 := wrap_i64_fr _ (by omega) (by omega)
      by_cases h40 : xs[k].keep.length ≤ 40
      · have HN : Hid (∀ j, (hj : j < xs.length) → j < k + 1 → xs[j].keep.length ≤ 40) := Lib.hid (fun j hj h1 => by
          by_cases e : j = k
          · subst e; exact h40
          · exact HA.out j hj (by omega))
        have h40' : ¬ (40 : Int) < (xs[k].keep.length : Int) := by omega
        clear hr
        generalize xs[k] = x at *
        go_wp2
        exact ⟨⟨k + 1, by omega, by simp, HN, by first | rfl | trivial⟩, by simp [intOf]; omega⟩
      · have HN : Hid (¬ PF) := Lib.hid (fun hP => h40 ((HF.out.1 hP).1 _ (List.getElem_mem hlt)))
        have h40' : (40 : Int) < (xs[k].keep.length : Int) := by omega
        clear hr
        generalize xs[k] = x at *
        go_wp2
        go_ret
        exact ⟨false, rfl, Below.refl _ _, (fun e => by cases e), fun hP => absurd hP HN.out⟩
    · obtain rfl : k = xs.length := by omega
      by_cases hm : xs.length ≤ most
      · have HP : Hid PF := Lib.hid (HF.out.2 ⟨fun x hx => by
          obtain ⟨j, hj, rfl⟩ := List.getElem_of_mem hx
          exact HA.out j hj hj, hm⟩)
        have hm' : (xs.length : Int) ≤ (most : Int) := by omega
        go_wp2
        go_ret
        first | exact ⟨true, by simp [hm], Below.refl _ _, fun _ => HP.out, fun _ => rfl⟩ | exact .inr ⟨rfl, Below.refl _ _, HP.out⟩
      · have HP : Hid (¬ PF) := Lib.hid (fun hP => hm (HF.out.1 hP).2)
        have hm' : ¬ (xs.length : Int) ≤ (most : Int) := by omega
        go_wp2
        go_ret
        exact .inl ⟨rfl, Below.refl _ _, HP.out⟩
end Go.Proofs.Ytlelckdcmlpmdaa
/- louperef04: Crash. -/
namespace Go.Proofs.Ytlelckdcmlpmdaa
open Go Go.RowKit Lou

theorem two_oneR {v0 v1 : Value} (h0 : v0.oneCell' = true) (h1 : v1.oneCell' = true) : ∀ v ∈ (#[v0, v1] : Array Value).toList, v.oneCell' = true := by
  intro v hv
  simp at hv
  rcases hv with rfl | rfl <;> assumption
theorem ownG_rest' {w : World} {base r : Nat} {T : TypeId} {sz n : Nat} {v : Value} {xs : List Value} (h : w.ownsRow base T sz v n xs) (hr : ∀ q, v.ownBlock = some q → q ≠ r) (i : Nat) (u : Value) : (w.setCell ⟨r, i, none⟩ u).ownsRow base T sz v n xs :=
  ownG_later h fun q hq => Below.heap_setCell w ⟨r, i, none⟩ u q (hr q hq)
set_option maxRecDepth 100000 in
set_option maxHeartbeats 2000000 in
theorem rcrash_bad (w : World) (many : Int) (As : Option Addr) (ns cs : Nat) (Al : Option Addr) (nl cl : Nat) (left : Int) (t : Int) (K : Value) (ht : t < 0 ∨ 63 < t) : Calls Try.prog 148 #[VAL many As ns cs Al nl cl left, .int .i64 t, K] w fun e w' => e = .returned (.tuple #[VAL many As ns cs Al nl cl left, .int .i64 2]) ∧ Below w.heap.size w w' := by
  obtain ⟨b1, b2, hB1⟩ := rcW_is w #[.int .i64 many, .slice As ns cs, .slice Al nl cl, .int .i64 left]
  unfold VAL at *
  obtain ⟨W1, hW1⟩ : ∃ W1, W1 = rcW w #[.int .i64 many, .slice As ns cs, .slice Al nl cl, .int .i64 left] := ⟨_, rfl⟩
  rw [← hW1] at b1 b2 hB1
  unfold rcW zeroR at hW1
  have HW1 := Lib.hid hW1
  clear hW1
  have a0 : W1.cell? ⟨w.heap.size, 0, none⟩ = some (.int .i64 many) := by rw [b1.cell]; rfl
  have a1 : W1.cell? ⟨w.heap.size, 1, none⟩ = some (.slice As ns cs) := by rw [b1.cell]; rfl
  have a2 : W1.cell? ⟨w.heap.size, 2, none⟩ = some (.slice Al nl cl) := by rw [b1.cell]; rfl
  have a3 : W1.cell? ⟨w.heap.size, 3, none⟩ = some (.int .i64 left) := by rw [b1.cell]; rfl
  have f3 := b1.free 3
  rcases ha : decide (t < 0) with _ | _
  · have h1 : 63 < t := by simp at ha; omega
    clear ht
    go_enter Try.func148, Try.ntmps148
    go_upto_region 1 with fail
    rw [← HW1.out]
    clear HW1
    go_wp2_with (first
      | (refine wp_loadW rfl 141 (.tmp 3) rfl (w.heap.size) rfl rowRDisk b1 (by rfl) ?_)
      | (refine wp_storeW rfl 141 (.tmp 6) (.tmp 19) rfl (w.heap.size + 1) rfl rfl rowRDisk b2 (by rfl) (by rfl) (four_oneR rfl rfl rfl rfl) ?_))
    exact bodyPost_ret (results_cellW_tmp 6 7 rfl rfl rfl rowRDisk (b2.setRow _) (by rfl)) rfl ⟨rfl, below_setRow hB1 (by omega) _⟩
  · clear ht
    go_enter Try.func148, Try.ntmps148
    go_upto_region 1 with fail
    rw [← HW1.out]
    clear HW1
    go_wp2_with (first
      | (refine wp_loadW rfl 141 (.tmp 3) rfl (w.heap.size) rfl rowRDisk b1 (by rfl) ?_)
      | (refine wp_storeW rfl 141 (.tmp 6) (.tmp 19) rfl (w.heap.size + 1) rfl rfl rowRDisk b2 (by rfl) (by rfl) (four_oneR rfl rfl rfl rfl) ?_))
    exact bodyPost_ret (results_cellW_tmp 6 7 rfl rfl rfl rowRDisk (b2.setRow _) (by rfl)) rfl ⟨rfl, below_setRow hB1 (by omega) _⟩
set_option maxRecDepth 100000 in
set_option maxHeartbeats 8000000 in
theorem rcrash_ok (w : World) (many : Int) (sy ls : List (Nat × List UInt8)) (As : Option Addr) (cs : Nat) (Al : Option Addr) (cl : Nat) (left : Int) (h : RIs w w.heap.size sy ls As cs Al cl) (hn1 : sy.length ≤ 400000) (hn2 : ls.length ≤ 400000) (hw : Wide ls) (hws : Wide sy) (t : Nat) (ht : t ≤ 63) (K : Option Addr) (kc : Nat) (bs : List Bool) (hk : InG w w.heap.size 1 K bs.length kc (bs.map Value.bool)) (hnk : bs.length ≤ 1000000) :
    Calls Try.prog 148 #[VAL many As sy.length cs Al ls.length cl left, .int .i64 (t : Int), .slice K bs.length kc] w fun e w' => ∃ A' c', e = .returned (.tuple #[VAL many A' (sy ++ torn (gOf sy) (keptTo ls bs ls.length) t).length c' none 0 0 (-1), .int .i64 0]) ∧ RIs w' w'.heap.size (sy ++ torn (gOf sy) (keptTo ls bs ls.length) t) [] A' c' none 0 ∧ Below w.heap.size w w' := by
  generalize hout : sy ++ torn (gOf sy) (keptTo ls bs ls.length) t = fin at *
  have HOUT := Lib.hid hout
  clear hout
  obtain ⟨b1, b2, hB1⟩ := rcW_is w #[.int .i64 many, .slice As sy.length cs, .slice Al ls.length cl, .int .i64 left]
  unfold VAL at *
  obtain ⟨W1, hW1⟩ : ∃ W1, W1 = rcW w #[.int .i64 many, .slice As sy.length cs, .slice Al ls.length cl, .int .i64 left] := ⟨_, rfl⟩
  rw [← hW1] at b1 b2 hB1
  unfold rcW zeroR at hW1
  have HW1 := Lib.hid hW1
  clear hW1
  have a0 : W1.cell? ⟨w.heap.size, 0, none⟩ = some (.int .i64 many) := by rw [b1.cell]; rfl
  have a1 : W1.cell? ⟨w.heap.size, 1, none⟩ = some (.slice As sy.length cs) := by rw [b1.cell]; rfl
  have a2 : W1.cell? ⟨w.heap.size, 2, none⟩ = some (.slice Al ls.length cl) := by rw [b1.cell]; rfl
  have a3 : W1.cell? ⟨w.heap.size, 3, none⟩ = some (.int .i64 left) := by rw [b1.cell]; rfl
  have f3 := b1.free 3
  have hs0 := h.s
  have hl0 := h.l
  have hk0 := hk
  have hs := (h.s.below hB1).more hB1.size
  have h3 : decide ((t : Int) < 0) = false := by simp
  have h4 : ¬ (63 : Int) < (t : Int) := by omega
  have hE0 : (W1.alloc (.cells #[] 256)).ownsRow W1.heap.size 256 2 (.slice (some ⟨W1.heap.size, 0, none⟩) 0 0) 0 [] := World.ownsRow_lit W1 #[] 0 (Nat.le_refl _) (by unfold maxLen; omega) rfl
  have hBe : Below W1.heap.size W1 (W1.alloc (.cells #[] 256)) := (Below.refl _ W1).alloc (Nat.le_refl _) _
  have hle := hBe.size
  have hp1 := b1.lt
  have hp2 := b2.lt
  clear h hk
  go_enter Try.func148, Try.ntmps148
  go_upto_region 1 with fail
  rw [← HW1.out]
  clear HW1
  go_wp2_with (at_builtin; refine wp_appG rfl elRW (.tmp 20) (.tmp 22) rfl W1.heap.size (.slice (some ⟨W1.heap.size, 0, none⟩) 0 0) 0 [] rfl hE0 _ As sy.length cs (wsC sy) rfl (hs.below hBe) (by unfold maxLen; omega) (by omega) hle ?_; intro v3 w3 own3 hg3; have hB3 := hBe.trans (grown_below hg3 hle (ownG_ge hE0)); rw [List.nil_append, Nat.zero_add] at own3; obtain ⟨A3, c3, rfl, _⟩ := ownG_in own3 (wsC_one _))
  have a23 : w3.cell? ⟨w.heap.size, 2, none⟩ = some (.slice Al ls.length cl) := (hB3.cell (p := ⟨w.heap.size, 2, none⟩) hp1).trans a2
  have hBw3 : Below w.heap.size w w3 := hB1.trans (hB3.mono hB1.size)
  have hk3 := hk0.below hBw3
  have hkeepK : ∀ j : Nat, (hj : j < bs.length) → ∀ g o, K = some ⟨g, o, none⟩ → w3.cell? ⟨g, o + j, none⟩ = some (.bool bs[j]) := fun j hj g o e => by
    obtain ⟨g', o', e', _, hr⟩ := hk3.lies (by omega)
    rw [e] at e'
    injection e' with e'
    injection e' with e1 e2
    subst e1 e2
    exact hr j _ (by simp [hj])
  have HLK := Lib.hid (lastK_lt bs)
  go_loopw [9, 10] (fun tn i wr => ∃ (k : Nat) (q : Int), k ≤ ls.length ∧ k ≤ bs.length ∧ i = .int .i64 k ∧ tn = .int .i64 q ∧ Hid (q = lastK bs k) ∧ wr = w3) (fun _ i _ => ls.length - (intOf i).toNat)
  case atStart => exact ⟨0, -1, by omega, by omega, rfl, rfl, Lib.hid rfl, rfl⟩
  case round =>
    obtain ⟨k, q, hk1, hk2, rfl, rfl, HQ, rfl⟩ := hrel
    by_cases hlt : k < ls.length ∧ k < bs.length
    · obtain ⟨hlt, hlt2⟩ := hlt
      obtain ⟨g, o, rfl, hg, _⟩ := hk0.lies (by omega)
      have d0 := hkeepK k hlt2 g o rfl
      have i1 : (0 : Int) ≤ (k : Int) := by omega
      have i2 : (k : Int) < (ls.length : Int) := by omega
      have i3 : (k : Int) < (bs.length : Int) := by omega
      have hwk : IntKind.i64.wrap ((k : Int) + 1) = (k : Int) + 1 := wrap_i64_fr _ (by omega) (by omega)
      have hge : bs.getD k false = bs[k] := by rw [List.getD_eq_getElem?_getD, List.getElem?_eq_getElem hlt2]; rfl
      have HT : bs[k] = true → Hid ((k : Int) = lastK bs (k + 1)) := fun e => Lib.hid (by rw [show lastK bs (k + 1) = if bs.getD k false then (k : Int) else lastK bs k from rfl, hge, e]; rfl)
      have HF : bs[k] = false → Hid (q = lastK bs (k + 1)) := fun e => Lib.hid (by rw [show lastK bs (k + 1) = if bs.getD k false then (k : Int) else lastK bs k from rfl, hge, e]; exact HQ.out)
      clear hge hkeepK
      generalize bs[k] = b at *
      cases b with
      | true =>
        have HT := HT rfl
        clear HF
        go_wp2
        exact ⟨⟨k + 1, (k : Int), by omega, by omega, by simp, by first | rfl | trivial, HT, by first | rfl | trivial⟩, by simp [intOf]; omega⟩
      | false =>
        have HF := HF rfl
        clear HT
        go_wp2
        exact ⟨⟨k + 1, q, by omega, by omega, by simp, by first | rfl | trivial, HF, by first | rfl | trivial⟩, by simp [intOf]; omega⟩
    · have hq2 : Hid (q = lastK bs ls.length) := Lib.hid (by
        rw [HQ.out]
        exact (lastK_stop bs k ls.length hk1 fun j h1 h2 => getD_out bs j (by omega)).symm)
      obtain ⟨n, hn⟩ : ∃ n : Nat, n = (q + 1).toNat := ⟨_, rfl⟩
      have hql := lastK_lt bs ls.length
      rw [← hq2.out] at hql
      have hqn : q + 1 = (n : Int) := by omega
      have hnl : n ≤ ls.length := by omega
      have hqb : ∀ j : Nat, (j : Int) = q → bs.getD j false = true := fun j e => lastK_true bs ls.length j (by rw [← hq2.out, e])
      have hnb : n ≤ bs.length := by
        rcases Nat.eq_zero_or_pos n with h0 | h0
        · omega
        · have := hqb (n - 1) (by omega)
          rcases Nat.lt_or_ge (n - 1) bs.length with h1 | h1
          · omega
          · rw [getD_out bs _ h1] at this; cases this
      have HFIN : Hid (sy ++ torn (gOf sy) (keptTo ls bs n) t = fin) := Lib.hid (by rw [← HOUT.out, keptTo_last ls bs ls.length, ← hq2.out, hn])
      have HQN := Lib.hid hqn
      have HQB := Lib.hid hqb
      have hq1 : ∀ k : Nat, k < n → (k : Int) ≤ q := fun k h => by omega
      have hq3 : ¬ (n : Int) ≤ q := by omega
      have hcase : (k = ls.length ∨ (k < ls.length ∧ k = bs.length)) := by omega
      clear hn hql hqn hqb hlt HQ hq2
      have HKK := Lib.hid hkeepK
      clear hkeepK
      have INV0 : Hid (sy = sy ++ if 0 = n then torn (gOf sy) (keptTo ls bs 0) t else keptTo ls bs 0) := Lib.hid (by
        split
        · show sy = sy ++ torn (gOf sy) [] t
          rw [torn_none _ _ _ (.inl rfl), List.append_nil]
        · show sy = sy ++ []
          rw [List.append_nil])
      rcases hcase with hcase | ⟨hcase, hcase2⟩
      · subst hcase
        go_wp2
        go_loopw [8, 11] (fun v i wr => ∃ (k : Nat) (out : List (Nat × List UInt8)) (A : Option Addr) (c : Nat), k ≤ n ∧ i = .int .i64 k ∧ v = .slice A out.length c ∧ Hid (out = sy ++ if k = n then torn (gOf sy) (keptTo ls bs k) t else keptTo ls bs k) ∧ out.length ≤ sy.length + k ∧ wr.ownsRow W1.heap.size 256 2 (.slice A out.length c) out.length (wsC out) ∧ Below W1.heap.size W1 wr) (fun _ i _ => n - (intOf i).toNat)
        case atStart => exact ⟨0, sy, A3, c3, by omega, rfl, rfl, INV0, by omega, own3, hB3⟩
        case round =>
          clear INV0 hg3 hBw3 hk3 hBe hE0 own3
          obtain ⟨k, out, A, c, hkn, rfl, rfl, HO, hol, own, hBr⟩ := hrel
          have c2r : wr.cell? ⟨w.heap.size, 2, none⟩ = some (.slice Al ls.length cl) := (hBr.cell (p := ⟨w.heap.size, 2, none⟩) hp1).trans a2
          have c0r : wr.cell? ⟨w.heap.size, 0, none⟩ = some (.int .i64 many) := (hBr.cell (p := ⟨w.heap.size, 0, none⟩) hp1).trans a0
          have hBwr := hB1.trans (hBr.mono hB1.size)
          have HWO : Hid (k < n → Wide out) := Lib.hid (fun hh => by
            rw [HO.out, if_neg (by omega)]
            intro x hx
            rcases List.mem_append.1 hx with hx | hx
            · exact hws x hx
            · exact keptTo_wide hw bs k x hx)
          by_cases hlt : k < n
          · have hkq := hq1 k hlt
            have hlt2 : k < bs.length := by omega
            have hlt3 : k < ls.length := by omega
            obtain ⟨gk, ok, rfl, hgk, _⟩ := hk0.lies (by omega)
            have d0 : wr.cell? ⟨gk, ok + k, none⟩ = some (.bool bs[k]) := by
              obtain ⟨g', o', e', hg', hr⟩ := hk0.lies (by omega)
              injection e' with e'
              injection e' with e1 e2
              subst e1 e2
              exact (hBwr.cell (p := ⟨gk, ok + k, none⟩) hg').trans (hr k _ (by simp [hlt2]))
            have i1 : (0 : Int) ≤ (k : Int) := by omega
            have i2 : (k : Int) < (ls.length : Int) := by omega
            have i3 : (k : Int) < (bs.length : Int) := by omega
            have hwk : IntKind.i64.wrap ((k : Int) + 1) = (k : Int) + 1 := wrap_i64_fr _ (by omega) (by omega)
            have hge : bs.getD k false = bs[k] := by rw [List.getD_eq_getElem?_getD, List.getElem?_eq_getElem hlt2]; rfl
            have HST : keptTo ls bs (k + 1) = if bs[k] then keptTo ls bs k ++ [ls.getD k (0, zer64)] else keptTo ls bs k := by rw [keptTo_step, hge]
            have hOk : out = sy ++ keptTo ls bs k := by rw [HO.out, if_neg (by omega)]
            have HB : bs[k] = false → Hid (out = sy ++ if k + 1 = n then torn (gOf sy) (keptTo ls bs (k + 1)) t else keptTo ls bs (k + 1)) := fun e => Lib.hid (by
              rw [if_neg (fun hk1 => by
                have := HQB.out k (by have := HQN.out; omega)
                rw [hge, e] at this
                cases this), HST, e]
              exact hOk)
            have hge2 : ls.getD k (0, zer64) = ls[k] := by rw [List.getD_eq_getElem?_getD, List.getElem?_eq_getElem hlt3]; rfl
            rw [hge2] at HST
            obtain ⟨gl, ol, rfl, hgl, _⟩ := hl0.lies (by omega)
            obtain ⟨u0, u1⟩ := wr_at hl0 rfl k hlt3 hBwr
            have hx64 := hw ls[k] (List.getElem_mem hlt3)
            clear hge hge2
            generalize ls[k] = x at *
            obtain ⟨x1, x2⟩ := x
            simp only at u0 u1 hx64
            generalize bs[k] = b at *
            cases b with
            | false =>
              have HB := HB rfl
              clear HST hOk
              go_wp2
              exact ⟨⟨k + 1, out, A, c, by omega, by simp, rfl, HB, by omega, own, hBr⟩, by simp [intOf]; omega⟩
            | true =>
              clear HB
              simp only [if_true] at HST
              have HPL : (k + 1 = n → t = 0) → Hid (out ++ [(x1, x2)] = sy ++ if k + 1 = n then torn (gOf sy) (keptTo ls bs (k + 1)) t else keptTo ls bs (k + 1)) := fun e => Lib.hid (by
                rw [HST, hOk]
                split
                · rename_i hk1
                  rw [torn_none _ _ _ (.inr (e hk1)), List.append_assoc]
                · rw [List.append_assoc])
              have HTN : k + 1 = n → 0 < t → Hid (out ++ [(x1, x2.take t ++ (lastB out (x1 : Int)).drop t)] = sy ++ if k + 1 = n then torn (gOf sy) (keptTo ls bs (k + 1)) t else keptTo ls bs (k + 1)) := fun e h0 => Lib.hid (by
                rw [if_pos e, HST]
                unfold torn
                rw [if_neg (by simp; omega), List.dropLast_concat, laid_gOf, ← hOk]
                simp
                rw [hOk, List.append_assoc])
              have hko : out.length ≤ 800000 := by omega
              have n3 := BlkIs.new wr 256 #[.int .i64 0, .string { data := #[] }]
              have n4 := n3.setRow #[.int .i64 (x1 : Int), .string (str x2)]
              have hB4 : Below wr.heap.size wr ((wr.alloc (.cells #[.int .i64 0, .string { data := #[] }] 256)).setRow wr.heap.size #[.int .i64 (x1 : Int), .string (str x2)]) := below_setRow ((Below.refl _ wr).alloc (Nat.le_refl _) _) (Nat.le_refl _) _
              obtain ⟨W4, hW4⟩ : ∃ W, (wr.alloc (.cells #[.int .i64 0, .string { data := #[] }] 256)).setRow wr.heap.size #[.int .i64 (x1 : Int), .string (str x2)] = W := ⟨_, rfl⟩
              rw [hW4] at n4 hB4
              have HW4 := Lib.hid hW4
              have own4 := ownG_grow own hB4
              have hBw4 := hBr.trans (hB4.mono hBr.size)
              clear HST hOk hW4
              go_upto_region 15 with (refine wp_storeW rfl 256 (.tmp 12) (.tmp 56) rfl wr.heap.size rfl rfl rowRWrite n3 (by rfl) (by rfl) (two_oneR rfl rfl) ?_; rw [HW4.out])
              clear HW4 n3
              by_cases hkn1 : k + 1 = n
              · have hkq2 : (k : Int) = q := by have := HQN.out; omega
                rcases Nat.eq_zero_or_pos t with h0 | h0
                · have HP := HPL (fun _ => h0)
                  have ht0 : ¬ (0 : Int) < (t : Int) := by omega
                  clear h0
                  have hqk : q = (k : Int) := hkq2.symm
                  subst hqk
                  clear HPL HTN hkn1 hkq2
                  obtain ⟨stx, hstx⟩ : ∃ x, x = str x2 := ⟨_, rfl⟩
                  rw [← hstx] at n4
                  have HSX := Lib.hid hstx
                  clear hB4
                  first | rw [← hstx] | skip
                  clear hstx u1
                  have hB4b : Below W4.heap.size W4 (W4.alloc (.cells #[.int .i64 (x1 : Int), .string stx] 256)) := (Below.refl _ W4).alloc (Nat.le_refl _) _
                  have own6 := ownG_grow own4 hB4b
                  have hs6 : W1.heap.size ≤ (W4.alloc (.cells #[.int .i64 (x1 : Int), .string stx] 256)).heap.size := Nat.le_trans hBw4.size hB4b.size
                  have h1c : ∀ v ∈ ([.int .i64 (x1 : Int), .string stx] : List Value), v.oneCell' = true := fun v hv => by rcases List.mem_cons.1 hv with rfl | hv; rfl; obtain rfl := List.mem_singleton.1 hv; rfl
                  go_wp2_with (first
                    | (refine wp_loadW rfl 256 (.tmp 12) rfl wr.heap.size rfl rowRWrite n4 (by rfl) ?_)
                    | (at_builtin; refine wp_appG rfl elRW (.tmp 76) (.tmp 78) rfl W1.heap.size (.slice A out.length c) out.length (wsC out) rfl own6 _ _ 1 1 [.int .i64 (x1 : Int), .string stx] rfl (row_litR W4 256 2 [.int .i64 (x1 : Int), .string stx] rfl h1c) (by unfold maxLen; omega) (by omega) hs6 ?_; intro v7 w7 own7 hg7; obtain ⟨A7, c7, rfl, _⟩ := ownG_in own7 (fun v hv => by rcases List.mem_append.1 hv with h | h; exact wsC_one _ v h; exact h1c v h); have hB7 := (hBw4.trans (hB4b.mono hBw4.size)).trans (grown_below hg7 hs6 (ownG_ge own6))))
                  have hlen : (out ++ [(x1, x2)]).length = out.length + 1 := by simp
                  have hws : wsC (out ++ [(x1, x2)]) = wsC out ++ [.int .i64 (x1 : Int), .string stx] := by rw [wsC_append, HSX.out]; simp [wsC, wrC]
                  exact ⟨⟨k + 1, out ++ [(x1, x2)], A7, c7, by omega, by simp, by rw [hlen], HP, by rw [hlen]; omega, by rw [hlen, hws]; exact own7, hB7⟩, by simp [intOf]; omega⟩
                · have HP := HTN hkn1 h0
                  have ht0 : (0 : Int) < (t : Int) := by omega
                  have hqk : q = (k : Int) := hkq2.symm
                  subst hqk
                  clear HPL HTN hkn1 hkq2
                  go_wp2_with fail
                  have in4 : ∀ W, Below W4.heap.size W4 W → InG W W.heap.size 2 A out.length c (wsC out) := fun W hW => by
                    obtain ⟨A', c', e', i4⟩ := ownG_in (ownG_grow own4 hW) (wsC_one _)
                    injection e' with e1 e2 e3
                    subst e1 e3
                    exact i4
                  have hlb : (lastB out (x1 : Int)).length = 64 := lastB_len (HWO.out hlt) (x1 : Int)
                  have hSd : W4.drew.cell? ⟨wr.heap.size, 0, none⟩ = some (.int .i64 (x1 : Int)) ∧ W4.drew.cell? ⟨wr.heap.size, 1, none⟩ = some (.string (str x2)) := ⟨by show W4.cell? _ = _; rw [n4.cell]; rfl, by show W4.cell? _ = _; rw [n4.cell]; rfl⟩
                  have hSk : ∀ W', Below W4.heap.size W4 W' → W'.cell? ⟨wr.heap.size, 0, none⟩ = some (.int .i64 (x1 : Int)) ∧ W'.cell? ⟨wr.heap.size, 1, none⟩ = some (.string (str x2)) := fun W' hB => ⟨(hB.cell (p := ⟨wr.heap.size, 0, none⟩) n4.lt).trans hSd.1, (hB.cell (p := ⟨wr.heap.size, 1, none⟩) n4.lt).trans hSd.2⟩
                  refine RegF.start (fun W => W.cell? ⟨wr.heap.size, 0, none⟩ = some (.int .i64 (x1 : Int)) ∧ W.cell? ⟨wr.heap.size, 1, none⟩ = some (.string (str x2))) 12 (by kernel_rfl) ?_
                  refine RegF.take 0 (.pointer (some ⟨wr.heap.size, 1, none⟩)) rfl (by kernel_rfl) (by kernel_rfl) (by kernel_rfl) (by kernel_rfl) (fun _ _ _ h => h) hSd (RegF.yld rfl (fun W hW => by obtain ⟨hW1, hW2⟩ := hW; go_simp)) ?_
                  simp only [List.getElem_toArray, List.getElem_cons_zero, Act.put, List.setIfInBounds_toArray, List.set_cons_zero, List.set_cons_succ]
                  refine RegF.take 1 (.string (str x2)) rfl (by kernel_rfl) (by kernel_rfl) (by kernel_rfl) (by kernel_rfl) (fun _ _ _ h => h) hSd (RegF.yld rfl (fun W hW => by obtain ⟨hW1, hW2⟩ := hW; go_simp)) ?_
                  simp only [List.getElem_toArray, List.getElem_cons_succ, List.getElem_cons_zero, Act.put, List.setIfInBounds_toArray, List.set_cons_zero, List.set_cons_succ]
                  refine RegF.take 2 (.int .i64 (t : Int)) rfl (by kernel_rfl) (by kernel_rfl) (by kernel_rfl) (by kernel_rfl) (fun _ _ _ h => h) hSd (RegF.yld rfl (fun W hW => by obtain ⟨hW1, hW2⟩ := hW; go_simp)) ?_
                  simp only [List.getElem_toArray, List.getElem_cons_succ, List.getElem_cons_zero, Act.put, List.setIfInBounds_toArray, List.set_cons_zero, List.set_cons_succ]
                  refine RegF.take 3 (.string (str (x2.take t))) rfl (by kernel_rfl) (by kernel_rfl) (by kernel_rfl) (by kernel_rfl) (fun _ _ _ h => h) hSd (RegF.yld rfl (fun W hW => x_takeS rfl rfl rfl (by omega))) ?_
                  simp only [List.getElem_toArray, List.getElem_cons_succ, List.getElem_cons_zero, Act.put, List.setIfInBounds_toArray, List.set_cons_zero, List.set_cons_succ]
                  refine RegF.take 4 (.slice A out.length c) rfl (by kernel_rfl) (by kernel_rfl) (by kernel_rfl) (by kernel_rfl) (fun _ _ _ h => h) hSd (RegF.yld rfl (fun W hW => by obtain ⟨hW1, hW2⟩ := hW; go_simp)) ?_
                  simp only [List.getElem_toArray, List.getElem_cons_succ, List.getElem_cons_zero, Act.put, List.setIfInBounds_toArray, List.set_cons_zero, List.set_cons_succ]
                  refine RegF.take 5 (.pointer (some ⟨wr.heap.size, 0, none⟩)) rfl (by kernel_rfl) (by kernel_rfl) (by kernel_rfl) (by kernel_rfl) (fun _ _ _ h => h) hSd (RegF.yld rfl (fun W hW => by obtain ⟨hW1, hW2⟩ := hW; go_simp)) ?_
                  simp only [List.getElem_toArray, List.getElem_cons_succ, List.getElem_cons_zero, Act.put, List.setIfInBounds_toArray, List.set_cons_zero, List.set_cons_succ]
                  refine RegF.take 6 (.int .i64 (x1 : Int)) rfl (by kernel_rfl) (by kernel_rfl) (by kernel_rfl) (by kernel_rfl) (fun _ _ _ h => h) hSd (RegF.yld rfl (fun W hW => by obtain ⟨hW1, hW2⟩ := hW; go_simp)) ?_
                  simp only [List.getElem_toArray, List.getElem_cons_succ, List.getElem_cons_zero, Act.put, List.setIfInBounds_toArray, List.set_cons_zero, List.set_cons_succ]
                  refine RegF.take 8 (.int .i64 (t : Int)) rfl (by kernel_rfl) (by kernel_rfl) (by kernel_rfl) (by kernel_rfl) (fun _ _ _ h => h) hSd (RegF.yld rfl (fun W hW => by obtain ⟨hW1, hW2⟩ := hW; go_simp)) ?_
                  simp only [List.getElem_toArray, List.getElem_cons_succ, List.getElem_cons_zero, Act.put, List.setIfInBounds_toArray, List.set_cons_zero, List.set_cons_succ]
                  refine RegF.one 7 (by kernel_rfl) ?_
                  refine RegF.opC 150 #[.tmp 68, .tmp 70] #[139, 3] rfl rfl rfl (enters_of Try.func150 (by kernel_rfl) rfl) #[.slice A out.length c, .int .i64 (x1 : Int)] (by simp only [List.map_toArray, List.map_cons, List.map_nil]; rfl) ((last_gives W4.drew A c out (in4 _ (Below.refl _ W4).drew) (by omega) (x1 : Int)).mono ?_)
                  rintro e w5 ⟨rfl, hB5⟩
                  have hB5 : Below W4.heap.size W4 w5 := (Below.refl _ W4).drew.trans hB5
                  refine ⟨_, rfl, fun _ => hSk _ hB5, ?_⟩
                  simp only [List.getElem_toArray, List.getElem_cons_succ, List.getElem_cons_zero, Act.put, List.setIfInBounds_toArray, List.set_cons_zero, List.set_cons_succ]
                  refine RegF.one 9 (by kernel_rfl) ?_
                  refine RegF.opV (w' := w5) (.string (str ((lastB out (x1 : Int)).drop t))) rfl rfl (x_dropS rfl rfl rfl (by omega)) ⟨fun _ => hSk _ hB5, ?_⟩
                  simp only [List.getElem_toArray, List.getElem_cons_succ, List.getElem_cons_zero, Act.put, List.setIfInBounds_toArray, List.set_cons_zero, List.set_cons_succ]
                  refine RegF.one 10 (by kernel_rfl) ?_
                  refine RegF.opV (w' := w5) (.string (str (x2.take t ++ (lastB out (x1 : Int)).drop t))) rfl rfl (x_addS rfl rfl rfl (by rw [List.length_take, List.length_drop]; omega) Try.underlying9) ⟨fun _ => hSk _ hB5, ?_⟩
                  simp only [List.getElem_toArray, List.getElem_cons_succ, List.getElem_cons_zero, Act.put, List.setIfInBounds_toArray, List.set_cons_zero, List.set_cons_succ]
                  refine RegF.one 11 (by kernel_rfl) ?_
                  refine RegF.opV (w' := w5) (.pointer (some ⟨wr.heap.size, 1, none⟩)) rfl rfl (by go_simp) ⟨fun _ => hSk _ hB5, ?_⟩
                  simp only [List.getElem_toArray, List.getElem_cons_succ, List.getElem_cons_zero, Act.put, List.setIfInBounds_toArray, List.set_cons_zero, List.set_cons_succ]
                  have n5 := n4.below hB5 n4.lt
                  have c5 : w5.cell? ⟨wr.heap.size, 1, none⟩ = some (.string (str x2)) := (hSk _ hB5).2
                  have f5 := n5.free 1
                  obtain ⟨y, hy⟩ : ∃ y, y = x2.take t ++ (lastB out (x1 : Int)).drop t := ⟨_, rfl⟩
                  rw [← hy] at HP ⊢
                  have n6 := n5.set 1 (.string (str y))
                  have hB6 : Below W4.heap.size W4 (w5.setCell ⟨wr.heap.size, 1, none⟩ (.string (str y))) → True := fun _ => trivial
                  refine RegF.one 12 (by kernel_rfl) ?_
                  refine RegF.opS (w' := w5.setCell ⟨wr.heap.size, 1, none⟩ (.string (str y))) rfl rfl (by go_simp) ⟨fun h => absurd rfl h, ?_⟩
                  simp only [List.getElem_toArray, List.getElem_cons_succ, List.getElem_cons_zero, Act.put]
                  refine RegF.done (by kernel_rfl) ?_
                  have own5 := ownG_grow own4 hB5
                  have own6' := ownG_rest' own5 (r := wr.heap.size) (fun r hr => by have h1 := ownG_lt own r hr; omega) 1 (.string (str y))
                  have hBw6 := (hBw4.trans (hB5.mono hBw4.size)).setCell (p := ⟨wr.heap.size, 1, none⟩) hBr.size (.string (str y))
                  replace n6 : BlkIs (w5.setCell ⟨wr.heap.size, 1, none⟩ (.string (str y))) wr.heap.size 256 #[.int .i64 (x1 : Int), .string (str y)] := n6
                  clear own4 hBw4 n4 hSk hSd n5 c5 f5 hB5 own5 in4 hB6 hB4
                  obtain ⟨W6, hW6⟩ : ∃ W, w5.setCell ⟨wr.heap.size, 1, none⟩ (.string (str y)) = W := ⟨_, rfl⟩
                  rw [hW6] at n6 hBw6 own6'
                  rw [hW6]
                  clear hW6
                  have own4 := own6'
                  have hBw4 := hBw6
                  clear own6' hBw6
                  obtain ⟨sty, hsty⟩ : ∃ x, x = str y := ⟨_, rfl⟩
                  rw [← hsty] at n6
                  rw [← hsty]
                  have HSY := Lib.hid hsty
                  clear hsty hy
                  have hB4b : Below W6.heap.size W6 (W6.alloc (.cells #[.int .i64 (x1 : Int), .string sty] 256)) := (Below.refl _ W6).alloc (Nat.le_refl _) _
                  have own6 := ownG_grow own4 hB4b
                  have hs6 : W1.heap.size ≤ (W6.alloc (.cells #[.int .i64 (x1 : Int), .string sty] 256)).heap.size := Nat.le_trans hBw4.size hB4b.size
                  have h1c : ∀ v ∈ ([.int .i64 (x1 : Int), .string sty] : List Value), v.oneCell' = true := fun v hv => by rcases List.mem_cons.1 hv with rfl | hv; rfl; obtain rfl := List.mem_singleton.1 hv; rfl
                  go_wp2_with (first
                    | (refine wp_loadW rfl 256 (.tmp 12) rfl wr.heap.size rfl rowRWrite n6 (by rfl) ?_)
                    | (at_builtin; refine wp_appG rfl elRW (.tmp 76) (.tmp 78) rfl W1.heap.size (.slice A out.length c) out.length (wsC out) rfl own6 _ _ 1 1 [.int .i64 (x1 : Int), .string sty] rfl (row_litR W6 256 2 [.int .i64 (x1 : Int), .string sty] rfl h1c) (by unfold maxLen; omega) (by omega) hs6 ?_; intro v7 w7 own7 hg7; obtain ⟨A7, c7, rfl, _⟩ := ownG_in own7 (fun v hv => by rcases List.mem_append.1 hv with h | h; exact wsC_one _ v h; exact h1c v h); have hB7 := (hBw4.trans (hB4b.mono hBw4.size)).trans (grown_below hg7 hs6 (ownG_ge own6))))
                  have hlen : (out ++ [(x1, y)]).length = out.length + 1 := by simp
                  have hws : wsC (out ++ [(x1, y)]) = wsC out ++ [.int .i64 (x1 : Int), .string sty] := by rw [wsC_append, HSY.out]; simp [wsC, wrC]
                  exact ⟨⟨k + 1, out ++ [(x1, y)], A7, c7, by omega, by simp, by rw [hlen], HP, by rw [hlen]; omega, by rw [hlen, hws]; exact own7, hB7⟩, by simp [intOf]; omega⟩
              · have hkq2 : ¬ (k : Int) = q := by have := HQN.out; omega
                have HP := HPL (fun e => absurd e hkn1)
                clear HPL HTN hkn1
                obtain ⟨stx, hstx⟩ : ∃ x, x = str x2 := ⟨_, rfl⟩
                rw [← hstx] at n4
                have HSX := Lib.hid hstx
                clear hB4
                first | rw [← hstx] | skip
                clear hstx u1
                have hB4b : Below W4.heap.size W4 (W4.alloc (.cells #[.int .i64 (x1 : Int), .string stx] 256)) := (Below.refl _ W4).alloc (Nat.le_refl _) _
                have own6 := ownG_grow own4 hB4b
                have hs6 : W1.heap.size ≤ (W4.alloc (.cells #[.int .i64 (x1 : Int), .string stx] 256)).heap.size := Nat.le_trans hBw4.size hB4b.size
                have h1c : ∀ v ∈ ([.int .i64 (x1 : Int), .string stx] : List Value), v.oneCell' = true := fun v hv => by rcases List.mem_cons.1 hv with rfl | hv; rfl; obtain rfl := List.mem_singleton.1 hv; rfl
                go_wp2_with (first
                  | (refine wp_loadW rfl 256 (.tmp 12) rfl wr.heap.size rfl rowRWrite n4 (by rfl) ?_)
                  | (at_builtin; refine wp_appG rfl elRW (.tmp 76) (.tmp 78) rfl W1.heap.size (.slice A out.length c) out.length (wsC out) rfl own6 _ _ 1 1 [.int .i64 (x1 : Int), .string stx] rfl (row_litR W4 256 2 [.int .i64 (x1 : Int), .string stx] rfl h1c) (by unfold maxLen; omega) (by omega) hs6 ?_; intro v7 w7 own7 hg7; obtain ⟨A7, c7, rfl, _⟩ := ownG_in own7 (fun v hv => by rcases List.mem_append.1 hv with h | h; exact wsC_one _ v h; exact h1c v h); have hB7 := (hBw4.trans (hB4b.mono hBw4.size)).trans (grown_below hg7 hs6 (ownG_ge own6))))
                have hlen : (out ++ [(x1, x2)]).length = out.length + 1 := by simp
                have hws : wsC (out ++ [(x1, x2)]) = wsC out ++ [.int .i64 (x1 : Int), .string stx] := by rw [wsC_append, HSX.out]; simp [wsC, wrC]
                exact ⟨⟨k + 1, out ++ [(x1, x2)], A7, c7, by omega, by simp, by rw [hlen], HP, by rw [hlen]; omega, by rw [hlen, hws]; exact own7, hB7⟩, by simp [intOf]; omega⟩
          · obtain rfl : k = n := by omega
            have HO2 : Hid (out = fin) := Lib.hid (by rw [HO.out, if_pos rfl]; exact HFIN.out)
            have b1r := b1.below hBr hp1
            have b2r := b2.below hBr hp2
            clear HO HFIN
            go_wp2_with (refine wp_storeW rfl 141 (.tmp 6) (.tmp 83) rfl (w.heap.size + 1) rfl rfl rowRDisk b2r (by rfl) (by rfl) (four_oneR rfl rfl rfl rfl) ?_)
            have hBf := below_setRow hBwr (show w.heap.size ≤ w.heap.size + 1 by omega) #[.int .i64 many, .slice A out.length c, .slice none 0 0, .int .i64 (-1)]
            have own9 : (wr.setRow (w.heap.size + 1) #[.int .i64 many, .slice A out.length c, .slice none 0 0, .int .i64 (-1)]).ownsRow W1.heap.size 256 2 (.slice A out.length c) out.length (wsC out) := ownG_later own fun r hr => setRow_other _ _ r _ (by have := ownG_ge own r hr; omega)
            obtain ⟨A7, c7, e7, in7⟩ := ownG_in own9 (wsC_one _)
            injection e7 with e71 e72 e73
            subst e71 e73
            rw [← HO2.out]
            exact bodyPost_ret (results_cellW_tmp 6 7 rfl rfl rfl rowRDisk (b2r.setRow _) (by rfl)) rfl ⟨A, c, rfl, ⟨in7, InG.mt _ _ _⟩, hBf⟩
      · have i7 : (k : Int) < (ls.length : Int) := by omega
        have i8 : ¬ (k : Int) < (bs.length : Int) := by omega
        clear hcase2
        go_wp2
        go_loopw [8, 11] (fun v i wr => ∃ (k : Nat) (out : List (Nat × List UInt8)) (A : Option Addr) (c : Nat), k ≤ n ∧ i = .int .i64 k ∧ v = .slice A out.length c ∧ Hid (out = sy ++ if k = n then torn (gOf sy) (keptTo ls bs k) t else keptTo ls bs k) ∧ out.length ≤ sy.length + k ∧ wr.ownsRow W1.heap.size 256 2 (.slice A out.length c) out.length (wsC out) ∧ Below W1.heap.size W1 wr) (fun _ i _ => n - (intOf i).toNat)
        case atStart => exact ⟨0, sy, A3, c3, by omega, rfl, rfl, INV0, by omega, own3, hB3⟩
        case round =>
          clear INV0 hg3 hBw3 hk3 hBe hE0 own3
          obtain ⟨k, out, A, c, hkn, rfl, rfl, HO, hol, own, hBr⟩ := hrel
          have c2r : wr.cell? ⟨w.heap.size, 2, none⟩ = some (.slice Al ls.length cl) := (hBr.cell (p := ⟨w.heap.size, 2, none⟩) hp1).trans a2
          have c0r : wr.cell? ⟨w.heap.size, 0, none⟩ = some (.int .i64 many) := (hBr.cell (p := ⟨w.heap.size, 0, none⟩) hp1).trans a0
          have hBwr := hB1.trans (hBr.mono hB1.size)
          have HWO : Hid (k < n → Wide out) := Lib.hid (fun hh => by
            rw [HO.out, if_neg (by omega)]
            intro x hx
            rcases List.mem_append.1 hx with hx | hx
            · exact hws x hx
            · exact keptTo_wide hw bs k x hx)
          by_cases hlt : k < n
          · have hkq := hq1 k hlt
            have hlt2 : k < bs.length := by omega
            have hlt3 : k < ls.length := by omega
            obtain ⟨gk, ok, rfl, hgk, _⟩ := hk0.lies (by omega)
            have d0 : wr.cell? ⟨gk, ok + k, none⟩ = some (.bool bs[k]) := by
              obtain ⟨g', o', e', hg', hr⟩ := hk0.lies (by omega)
              injection e' with e'
              injection e' with e1 e2
              subst e1 e2
              exact (hBwr.cell (p := ⟨gk, ok + k, none⟩) hg').trans (hr k _ (by simp [hlt2]))
            have i1 : (0 : Int) ≤ (k : Int) := by omega
            have i2 : (k : Int) < (ls.length : Int) := by omega
            have i3 : (k : Int) < (bs.length : Int) := by omega
            have hwk : IntKind.i64.wrap ((k : Int) + 1) = (k : Int) + 1 := wrap_i64_fr _ (by omega) (by omega)
            have hge : bs.getD k false = bs[k] := by rw [List.getD_eq_getElem?_getD, List.getElem?_eq_getElem hlt2]; rfl
            have HST : keptTo ls bs (k + 1) = if bs[k] then keptTo ls bs k ++ [ls.getD k (0, zer64)] else keptTo ls bs k := by rw [keptTo_step, hge]
            have hOk : out = sy ++ keptTo ls bs k := by rw [HO.out, if_neg (by omega)]
            have HB : bs[k] = false → Hid (out = sy ++ if k + 1 = n then torn (gOf sy) (keptTo ls bs (k + 1)) t else keptTo ls bs (k + 1)) := fun e => Lib.hid (by
              rw [if_neg (fun hk1 => by
                have := HQB.out k (by have := HQN.out; omega)
                rw [hge, e] at this
                cases this), HST, e]
              exact hOk)
            have hge2 : ls.getD k (0, zer64) = ls[k] := by rw [List.getD_eq_getElem?_getD, List.getElem?_eq_getElem hlt3]; rfl
            rw [hge2] at HST
            obtain ⟨gl, ol, rfl, hgl, _⟩ := hl0.lies (by omega)
            obtain ⟨u0, u1⟩ := wr_at hl0 rfl k hlt3 hBwr
            have hx64 := hw ls[k] (List.getElem_mem hlt3)
            clear hge hge2
            generalize ls[k] = x at *
            obtain ⟨x1, x2⟩ := x
            simp only at u0 u1 hx64
            generalize bs[k] = b at *
            cases b with
            | false =>
              have HB := HB rfl
              clear HST hOk
              go_wp2
              exact ⟨⟨k + 1, out, A, c, by omega, by simp, rfl, HB, by omega, own, hBr⟩, by simp [intOf]; omega⟩
            | true =>
              clear HB
              simp only [if_true] at HST
              have HPL : (k + 1 = n → t = 0) → Hid (out ++ [(x1, x2)] = sy ++ if k + 1 = n then torn (gOf sy) (keptTo ls bs (k + 1)) t else keptTo ls bs (k + 1)) := fun e => Lib.hid (by
                rw [HST, hOk]
                split
                · rename_i hk1
                  rw [torn_none _ _ _ (.inr (e hk1)), List.append_assoc]
                · rw [List.append_assoc])
              have HTN : k + 1 = n → 0 < t → Hid (out ++ [(x1, x2.take t ++ (lastB out (x1 : Int)).drop t)] = sy ++ if k + 1 = n then torn (gOf sy) (keptTo ls bs (k + 1)) t else keptTo ls bs (k + 1)) := fun e h0 => Lib.hid (by
                rw [if_pos e, HST]
                unfold torn
                rw [if_neg (by simp; omega), List.dropLast_concat, laid_gOf, ← hOk]
                simp
                rw [hOk, List.append_assoc])
              have hko : out.length ≤ 800000 := by omega
              have n3 := BlkIs.new wr 256 #[.int .i64 0, .string { data := #[] }]
              have n4 := n3.setRow #[.int .i64 (x1 : Int), .string (str x2)]
              have hB4 : Below wr.heap.size wr ((wr.alloc (.cells #[.int .i64 0, .string { data := #[] }] 256)).setRow wr.heap.size #[.int .i64 (x1 : Int), .string (str x2)]) := below_setRow ((Below.refl _ wr).alloc (Nat.le_refl _) _) (Nat.le_refl _) _
              obtain ⟨W4, hW4⟩ : ∃ W, (wr.alloc (.cells #[.int .i64 0, .string { data := #[] }] 256)).setRow wr.heap.size #[.int .i64 (x1 : Int), .string (str x2)] = W := ⟨_, rfl⟩
              rw [hW4] at n4 hB4
              have HW4 := Lib.hid hW4
              have own4 := ownG_grow own hB4
              have hBw4 := hBr.trans (hB4.mono hBr.size)
              clear HST hOk hW4
              go_upto_region 15 with (refine wp_storeW rfl 256 (.tmp 12) (.tmp 56) rfl wr.heap.size rfl rfl rowRWrite n3 (by rfl) (by rfl) (two_oneR rfl rfl) ?_; rw [HW4.out])
              clear HW4 n3
              by_cases hkn1 : k + 1 = n
              · have hkq2 : (k : Int) = q := by have := HQN.out; omega
                rcases Nat.eq_zero_or_pos t with h0 | h0
                · have HP := HPL (fun _ => h0)
                  have ht0 : ¬ (0 : Int) < (t : Int) := by omega
                  clear h0
                  have hqk : q = (k : Int) := hkq2.symm
                  subst hqk
                  clear HPL HTN hkn1 hkq2
                  obtain ⟨stx, hstx⟩ : ∃ x, x = str x2 := ⟨_, rfl⟩
                  rw [← hstx] at n4
                  have HSX := Lib.hid hstx
                  clear hB4
                  first | rw [← hstx] | skip
                  clear hstx u1
                  have hB4b : Below W4.heap.size W4 (W4.alloc (.cells #[.int .i64 (x1 : Int), .string stx] 256)) := (Below.refl _ W4).alloc (Nat.le_refl _) _
                  have own6 := ownG_grow own4 hB4b
                  have hs6 : W1.heap.size ≤ (W4.alloc (.cells #[.int .i64 (x1 : Int), .string stx] 256)).heap.size := Nat.le_trans hBw4.size hB4b.size
                  have h1c : ∀ v ∈ ([.int .i64 (x1 : Int), .string stx] : List Value), v.oneCell' = true := fun v hv => by rcases List.mem_cons.1 hv with rfl | hv; rfl; obtain rfl := List.mem_singleton.1 hv; rfl
                  go_wp2_with (first
                    | (refine wp_loadW rfl 256 (.tmp 12) rfl wr.heap.size rfl rowRWrite n4 (by rfl) ?_)
                    | (at_builtin; refine wp_appG rfl elRW (.tmp 76) (.tmp 78) rfl W1.heap.size (.slice A out.length c) out.length (wsC out) rfl own6 _ _ 1 1 [.int .i64 (x1 : Int), .string stx] rfl (row_litR W4 256 2 [.int .i64 (x1 : Int), .string stx] rfl h1c) (by unfold maxLen; omega) (by omega) hs6 ?_; intro v7 w7 own7 hg7; obtain ⟨A7, c7, rfl, _⟩ := ownG_in own7 (fun v hv => by rcases List.mem_append.1 hv with h | h; exact wsC_one _ v h; exact h1c v h); have hB7 := (hBw4.trans (hB4b.mono hBw4.size)).trans (grown_below hg7 hs6 (ownG_ge own6))))
                  have hlen : (out ++ [(x1, x2)]).length = out.length + 1 := by simp
                  have hws : wsC (out ++ [(x1, x2)]) = wsC out ++ [.int .i64 (x1 : Int), .string stx] := by rw [wsC_append, HSX.out]; simp [wsC, wrC]
                  exact ⟨⟨k + 1, out ++ [(x1, x2)], A7, c7, by omega, by simp, by rw [hlen], HP, by rw [hlen]; omega, by rw [hlen, hws]; exact own7, hB7⟩, by simp [intOf]; omega⟩
                · have HP := HTN hkn1 h0
                  have ht0 : (0 : Int) < (t : Int) := by omega
                  have hqk : q = (k : Int) := hkq2.symm
                  subst hqk
                  clear HPL HTN hkn1 hkq2
                  go_wp2_with fail
                  have in4 : ∀ W, Below W4.heap.size W4 W → InG W W.heap.size 2 A out.length c (wsC out) := fun W hW => by
                    obtain ⟨A', c', e', i4⟩ := ownG_in (ownG_grow own4 hW) (wsC_one _)
                    injection e' with e1 e2 e3
                    subst e1 e3
                    exact i4
                  have hlb : (lastB out (x1 : Int)).length = 64 := lastB_len (HWO.out hlt) (x1 : Int)
                  have hSd : W4.drew.cell? ⟨wr.heap.size, 0, none⟩ = some (.int .i64 (x1 : Int)) ∧ W4.drew.cell? ⟨wr.heap.size, 1, none⟩ = some (.string (str x2)) := ⟨by show W4.cell? _ = _; rw [n4.cell]; rfl, by show W4.cell? _ = _; rw [n4.cell]; rfl⟩
                  have hSk : ∀ W', Below W4.heap.size W4 W' → W'.cell? ⟨wr.heap.size, 0, none⟩ = some (.int .i64 (x1 : Int)) ∧ W'.cell? ⟨wr.heap.size, 1, none⟩ = some (.string (str x2)) := fun W' hB => ⟨(hB.cell (p := ⟨wr.heap.size, 0, none⟩) n4.lt).trans hSd.1, (hB.cell (p := ⟨wr.heap.size, 1, none⟩) n4.lt).trans hSd.2⟩
                  refine RegF.start (fun W => W.cell? ⟨wr.heap.size, 0, none⟩ = some (.int .i64 (x1 : Int)) ∧ W.cell? ⟨wr.heap.size, 1, none⟩ = some (.string (str x2))) 12 (by kernel_rfl) ?_
                  refine RegF.take 0 (.pointer (some ⟨wr.heap.size, 1, none⟩)) rfl (by kernel_rfl) (by kernel_rfl) (by kernel_rfl) (by kernel_rfl) (fun _ _ _ h => h) hSd (RegF.yld rfl (fun W hW => by obtain ⟨hW1, hW2⟩ := hW; go_simp)) ?_
                  simp only [List.getElem_toArray, List.getElem_cons_zero, Act.put, List.setIfInBounds_toArray, List.set_cons_zero, List.set_cons_succ]
                  refine RegF.take 1 (.string (str x2)) rfl (by kernel_rfl) (by kernel_rfl) (by kernel_rfl) (by kernel_rfl) (fun _ _ _ h => h) hSd (RegF.yld rfl (fun W hW => by obtain ⟨hW1, hW2⟩ := hW; go_simp)) ?_
                  simp only [List.getElem_toArray, List.getElem_cons_succ, List.getElem_cons_zero, Act.put, List.setIfInBounds_toArray, List.set_cons_zero, List.set_cons_succ]
                  refine RegF.take 2 (.int .i64 (t : Int)) rfl (by kernel_rfl) (by kernel_rfl) (by kernel_rfl) (by kernel_rfl) (fun _ _ _ h => h) hSd (RegF.yld rfl (fun W hW => by obtain ⟨hW1, hW2⟩ := hW; go_simp)) ?_
                  simp only [List.getElem_toArray, List.getElem_cons_succ, List.getElem_cons_zero, Act.put, List.setIfInBounds_toArray, List.set_cons_zero, List.set_cons_succ]
                  refine RegF.take 3 (.string (str (x2.take t))) rfl (by kernel_rfl) (by kernel_rfl) (by kernel_rfl) (by kernel_rfl) (fun _ _ _ h => h) hSd (RegF.yld rfl (fun W hW => x_takeS rfl rfl rfl (by omega))) ?_
                  simp only [List.getElem_toArray, List.getElem_cons_succ, List.getElem_cons_zero, Act.put, List.setIfInBounds_toArray, List.set_cons_zero, List.set_cons_succ]
                  refine RegF.take 4 (.slice A out.length c) rfl (by kernel_rfl) (by kernel_rfl) (by kernel_rfl) (by kernel_rfl) (fun _ _ _ h => h) hSd (RegF.yld rfl (fun W hW => by obtain ⟨hW1, hW2⟩ := hW; go_simp)) ?_
                  simp only [List.getElem_toArray, List.getElem_cons_succ, List.getElem_cons_zero, Act.put, List.setIfInBounds_toArray, List.set_cons_zero, List.set_cons_succ]
                  refine RegF.take 5 (.pointer (some ⟨wr.heap.size, 0, none⟩)) rfl (by kernel_rfl) (by kernel_rfl) (by kernel_rfl) (by kernel_rfl) (fun _ _ _ h => h) hSd (RegF.yld rfl (fun W hW => by obtain ⟨hW1, hW2⟩ := hW; go_simp)) ?_
                  simp only [List.getElem_toArray, List.getElem_cons_succ, List.getElem_cons_zero, Act.put, List.setIfInBounds_toArray, List.set_cons_zero, List.set_cons_succ]
                  refine RegF.take 6 (.int .i64 (x1 : Int)) rfl (by kernel_rfl) (by kernel_rfl) (by kernel_rfl) (by kernel_rfl) (fun _ _ _ h => h) hSd (RegF.yld rfl (fun W hW => by obtain ⟨hW1, hW2⟩ := hW; go_simp)) ?_
                  simp only [List.getElem_toArray, List.getElem_cons_succ, List.getElem_cons_zero, Act.put, List.setIfInBounds_toArray, List.set_cons_zero, List.set_cons_succ]
                  refine RegF.take 8 (.int .i64 (t : Int)) rfl (by kernel_rfl) (by kernel_rfl) (by kernel_rfl) (by kernel_rfl) (fun _ _ _ h => h) hSd (RegF.yld rfl (fun W hW => by obtain ⟨hW1, hW2⟩ := hW; go_simp)) ?_
                  simp only [List.getElem_toArray, List.getElem_cons_succ, List.getElem_cons_zero, Act.put, List.setIfInBounds_toArray, List.set_cons_zero, List.set_cons_succ]
                  refine RegF.one 7 (by kernel_rfl) ?_
                  refine RegF.opC 150 #[.tmp 68, .tmp 70] #[139, 3] rfl rfl rfl (enters_of Try.func150 (by kernel_rfl) rfl) #[.slice A out.length c, .int .i64 (x1 : Int)] (by simp only [List.map_toArray, List.map_cons, List.map_nil]; rfl) ((last_gives W4.drew A c out (in4 _ (Below.refl _ W4).drew) (by omega) (x1 : Int)).mono ?_)
                  rintro e w5 ⟨rfl, hB5⟩
                  have hB5 : Below W4.heap.size W4 w5 := (Below.refl _ W4).drew.trans hB5
                  refine ⟨_, rfl, fun _ => hSk _ hB5, ?_⟩
                  simp only [List.getElem_toArray, List.getElem_cons_succ, List.getElem_cons_zero, Act.put, List.setIfInBounds_toArray, List.set_cons_zero, List.set_cons_succ]
                  refine RegF.one 9 (by kernel_rfl) ?_
                  refine RegF.opV (w' := w5) (.string (str ((lastB out (x1 : Int)).drop t))) rfl rfl (x_dropS rfl rfl rfl (by omega)) ⟨fun _ => hSk _ hB5, ?_⟩
                  simp only [List.getElem_toArray, List.getElem_cons_succ, List.getElem_cons_zero, Act.put, List.setIfInBounds_toArray, List.set_cons_zero, List.set_cons_succ]
                  refine RegF.one 10 (by kernel_rfl) ?_
                  refine RegF.opV (w' := w5) (.string (str (x2.take t ++ (lastB out (x1 : Int)).drop t))) rfl rfl (x_addS rfl rfl rfl (by rw [List.length_take, List.length_drop]; omega) Try.underlying9) ⟨fun _ => hSk _ hB5, ?_⟩
                  simp only [List.getElem_toArray, List.getElem_cons_succ, List.getElem_cons_zero, Act.put, List.setIfInBounds_toArray, List.set_cons_zero, List.set_cons_succ]
                  refine RegF.one 11 (by kernel_rfl) ?_
                  refine RegF.opV (w' := w5) (.pointer (some ⟨wr.heap.size, 1, none⟩)) rfl rfl (by go_simp) ⟨fun _ => hSk _ hB5, ?_⟩
                  simp only [List.getElem_toArray, List.getElem_cons_succ, List.getElem_cons_zero, Act.put, List.setIfInBounds_toArray, List.set_cons_zero, List.set_cons_succ]
                  have n5 := n4.below hB5 n4.lt
                  have c5 : w5.cell? ⟨wr.heap.size, 1, none⟩ = some (.string (str x2)) := (hSk _ hB5).2
                  have f5 := n5.free 1
                  obtain ⟨y, hy⟩ : ∃ y, y = x2.take t ++ (lastB out (x1 : Int)).drop t := ⟨_, rfl⟩
                  rw [← hy] at HP ⊢
                  have n6 := n5.set 1 (.string (str y))
                  have hB6 : Below W4.heap.size W4 (w5.setCell ⟨wr.heap.size, 1, none⟩ (.string (str y))) → True := fun _ => trivial
                  refine RegF.one 12 (by kernel_rfl) ?_
                  refine RegF.opS (w' := w5.setCell ⟨wr.heap.size, 1, none⟩ (.string (str y))) rfl rfl (by go_simp) ⟨fun h => absurd rfl h, ?_⟩
                  simp only [List.getElem_toArray, List.getElem_cons_succ, List.getElem_cons_zero, Act.put]
                  refine RegF.done (by kernel_rfl) ?_
                  have own5 := ownG_grow own4 hB5
                  have own6' := ownG_rest' own5 (r := wr.heap.size) (fun r hr => by have h1 := ownG_lt own r hr; omega) 1 (.string (str y))
                  have hBw6 := (hBw4.trans (hB5.mono hBw4.size)).setCell (p := ⟨wr.heap.size, 1, none⟩) hBr.size (.string (str y))
                  replace n6 : BlkIs (w5.setCell ⟨wr.heap.size, 1, none⟩ (.string (str y))) wr.heap.size 256 #[.int .i64 (x1 : Int), .string (str y)] := n6
                  clear own4 hBw4 n4 hSk hSd n5 c5 f5 hB5 own5 in4 hB6 hB4
                  obtain ⟨W6, hW6⟩ : ∃ W, w5.setCell ⟨wr.heap.size, 1, none⟩ (.string (str y)) = W := ⟨_, rfl⟩
                  rw [hW6] at n6 hBw6 own6'
                  rw [hW6]
                  clear hW6
                  have own4 := own6'
                  have hBw4 := hBw6
                  clear own6' hBw6
                  obtain ⟨sty, hsty⟩ : ∃ x, x = str y := ⟨_, rfl⟩
                  rw [← hsty] at n6
                  rw [← hsty]
                  have HSY := Lib.hid hsty
                  clear hsty hy
                  have hB4b : Below W6.heap.size W6 (W6.alloc (.cells #[.int .i64 (x1 : Int), .string sty] 256)) := (Below.refl _ W6).alloc (Nat.le_refl _) _
                  have own6 := ownG_grow own4 hB4b
                  have hs6 : W1.heap.size ≤ (W6.alloc (.cells #[.int .i64 (x1 : Int), .string sty] 256)).heap.size := Nat.le_trans hBw4.size hB4b.size
                  have h1c : ∀ v ∈ ([.int .i64 (x1 : Int), .string sty] : List Value), v.oneCell' = true := fun v hv => by rcases List.mem_cons.1 hv with rfl | hv; rfl; obtain rfl := List.mem_singleton.1 hv; rfl
                  go_wp2_with (first
                    | (refine wp_loadW rfl 256 (.tmp 12) rfl wr.heap.size rfl rowRWrite n6 (by rfl) ?_)
                    | (at_builtin; refine wp_appG rfl elRW (.tmp 76) (.tmp 78) rfl W1.heap.size (.slice A out.length c) out.length (wsC out) rfl own6 _ _ 1 1 [.int .i64 (x1 : Int), .string sty] rfl (row_litR W6 256 2 [.int .i64 (x1 : Int), .string sty] rfl h1c) (by unfold maxLen; omega) (by omega) hs6 ?_; intro v7 w7 own7 hg7; obtain ⟨A7, c7, rfl, _⟩ := ownG_in own7 (fun v hv => by rcases List.mem_append.1 hv with h | h; exact wsC_one _ v h; exact h1c v h); have hB7 := (hBw4.trans (hB4b.mono hBw4.size)).trans (grown_below hg7 hs6 (ownG_ge own6))))
                  have hlen : (out ++ [(x1, y)]).length = out.length + 1 := by simp
                  have hws : wsC (out ++ [(x1, y)]) = wsC out ++ [.int .i64 (x1 : Int), .string sty] := by rw [wsC_append, HSY.out]; simp [wsC, wrC]
                  exact ⟨⟨k + 1, out ++ [(x1, y)], A7, c7, by omega, by simp, by rw [hlen], HP, by rw [hlen]; omega, by rw [hlen, hws]; exact own7, hB7⟩, by simp [intOf]; omega⟩
              · have hkq2 : ¬ (k : Int) = q := by have := HQN.out; omega
                have HP := HPL (fun e => absurd e hkn1)
                clear HPL HTN hkn1
                obtain ⟨stx, hstx⟩ : ∃ x, x = str x2 := ⟨_, rfl⟩
                rw [← hstx] at n4
                have HSX := Lib.hid hstx
                clear hB4
                first | rw [← hstx] | skip
                clear hstx u1
                have hB4b : Below W4.heap.size W4 (W4.alloc (.cells #[.int .i64 (x1 : Int), .string stx] 256)) := (Below.refl _ W4).alloc (Nat.le_refl _) _
                have own6 := ownG_grow own4 hB4b
                have hs6 : W1.heap.size ≤ (W4.alloc (.cells #[.int .i64 (x1 : Int), .string stx] 256)).heap.size := Nat.le_trans hBw4.size hB4b.size
                have h1c : ∀ v ∈ ([.int .i64 (x1 : Int), .string stx] : List Value), v.oneCell' = true := fun v hv => by rcases List.mem_cons.1 hv with rfl | hv; rfl; obtain rfl := List.mem_singleton.1 hv; rfl
                go_wp2_with (first
                  | (refine wp_loadW rfl 256 (.tmp 12) rfl wr.heap.size rfl rowRWrite n4 (by rfl) ?_)
                  | (at_builtin; refine wp_appG rfl elRW (.tmp 76) (.tmp 78) rfl W1.heap.size (.slice A out.length c) out.length (wsC out) rfl own6 _ _ 1 1 [.int .i64 (x1 : Int), .string stx] rfl (row_litR W4 256 2 [.int .i64 (x1 : Int), .string stx] rfl h1c) (by unfold maxLen; omega) (by omega) hs6 ?_; intro v7 w7 own7 hg7; obtain ⟨A7, c7, rfl, _⟩ := ownG_in own7 (fun v hv => by rcases List.mem_append.1 hv with h | h; exact wsC_one _ v h; exact h1c v h); have hB7 := (hBw4.trans (hB4b.mono hBw4.size)).trans (grown_below hg7 hs6 (ownG_ge own6))))
                have hlen : (out ++ [(x1, x2)]).length = out.length + 1 := by simp
                have hws : wsC (out ++ [(x1, x2)]) = wsC out ++ [.int .i64 (x1 : Int), .string stx] := by rw [wsC_append, HSX.out]; simp [wsC, wrC]
                exact ⟨⟨k + 1, out ++ [(x1, x2)], A7, c7, by omega, by simp, by rw [hlen], HP, by rw [hlen]; omega, by rw [hlen, hws]; exact own7, hB7⟩, by simp [intOf]; omega⟩
          · obtain rfl : k = n := by omega
            have HO2 : Hid (out = fin) := Lib.hid (by rw [HO.out, if_pos rfl]; exact HFIN.out)
            have b1r := b1.below hBr hp1
            have b2r := b2.below hBr hp2
            clear HO HFIN
            go_wp2_with (refine wp_storeW rfl 141 (.tmp 6) (.tmp 83) rfl (w.heap.size + 1) rfl rfl rowRDisk b2r (by rfl) (by rfl) (four_oneR rfl rfl rfl rfl) ?_)
            have hBf := below_setRow hBwr (show w.heap.size ≤ w.heap.size + 1 by omega) #[.int .i64 many, .slice A out.length c, .slice none 0 0, .int .i64 (-1)]
            have own9 : (wr.setRow (w.heap.size + 1) #[.int .i64 many, .slice A out.length c, .slice none 0 0, .int .i64 (-1)]).ownsRow W1.heap.size 256 2 (.slice A out.length c) out.length (wsC out) := ownG_later own fun r hr => setRow_other _ _ r _ (by have := ownG_ge own r hr; omega)
            obtain ⟨A7, c7, e7, in7⟩ := ownG_in own9 (wsC_one _)
            injection e7 with e71 e72 e73
            subst e71 e73
            rw [← HO2.out]
            exact bodyPost_ret (results_cellW_tmp 6 7 rfl rfl rfl rowRDisk (b2r.setRow _) (by rfl)) rfl ⟨A, c, rfl, ⟨in7, InG.mt _ _ _⟩, hBf⟩
end Go.Proofs.Ytlelckdcmlpmdaa
/- loupelaw04.act: both disks' states; what keeps them. -/
namespace Go.Proofs.Ytlelckdcmlpmdaa
open Go Go.RowKit Lou

/-- Both disks' state: what was synced, what is loose, a stop. -/
structure DSt where
  sy : List (Nat × List UInt8)
  ls : List (Nat × List UInt8)
  left : Int
  stops : Bool
/-- A state that may be. -/
structure StOk (many : Nat) (s : DSt) : Prop where
  wsy : Wide s.sy
  wls : Wide s.ls
  at_ : ∀ x ∈ s.sy ++ s.ls, x.1 < many
  pos : s.stops = true → 0 ≤ s.left
  lo : -1000000 ≤ s.left
  hi : s.left ≤ 9223372036854775807
/-- The document's answer to a call. -/
def actS (many : Nat) (x : ActV) (s : DSt) : DSt :=
  if x.what = 0 ∨ x.what = 1 ∨ x.what = 2 then
    if rwE many x.at_ (relL s.stops s.left) (bytesOf x).length = 0 then { s with ls := s.ls ++ [(x.at_.toNat, bytesOf x)], left := lft s.stops s.left } else s
  else if x.what = 3 then
    if relL s.stops s.left = 0 then s else { s with sy := s.sy ++ s.ls, ls := [], left := lft s.stops s.left }
  else if x.what = 4 then
    if x.n < 0 then s else { s with left := x.n, stops := true }
  else if x.what = 5 then
    if x.n < 0 ∨ 63 < x.n then s else ⟨s.sy ++ torn (gOf s.sy) (keptTo s.ls x.keep s.ls.length) x.n.toNat, [], 0, false⟩
  else s
theorem relL_lft {stops : Bool} {left : Int} (h : stops = true → 0 ≤ left) (h0 : ¬ relL stops left = 0) : relL stops (lft stops left) = rlft (relL stops left) := by
  unfold relL lft rlft at *
  cases stops with
  | false => rfl
  | true =>
    have := h rfl
    simp only [if_true] at *
    rw [if_pos (by omega)]
/-- A row of writes lies in no block that holds no text. -/
theorem InG.noText {w : World} {B q g o n c : Nat} {xs : List (Nat × List UInt8)} {cs : Array Value} {T : TypeId} (h : InG w B 2 (some ⟨g, o, none⟩) n c (wsC xs)) (h0 : 0 < n) (hb : BlkIs w q T cs) (hs : ∀ (i : Nat) (s : ByteArray), cs[i]? ≠ some (Value.string s)) : g ≠ q := by
  intro e
  subst e
  obtain ⟨g', o', e, _, hr⟩ := h.lies h0
  injection e with e
  injection e with e1 e2
  subst e1 e2
  cases xs with
  | nil => have := h.len; simp [wsC] at this; omega
  | cons x t =>
    have := hr 1 (.string (str x.2)) rfl
    rw [hb.cell] at this
    exact hs _ _ this
theorem InG.grownT {w w' : World} {q n c : Nat} {A : Option Addr} {xs : List (Nat × List UInt8)} {cs : Array Value} {T : TypeId} (h : InG w w.heap.size 2 A n c (wsC xs)) (hb : BlkIs w q T cs) (hs : ∀ (i : Nat) (s : ByteArray), cs[i]? ≠ some (Value.string s)) (hg : w.grownBy w' (some q)) : InG w' w'.heap.size 2 A n c (wsC xs) := by
  refine ⟨h.le, h.max, h.nil, h.len, h.one, fun h0 => ?_⟩
  obtain ⟨g, o, e, hl, hr⟩ := h.lies h0
  subst e
  have hne := h.noText h0 hb hs
  exact ⟨g, o, rfl, Nat.lt_of_lt_of_le hl hg.size, fun j v hj => (World.cell?_of_block (hg.block g hl (fun e => hne (by injection e)))).trans (hr j v hj)⟩
theorem RIs.grownT {w w' : World} {q : Nat} {sy ls : List (Nat × List UInt8)} {As Al : Option Addr} {cs cl : Nat} {bs : Array Value} {T : TypeId} (h : RIs w w.heap.size sy ls As cs Al cl) (hb : BlkIs w q T bs) (hs : ∀ (i : Nat) (s : ByteArray), bs[i]? ≠ some (Value.string s)) (hg : w.grownBy w' (some q)) : RIs w' w'.heap.size sy ls As cs Al cl := ⟨h.s.grownT hb hs hg, h.l.grownT hb hs hg⟩
theorem noText4 (a b : Int) (A A' : Option Addr) (n c n' c' : Nat) : ∀ (i : Nat) (s : ByteArray), (#[.int .i64 a, .slice A n c, .slice A' n' c', .int .i64 b] : Array Value)[i]? ≠ some (Value.string s) := fun i s => by
  match i with
  | 0 => simp
  | 1 => simp
  | 2 => simp
  | 3 => simp
  | i + 4 => simp
theorem noText5 (r : Nat) (m : Int) (A : Option Addr) (n c : Nat) (l : Int) (b : Bool) : ∀ (i : Nat) (s : ByteArray), (dkC r m A n c l b)[i]? ≠ some (Value.string s) := fun i s => by
  unfold dkC
  match i with
  | 0 => simp
  | 1 => simp
  | 2 => simp
  | 3 => simp
  | 4 => simp
  | i + 5 => simp
/-- What was done to the disk itself leaves the document's rows. -/
theorem RIs.past {w w' : World} {p many : Nat} {g : Nat → List UInt8} {xs : List (Nat × List UInt8)} {left : Int} {stops : Bool} {sy ls : List (Nat × List UInt8)} {As Al : Option Addr} {cs cl : Nat} (h : RIs w w.heap.size sy ls As cs Al cl) (hD : DkIs w p many g xs left stops) (hg : w.grownBy w' (some p)) : RIs w' w'.heap.size sy ls As cs Al cl := by
  obtain ⟨r, A, c, hb, _⟩ := hD.has
  exact h.grownT hb (noText5 _ _ _ _ _ _ _) hg
theorem results3 {fn : Func} {P : Program} {a : Act} {w : World} {g : Nat} {T t : TypeId} {cs : Array Value} {u v : Value} (i k m : Tmp) (h : fn.results = #[.tmp i, .cell k T, .tmp m]) (hi : a.eval (.tmp i) = u) (hk : a.eval (.tmp k) = .pointer (some ⟨g, 0, none⟩)) (hm : a.eval (.tmp m) = v) {n : Nat} (hT : RowTy P T n) (hb : BlkIs w g t cs) (hn : cs.size = n) :
    (results fn a.tmps).run P w = .ok (.tuple #[u, .agg cs, v]) w := by
  have e : a.tmps.getD k undef = .pointer (some ⟨g, 0, none⟩) := hk
  have e2 : a.tmps.getD m undef = v := hm
  have e3 : a.tmps.getD i undef = u := hi
  unfold results
  simp only [h]
  simp [← Array.getD_eq_getD_getElem?, e, e2, e3, asAddr, run_loadW (hn ▸ hT) hb, Result.andThen]
/-- The world in which act has its boxes. -/
def acW (w : World) (cs xs : Array Value) : World := ((((w.alloc (.cells cs 141)).alloc (.cells xs 136)).alloc (.cells zeroR 141)).alloc (.cells zeroR 141)).setRow (w.heap.size + 1 + 1 + 1) cs
theorem acW_is (w : World) (cs xs : Array Value) : BlkIs (acW w cs xs) w.heap.size 141 cs ∧ BlkIs (acW w cs xs) (w.heap.size + 1) 136 xs ∧ BlkIs (acW w cs xs) (w.heap.size + 1 + 1) 141 #[.int .i64 0, .slice none 0 0, .slice none 0 0, .int .i64 0] ∧ BlkIs (acW w cs xs) (w.heap.size + 1 + 1 + 1) 141 cs ∧ Below w.heap.size w (acW w cs xs) := by
  have b0 := BlkIs.new w 141 cs
  have b1 := BlkIs.new (w.alloc (.cells cs 141)) 136 xs
  have b2 := BlkIs.new ((w.alloc (.cells cs 141)).alloc (.cells xs 136)) 141 zeroR
  have b3 := BlkIs.new (((w.alloc (.cells cs 141)).alloc (.cells xs 136)).alloc (.cells zeroR 141)) 141 zeroR
  simp only [World.size_alloc] at b1 b2 b3
  refine ⟨(((b0.alloc _).alloc _).alloc _).setRow_ne (by omega) cs, ((b1.alloc _).alloc _).setRow_ne (by omega) cs, (b2.alloc _).setRow_ne (by omega) cs, b3.setRow cs, ?_⟩
  exact below_setRow (((((Below.refl _ w).alloc (Nat.le_refl _) _).alloc (by simp) _).alloc (by simp; omega) _).alloc (by simp; omega) _) (by omega) _
end Go.Proofs.Ytlelckdcmlpmdaa
