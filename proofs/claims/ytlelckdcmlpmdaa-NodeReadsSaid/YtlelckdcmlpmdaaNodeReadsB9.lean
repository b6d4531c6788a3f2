/- Texts that the proof of NodeReads leans on, part 9. -/
import Derived.Test.YtlelckdcmlpmdaaNodeReadsB8
/- node's reader: cut, number, text. -/
namespace Go.Proofs.Ytlelckdcmlpmdaa
open Go Go.RowKit Lou

/-- A reader at q: the bytes l are left; they lie below B. -/
def RdIs (w : World) (q B : Nat) (l : List UInt8) : Prop := ∃ A c, BlkIs w q 224 #[.slice A l.length c] ∧ InB w B A c l
/-- Bytes from one on. -/
theorem InB.rest {w : World} {B g o c : Nat} {l : List UInt8} (h : InB w B (some ⟨g, o, none⟩) c l) (k : Nat) (hk : k < l.length) : InB w B (some ⟨g, o + k, none⟩) (l.length - k) (l.drop k) := by
  have h1 := h.le
  have h2 := h.max
  refine ⟨by rw [List.length_drop]; exact Nat.le_refl _, by omega, (fun e => by cases e), fun _ => ?_⟩
  obtain ⟨g', o', e, hg, hc⟩ := h.lies (by omega)
  injection e with e
  injection e with e1 e2
  subst e1 e2
  refine ⟨g, o + k, rfl, hg, fun j hj => ?_⟩
  rw [List.length_drop] at hj
  rw [Nat.add_assoc, hc (k + j) (by omega), List.getElem_drop]
theorem InB.none_left {w : World} {B g o : Nat} : InB w B (some ⟨g, o, none⟩) 0 [] := ⟨Nat.le_refl _, by omega, (fun e => by cases e), fun h => by cases h⟩
set_option maxHeartbeats 1000000 in
theorem cut_no (w : World) (q : Nat) (k e : Int) (he : ¬ e = 0) : Calls Try.prog 202 #[.pointer (some ⟨q, 0, none⟩), .int .i64 k, .int .i64 e] w fun e' w' => e' = .panicked [gave 220 false] ∧ w = w' := by
  go_enter Try.func202, Try.ntmps202
  go_wp2_with (go_at_call 115; refine (must_gives _ _ _).mono ?_; rintro e w7 ⟨rfl, h7⟩; obtain rfl := h7.2 (by simp [he]))
  exact ⟨rfl, rfl, rfl⟩
set_option maxRecDepth 100000 in
set_option maxHeartbeats 4000000 in
theorem cut_ok (w : World) (q B : Nat) (l : List UInt8) (h : RdIs w q B l) (hq : B ≤ q) (k : Nat) (hk : k ≤ l.length) (hl : 0 < l.length) : Calls Try.prog 202 #[.pointer (some ⟨q, 0, none⟩), .int .i64 (k : Int), .int .i64 0] w fun e' w' => (∃ v, e' = .returned v) ∧ RdIs w' q B (l.drop k) ∧ w.grownBy w' (some q) := by
  obtain ⟨A, c, hb, hin⟩ := h
  obtain ⟨g, o, rfl, hg, _⟩ := hin.lies hl
  have hle := hin.le
  have hmax := hin.max
  have c0 := hb.boxed
  have f0 := hb.free 0
  have i1 : (0 : Int) ≤ (k : Int) := by omega
  have i2 : (k : Int) ≤ (l.length : Int) := by omega
  have i3 : (l.length : Int) ≤ (c : Int) := by omega
  have i4 : ((l.length : Int) - (k : Int)).toNat = l.length - k := by omega
  have i5 : ¬ c < k := by omega
  have i6 : k ≤ c := by omega
  have i7 : ¬ c < l.length := by omega
  obtain ⟨ok, hok⟩ : ∃ ok, ok = if l.length = k then o else o + k := ⟨_, rfl⟩
  have hS : ∀ W : World, W.cell? ⟨q, 0, none⟩ = some (.slice (some ⟨g, o, none⟩) l.length c) → W.cell? ⟨q, 0, none⟩ = some (.slice (some ⟨g, o, none⟩) l.length c) := fun _ h => h
  have HIN := Lib.hid hin
  have HOK := Lib.hid hok
  clear hin
  go_enter Try.func202, Try.ntmps202
  go_wp2_with (go_at_call 115; refine (must_gives _ _ _).mono ?_; rintro e w7 ⟨rfl, h7⟩; obtain ⟨v7, rfl⟩ := h7.1 (by simp))
  have hBd : w.drew.cell? ⟨q, 0, none⟩ = some (.slice (some ⟨g, o, none⟩) l.length c) := c0
  clear c0 hok
  refine RegF.start (fun W => W.cell? ⟨q, 0, none⟩ = some (.slice (some ⟨g, o, none⟩) l.length c)) 19 (by kernel_rfl) ?_
  refine RegF.take 0 (.pointer (some ⟨q, 0, none⟩)) rfl (by kernel_rfl) (by kernel_rfl) (by kernel_rfl) (by kernel_rfl) (fun _ _ _ h => h) hBd (RegF.yld rfl (fun W hW => by go_simp)) ?_
  simp only [List.getElem_toArray, List.getElem_cons_zero, Act.put, List.setIfInBounds_toArray, List.set_cons_zero, List.set_cons_succ]
  refine RegF.take 1 (.pointer (some ⟨q, 0, none⟩)) rfl (by kernel_rfl) (by kernel_rfl) (by kernel_rfl) (by kernel_rfl) (fun _ _ _ h => h) hBd (RegF.yld rfl (fun W hW => by go_simp)) ?_
  simp only [List.getElem_toArray, List.getElem_cons_succ, List.getElem_cons_zero, Act.put, List.setIfInBounds_toArray, List.set_cons_zero, List.set_cons_succ]
  refine RegF.take 2 (.pointer (some ⟨q, 0, none⟩)) rfl (by kernel_rfl) (by kernel_rfl) (by kernel_rfl) (by kernel_rfl) (fun _ _ _ h => h) hBd (RegF.yld rfl (fun W hW => by go_simp)) ?_
  simp only [List.getElem_toArray, List.getElem_cons_succ, List.getElem_cons_zero, Act.put, List.setIfInBounds_toArray, List.set_cons_zero, List.set_cons_succ]
  refine RegF.take 3 (.pointer (some ⟨q, 0, none⟩)) rfl (by kernel_rfl) (by kernel_rfl) (by kernel_rfl) (by kernel_rfl) (fun _ _ _ h => h) hBd (RegF.yld rfl (fun W hW => by go_simp)) ?_
  simp only [List.getElem_toArray, List.getElem_cons_succ, List.getElem_cons_zero, Act.put, List.setIfInBounds_toArray, List.set_cons_zero, List.set_cons_succ]
  refine RegF.take 4 (.slice (some ⟨g, o, none⟩) l.length c) rfl (by kernel_rfl) (by kernel_rfl) (by kernel_rfl) (by kernel_rfl) (fun _ _ _ h => h) hBd (RegF.yld rfl (fun W hW => by go_simp)) ?_
  simp only [List.getElem_toArray, List.getElem_cons_succ, List.getElem_cons_zero, Act.put, List.setIfInBounds_toArray, List.set_cons_zero, List.set_cons_succ]
  refine RegF.take 5 (.int .i64 (k : Int)) rfl (by kernel_rfl) (by kernel_rfl) (by kernel_rfl) (by kernel_rfl) (fun _ _ _ h => h) hBd (RegF.yld rfl (fun W hW => by go_simp)) ?_
  simp only [List.getElem_toArray, List.getElem_cons_succ, List.getElem_cons_zero, Act.put, List.setIfInBounds_toArray, List.set_cons_zero, List.set_cons_succ]
  refine RegF.take 6 (.pointer (some ⟨q, 0, none⟩)) rfl (by kernel_rfl) (by kernel_rfl) (by kernel_rfl) (by kernel_rfl) (fun _ _ _ h => h) hBd (RegF.yld rfl (fun W hW => by go_simp)) ?_
  simp only [List.getElem_toArray, List.getElem_cons_succ, List.getElem_cons_zero, Act.put, List.setIfInBounds_toArray, List.set_cons_zero, List.set_cons_succ]
  refine RegF.take 7 (.pointer (some ⟨q, 0, none⟩)) rfl (by kernel_rfl) (by kernel_rfl) (by kernel_rfl) (by kernel_rfl) (fun _ _ _ h => h) hBd (RegF.yld rfl (fun W hW => by go_simp)) ?_
  simp only [List.getElem_toArray, List.getElem_cons_succ, List.getElem_cons_zero, Act.put, List.setIfInBounds_toArray, List.set_cons_zero, List.set_cons_succ]
  refine RegF.take 8 (.pointer (some ⟨q, 0, none⟩)) rfl (by kernel_rfl) (by kernel_rfl) (by kernel_rfl) (by kernel_rfl) (fun _ _ _ h => h) hBd (RegF.yld rfl (fun W hW => by go_simp)) ?_
  simp only [List.getElem_toArray, List.getElem_cons_succ, List.getElem_cons_zero, Act.put, List.setIfInBounds_toArray, List.set_cons_zero, List.set_cons_succ]
  refine RegF.take 9 (.slice (some ⟨g, o, none⟩) l.length c) rfl (by kernel_rfl) (by kernel_rfl) (by kernel_rfl) (by kernel_rfl) (fun _ _ _ h => h) hBd (RegF.yld rfl (fun W hW => by go_simp)) ?_
  simp only [List.getElem_toArray, List.getElem_cons_succ, List.getElem_cons_zero, Act.put, List.setIfInBounds_toArray, List.set_cons_zero, List.set_cons_succ]
  refine RegF.take 10 (.int .i64 (l.length : Int)) rfl (by kernel_rfl) (by kernel_rfl) (by kernel_rfl) (by kernel_rfl) (fun _ _ _ h => h) hBd (RegF.yld rfl (fun W hW => by go_simp)) ?_
  simp only [List.getElem_toArray, List.getElem_cons_succ, List.getElem_cons_zero, Act.put, List.setIfInBounds_toArray, List.set_cons_zero, List.set_cons_succ]
  refine RegF.take 11 (.pointer (some ⟨q, 0, none⟩)) rfl (by kernel_rfl) (by kernel_rfl) (by kernel_rfl) (by kernel_rfl) (fun _ _ _ h => h) hBd (RegF.yld rfl (fun W hW => by go_simp)) ?_
  simp only [List.getElem_toArray, List.getElem_cons_succ, List.getElem_cons_zero, Act.put, List.setIfInBounds_toArray, List.set_cons_zero, List.set_cons_succ]
  refine RegF.take 12 (.pointer (some ⟨q, 0, none⟩)) rfl (by kernel_rfl) (by kernel_rfl) (by kernel_rfl) (by kernel_rfl) (fun _ _ _ h => h) hBd (RegF.yld rfl (fun W hW => by go_simp)) ?_
  simp only [List.getElem_toArray, List.getElem_cons_succ, List.getElem_cons_zero, Act.put, List.setIfInBounds_toArray, List.set_cons_zero, List.set_cons_succ]
  refine RegF.take 13 (.pointer (some ⟨q, 0, none⟩)) rfl (by kernel_rfl) (by kernel_rfl) (by kernel_rfl) (by kernel_rfl) (fun _ _ _ h => h) hBd (RegF.yld rfl (fun W hW => by go_simp)) ?_
  simp only [List.getElem_toArray, List.getElem_cons_succ, List.getElem_cons_zero, Act.put, List.setIfInBounds_toArray, List.set_cons_zero, List.set_cons_succ]
  refine RegF.take 14 (.slice (some ⟨g, o, none⟩) l.length c) rfl (by kernel_rfl) (by kernel_rfl) (by kernel_rfl) (by kernel_rfl) (fun _ _ _ h => h) hBd (RegF.yld rfl (fun W hW => by go_simp)) ?_
  simp only [List.getElem_toArray, List.getElem_cons_succ, List.getElem_cons_zero, Act.put, List.setIfInBounds_toArray, List.set_cons_zero, List.set_cons_succ]
  refine RegF.take 15 (.int .i64 (l.length : Int)) rfl (by kernel_rfl) (by kernel_rfl) (by kernel_rfl) (by kernel_rfl) (fun _ _ _ h => h) hBd (RegF.yld rfl (fun W hW => by go_simp)) ?_
  simp only [List.getElem_toArray, List.getElem_cons_succ, List.getElem_cons_zero, Act.put, List.setIfInBounds_toArray, List.set_cons_zero, List.set_cons_succ]
  refine RegF.take 16 (.slice (some ⟨g, ok, none⟩) (l.length - k) (l.length - k)) rfl (by kernel_rfl) (by kernel_rfl) (by kernel_rfl) (by kernel_rfl) (fun _ _ _ h => h) hBd (RegF.yld rfl (fun W hW => by have hok := HOK.out; by_cases hlk : l.length = k <;> simp only [hlk, if_true, if_false] at hok <;> subst hok <;> go_simp)) ?_
  simp only [List.getElem_toArray, List.getElem_cons_succ, List.getElem_cons_zero, Act.put, List.setIfInBounds_toArray, List.set_cons_zero, List.set_cons_succ]
  refine RegF.one 17 (by kernel_rfl) ?_
  refine RegF.opV (.pointer (some ⟨q, 0, none⟩)) rfl rfl (by go_simp) ⟨fun _ => hBd, ?_⟩
  simp only [List.getElem_toArray, List.getElem_cons_succ, List.getElem_cons_zero, Act.put, List.setIfInBounds_toArray, List.set_cons_zero, List.set_cons_succ]
  refine RegF.one 18 (by kernel_rfl) ?_
  refine RegF.opV (.pointer (some ⟨q, 0, none⟩)) rfl rfl (by go_simp) ⟨fun _ => hBd, ?_⟩
  simp only [List.getElem_toArray, List.getElem_cons_succ, List.getElem_cons_zero, Act.put, List.setIfInBounds_toArray, List.set_cons_zero, List.set_cons_succ]
  have c0 : w.drew.cell? ⟨q, 0, none⟩ = some (.slice (some ⟨g, o, none⟩) l.length c) := hBd
  have f1 : w.drew.frozen? ⟨q, 0, none⟩ = false := f0
  refine RegF.one 19 (by kernel_rfl) ?_
  refine RegF.opS (w' := World.setCell w.drew ⟨q, 0, none⟩ (.slice (some ⟨g, ok, none⟩) (l.length - k) (l.length - k))) rfl rfl (by go_simp) ⟨fun h => absurd rfl h, ?_⟩
  simp only [List.getElem_toArray, List.getElem_cons_succ, List.getElem_cons_zero, Act.put]
  refine RegF.done (by kernel_rfl) ?_
  go_wp2
  go_end0
  refine ⟨⟨_, rfl⟩, ⟨some ⟨g, ok, none⟩, l.length - k, ?_, ?_⟩, ?_⟩
  · rw [List.length_drop]
    exact hb.drew.set 0 _
  · have hin := HIN.out
    have hok := HOK.out
    have hin' : InB w B (some ⟨g, ok, none⟩) (l.length - k) (l.drop k) := by
      by_cases e : l.length = k
      · rw [if_pos e] at hok
        subst hok
        rw [← e, List.drop_length, Nat.sub_self]
        exact InB.none_left
      · rw [if_neg e] at hok
        subst hok
        exact hin.rest k (by omega)
    exact hin'.keep fun p hp => Below.cell (B := q) ((Below.refl q w).drew.setCell (by simp) _) (by omega)
  · exact grownB_trans (below_grownB (Below.refl _ w).drew q) (grownBy_set _ q 0 _)
/-- What a reading answers: what was read, and the reader behind it; or it gives up. -/
def RdOut {α : Type} (val : α → Value) (r : Option (α × List UInt8)) (q B : Nat) (w : World) (e : Ending) (w' : World) : Prop :=
  w.grownBy w' (some q) ∧ match r with
    | some (a, l) => e = .returned (val a) ∧ RdIs w' q B l
    | none => e = .panicked [gave 220 false]
theorem rdN12_some {l : List UInt8} {n k : Nat} (h : rd l = some (n, k)) (hn : n ≤ 100000) : rdN12 l = some (n, l.drop k) := by unfold rdN12; rw [h]; simp only; rw [if_pos hn]
theorem rdN12_big {l : List UInt8} {n k : Nat} (h : rd l = some (n, k)) (hn : ¬ n ≤ 100000) : rdN12 l = none := by unfold rdN12; rw [h]; simp only; rw [if_neg hn]
theorem rdN12_none {l : List UInt8} (h : rd l = none) : rdN12 l = none := by unfold rdN12; rw [h]
theorem rd_pos {l : List UInt8} {n k : Nat} (h : rd l = some (n, k)) : 0 < l.length := by have := rd_bound h; omega
set_option maxRecDepth 100000 in
set_option maxHeartbeats 2000000 in
theorem rnum_gives (w : World) (q B : Nat) (l : List UInt8) (h : RdIs w q B l) (hq : B ≤ q) : Calls Try.prog 175 #[.pointer (some ⟨q, 0, none⟩)] w (RdOut (fun n : Nat => .int .i64 (n : Int)) (rdN12 l) q B w) := by
  have h0 := h
  obtain ⟨A, c, hb, hin⟩ := h0
  have HR := readNumber_gives w B A c l hin
  have c0 := hb.boxed
  unfold RdOut
  have hrefl := below_grownB (Below.refl w.heap.size w) q
  cases hr : rd l with
  | none =>
    rw [rdV_none hr] at HR
    rw [rdN12_none hr]
    clear hr hin hb h
    go_enter Try.func175, Try.ntmps175
    go_wp2_with (first
      | (go_at_call 38; refine HR.mono ?_; rintro e W ⟨rfl, rfl⟩)
      | (go_at_call 202; refine (cut_no _ q _ 130 (by decide)).mono ?_; rintro e W ⟨rfl, rfl⟩))
    exact ⟨rfl, hrefl, rfl⟩
  | some y =>
    obtain ⟨n, k⟩ := y
    have hl := rd_pos hr
    have hbd := rd_bound hr
    rw [rdV_some hr] at HR
    have HC := cut_ok w q B l h hq k hbd.2.2 hl
    by_cases hn : n ≤ 100000
    · rw [rdN12_some hr hn]
      have hn' : (n : Int) ≤ 100000 := by omega
      have hcv : IntKind.i64.wrap (n : Int) = (n : Int) := wrapN _ (by omega) (by omega)
      clear hr hin hb h hn hbd hl
      go_enter Try.func175, Try.ntmps175
      go_wp2_with (first
        | (go_at_call 38; refine HR.mono ?_; rintro e W ⟨rfl, rfl⟩)
        | (go_at_call 202; refine HC.mono ?_; rintro e w2 ⟨⟨v2, rfl⟩, hR2, hg2⟩)
        | (go_at_call 115; refine (must_gives _ _ _).mono ?_; rintro e w7 ⟨rfl, h7⟩; obtain ⟨v7, rfl⟩ := h7.1 (by simp [hn'])))
      go_ret
      exact ⟨hg2, rfl, hR2⟩
    · rw [rdN12_big hr hn]
      have hn' : ¬ (n : Int) ≤ 100000 := by omega
      clear hr hin hb h hbd hl
      go_enter Try.func175, Try.ntmps175
      go_wp2_with (first
        | (go_at_call 38; refine HR.mono ?_; rintro e W ⟨rfl, rfl⟩)
        | (go_at_call 202; refine HC.mono ?_; rintro e w2 ⟨⟨v2, rfl⟩, hR2, hg2⟩)
        | (go_at_call 115; refine (must_gives _ _ _).mono ?_; rintro e w7 ⟨rfl, h7⟩; obtain rfl := h7.2 (decide_eq_false (by omega))))
      exact ⟨rfl, hg2, rfl⟩
theorem rdT12_none {l : List UInt8} (h : rdS l = none) : rdT12 l = none := by unfold rdT12; rw [h]
theorem rdT12_some {l : List UInt8} {s : List UInt8} {k : Nat} (h : rdS l = some (s, k)) : rdT12 l = some (str s, l.drop k) := by unfold rdT12; rw [h]
theorem rdS_bound {l : List UInt8} {s : List UInt8} {k : Nat} (h : rdS l = some (s, k)) : k ≤ l.length ∧ 0 < l.length := by
  unfold rdS at h
  cases e : rd l with
  | none => rw [e] at h; cases h
  | some y =>
    obtain ⟨m, j⟩ := y
    rw [e] at h
    simp only at h
    have hb := rd_bound e
    split at h
    · simp only [Option.some.injEq, Prod.mk.injEq] at h
      omega
    · cases h
theorem rdSV_none {l : List UInt8} (h : rdS l = none) : rdSV l = .tuple #[.string (str []), .int .i64 0, .int .i64 130] := by unfold rdSV; rw [h]
theorem rdSV_some {l : List UInt8} {s : List UInt8} {k : Nat} (h : rdS l = some (s, k)) : rdSV l = .tuple #[.string (str s), .int .i64 (k : Int), .int .i64 0] := by unfold rdSV; rw [h]
set_option maxRecDepth 100000 in
set_option maxHeartbeats 2000000 in
theorem rtext_gives (w : World) (q B : Nat) (l : List UInt8) (h : RdIs w q B l) (hq : B ≤ q) : Calls Try.prog 177 #[.pointer (some ⟨q, 0, none⟩)] w (RdOut Value.string (rdT12 l) q B w) := by
  have h0 := h
  obtain ⟨A, c, hb, hin⟩ := h0
  have hBq := hb.lt
  have HR := readString_gives w A c l (hin.more (by omega))
  have c0 := hb.boxed
  unfold RdOut
  cases hr : rdS l with
  | none =>
    rw [rdSV_none hr] at HR
    rw [rdT12_none hr]
    clear hr hin hb h
    go_enter Try.func177, Try.ntmps177
    go_wp2_with (first
      | (go_at_call 33; refine HR.mono ?_; rintro e W2 ⟨rfl, hB2⟩)
      | (go_at_call 202; refine (cut_no _ q _ 130 (by decide)).mono ?_; rintro e W ⟨rfl, rfl⟩))
    exact ⟨rfl, below_grownB hB2 q, rfl⟩
  | some y =>
    obtain ⟨s, k⟩ := y
    have hbd := rdS_bound hr
    rw [rdSV_some hr] at HR
    rw [rdT12_some hr]
    have HC : ∀ W2, Below w.heap.size w W2 → _ := fun W2 hB2 => cut_ok W2 q B l ⟨A, c, hb.below hB2 hb.lt, hin.below (hB2.mono (by omega))⟩ hq k hbd.1 hbd.2
    clear hr hin hb h
    go_enter Try.func177, Try.ntmps177
    go_wp2_with (first
      | (go_at_call 33; refine HR.mono ?_; rintro e W2 ⟨rfl, hB2⟩)
      | (go_at_call 202; refine (HC _ hB2).mono ?_; rintro e w2 ⟨⟨v2, rfl⟩, hR2, hg2⟩))
    go_ret
    exact ⟨grownB_trans (below_grownB hB2 q) hg2, rfl, hR2⟩
end Go.Proofs.Ytlelckdcmlpmdaa
/- louperef12: read, text. -/
namespace Go.Proofs.Ytlelckdcmlpmdaa
open Go Go.RowKit Lou

/-- Bytes from k on, as a plain slicing leaves them. -/
theorem InB.tailAt {w : World} {B g o c : Nat} {l : List UInt8} (h : InB w B (some ⟨g, o, none⟩) c l) (k : Nat) (hk : k ≤ l.length) : InB w B (some ⟨g, (if c = k then o else o + k), none⟩) (c - k) (l.drop k) := by
  have h1 := h.le
  have h2 := h.max
  refine ⟨by rw [List.length_drop]; omega, by omega, (fun e => by cases e), fun h0 => ?_⟩
  rw [List.length_drop] at h0
  obtain ⟨g', o', e, hg, hc⟩ := h.lies (by omega)
  injection e with e
  injection e with e1 e2
  subst e1 e2
  rw [if_neg (by omega)]
  refine ⟨g, o + k, rfl, hg, fun j hj => ?_⟩
  rw [List.length_drop] at hj
  rw [Nat.add_assoc, hc (k + j) (by omega), List.getElem_drop]
/-- What read answers, from the place k on. -/
def ReadOut (r : Option (Nat × List UInt8)) (n : Nat) : Value := match r with
  | some (v, l) => .tuple #[.int .i64 (v : Int), .int .i64 ((n - l.length : Nat) : Int)]
  | none => .tuple #[.int .i64 0, .int .i64 (-1)]
def TextOut (r : Option (ByteArray × List UInt8)) (n : Nat) : Value := match r with
  | some (v, l) => .tuple #[.string v, .int .i64 ((n - l.length : Nat) : Int)]
  | none => .tuple #[.string { data := #[] }, .int .i64 (-1)]
set_option maxHeartbeats 1000000 in
theorem rread_neg (w : World) (v : Value) : Calls Try.prog 130 #[v, .int .i64 (-1)] w fun e w' => e = .returned (.tuple #[.int .i64 0, .int .i64 (-1)]) ∧ w = w' := by
  go_enter Try.func130, Try.ntmps130
  go_wp2
  go_ret2
  exact ⟨rfl, rfl⟩
set_option maxHeartbeats 1000000 in
theorem rtext_neg (w : World) (v : Value) : Calls Try.prog 131 #[v, .int .i64 (-1)] w fun e w' => e = .returned (.tuple #[.string { data := #[] }, .int .i64 (-1)]) ∧ w = w' := by
  go_enter Try.func131, Try.ntmps131
  go_wp2
  go_ret2
  exact ⟨rfl, rfl⟩
set_option maxRecDepth 100000 in
set_option maxHeartbeats 2000000 in
theorem rread_at (w : World) (g o c : Nat) (b : List UInt8) (h : InB w w.heap.size (some ⟨g, o, none⟩) c b) (k : Nat) (hk : k ≤ b.length) : Calls Try.prog 130 #[.slice (some ⟨g, o, none⟩) b.length c, .int .i64 (k : Int)] w fun e w' => e = .returned (ReadOut (rdN12 (b.drop k)) b.length) ∧ w = w' := by
  have hle := h.le
  have hmax := h.max
  have hin := h.tailAt k hk
  have HR := refReadNumber_gives w _ _ _ _ hin
  rw [List.length_drop] at HR
  have i1 : (0 : Int) ≤ (k : Int) := by omega
  have i2 : ¬ (k : Int) < 0 := by omega
  have i3 : ¬ (b.length : Int) < (k : Int) := by omega
  have i4 : (k : Int) ≤ (b.length : Int) := by omega
  have i5 : k ≤ c := by omega
  have hlen : (b.drop k).length = b.length - k := List.length_drop
  by_cases hck : c = k
  · subst hck
    obtain hbl : b.length = c := by omega
    have hr : rd (b.drop c) = none := by rw [← hbl, List.drop_length]; rfl
    rw [rdV_none hr] at HR
    have HV : Hid (ReadOut (rdN12 (b.drop c)) b.length = .tuple #[.int .i64 0, .int .i64 (-1)]) := Lib.hid (by rw [rdN12_none hr]; rfl)
    generalize ReadOut (rdN12 (b.drop c)) b.length = V at *
    rw [if_pos rfl, Nat.sub_self, show b.length - c = 0 by omega] at HR
    clear hr hin h hlen hbl
    go_enter Try.func130, Try.ntmps130
    go_wp2_with (go_at_call 31; refine HR.mono ?_; rintro e W ⟨rfl, rfl⟩)
    go_ret2
    exact ⟨by rw [HV.out]; rfl, rfl⟩
  · rw [if_neg hck] at HR
    cases hr : rd (b.drop k) with
    | none =>
      rw [rdV_none hr] at HR
      have HV : Hid (ReadOut (rdN12 (b.drop k)) b.length = .tuple #[.int .i64 0, .int .i64 (-1)]) := Lib.hid (by rw [rdN12_none hr]; rfl)
      generalize ReadOut (rdN12 (b.drop k)) b.length = V at *
      clear hr hin h hlen
      go_enter Try.func130, Try.ntmps130
      go_wp2_with (go_at_call 31; refine HR.mono ?_; rintro e W ⟨rfl, rfl⟩)
      go_ret2
      exact ⟨by rw [HV.out]; rfl, rfl⟩
    | some y =>
      obtain ⟨n, m⟩ := y
      have hb := rd_bound hr
      rw [hlen] at hb
      rw [rdV_some hr] at HR
      by_cases hn : n ≤ 100000
      · have HV : Hid (ReadOut (rdN12 (b.drop k)) b.length = .tuple #[.int .i64 (n : Int), .int .i64 ((k : Int) + (m : Int))]) := Lib.hid (by
          rw [rdN12_some hr hn]
          unfold ReadOut
          simp only [List.length_drop]
          have e : ((b.length - (b.length - k - m) : Nat) : Int) = (k : Int) + (m : Int) := by omega
          rw [e])
        generalize ReadOut (rdN12 (b.drop k)) b.length = V at *
        have hn' : ¬ (100000 : Int) < (n : Int) := by omega
        have hcv : IntKind.i64.wrap (n : Int) = (n : Int) := wrapN _ (by omega) (by omega)
        have hcm : IntKind.i64.wrap ((k : Int) + (m : Int)) = (k : Int) + (m : Int) := wrapN _ (by omega) (by omega)
        clear hr hin h hlen hb hn
        go_enter Try.func130, Try.ntmps130
        go_wp2_with (go_at_call 31; refine HR.mono ?_; rintro e W ⟨rfl, rfl⟩)
        go_ret2
        exact ⟨by rw [HV.out]; rfl, rfl⟩
      · have HV : Hid (ReadOut (rdN12 (b.drop k)) b.length = .tuple #[.int .i64 0, .int .i64 (-1)]) := Lib.hid (by rw [rdN12_big hr hn]; rfl)
        generalize ReadOut (rdN12 (b.drop k)) b.length = V at *
        have hn' : (100000 : Int) < (n : Int) := by omega
        clear hr hin h hlen hb hn
        go_enter Try.func130, Try.ntmps130
        go_wp2_with (go_at_call 31; refine HR.mono ?_; rintro e W ⟨rfl, rfl⟩)
        go_ret2
        exact ⟨by rw [HV.out]; rfl, rfl⟩
set_option maxRecDepth 100000 in
set_option maxHeartbeats 2000000 in
theorem rtext_at (w : World) (g o c : Nat) (b : List UInt8) (h : InB w w.heap.size (some ⟨g, o, none⟩) c b) (k : Nat) (hk : k ≤ b.length) : Calls Try.prog 131 #[.slice (some ⟨g, o, none⟩) b.length c, .int .i64 (k : Int)] w fun e w' => e = .returned (TextOut (rdT12 (b.drop k)) b.length) ∧ w = w' := by
  have hle := h.le
  have hmax := h.max
  have hin := h.tailAt k hk
  have HR := refReadString_gives w _ _ _ hin
  rw [List.length_drop] at HR
  have i1 : (0 : Int) ≤ (k : Int) := by omega
  have i2 : ¬ (k : Int) < 0 := by omega
  have i3 : ¬ (b.length : Int) < (k : Int) := by omega
  have i4 : (k : Int) ≤ (b.length : Int) := by omega
  have i5 : k ≤ c := by omega
  have hlen : (b.drop k).length = b.length - k := List.length_drop
  by_cases hck : c = k
  · subst hck
    obtain hbl : b.length = c := by omega
    have hr : rdS (b.drop c) = none := by rw [← hbl, List.drop_length]; rfl
    rw [rdSV_none hr] at HR
    have HV : Hid (TextOut (rdT12 (b.drop c)) b.length = .tuple #[.string { data := #[] }, .int .i64 (-1)]) := Lib.hid (by rw [rdT12_none hr]; rfl)
    generalize TextOut (rdT12 (b.drop c)) b.length = V at *
    rw [if_pos rfl, Nat.sub_self, show b.length - c = 0 by omega] at HR
    clear hr hin h hlen hbl
    go_enter Try.func131, Try.ntmps131
    go_wp2_with (go_at_call 34; refine HR.mono ?_; rintro e W ⟨rfl, rfl⟩)
    go_ret2
    exact ⟨by rw [HV.out]; rfl, rfl⟩
  · rw [if_neg hck] at HR
    cases hr : rdS (b.drop k) with
    | none =>
      rw [rdSV_none hr] at HR
      have HV : Hid (TextOut (rdT12 (b.drop k)) b.length = .tuple #[.string { data := #[] }, .int .i64 (-1)]) := Lib.hid (by rw [rdT12_none hr]; rfl)
      generalize TextOut (rdT12 (b.drop k)) b.length = V at *
      clear hr hin h hlen
      go_enter Try.func131, Try.ntmps131
      go_wp2_with (go_at_call 34; refine HR.mono ?_; rintro e W ⟨rfl, rfl⟩)
      go_ret2
      exact ⟨by rw [HV.out]; rfl, rfl⟩
    | some y =>
      obtain ⟨s, m⟩ := y
      have hb := rdS_bound hr
      rw [hlen] at hb
      rw [rdSV_some hr] at HR
      have HV : Hid (TextOut (rdT12 (b.drop k)) b.length = .tuple #[.string (str s), .int .i64 ((k : Int) + (m : Int))]) := Lib.hid (by
        rw [rdT12_some hr]
        unfold TextOut
        simp only [List.length_drop]
        have e : ((b.length - (b.length - k - m) : Nat) : Int) = (k : Int) + (m : Int) := by omega
        rw [e])
      generalize TextOut (rdT12 (b.drop k)) b.length = V at *
      generalize str s = t at *
      have hcm : IntKind.i64.wrap ((k : Int) + (m : Int)) = (k : Int) + (m : Int) := wrapN _ (by omega) (by omega)
      clear hr hin h hlen hb
      go_enter Try.func131, Try.ntmps131
      go_wp2_with (go_at_call 34; refine HR.mono ?_; rintro e W ⟨rfl, rfl⟩)
      go_ret2
      exact ⟨by rw [HV.out]; rfl, rfl⟩
end Go.Proofs.Ytlelckdcmlpmdaa
/- node's reader: cell. -/
namespace Go.Proofs.Ytlelckdcmlpmdaa
open Go Go.RowKit Lou

/-- Below n all is as it was, but block q. -/
structure Bq (n q : Nat) (w w' : World) : Prop where
  os : w'.os = w.os
  tape : w'.tape = w.tape
  output : w'.output = w.output
  size : w.heap.size ≤ w'.heap.size
  block : ∀ k, k < n → k ≠ q → w'.heap[k]? = w.heap[k]?
theorem Bq.of {n q : Nat} {w w' : World} (h : Below n w w') : Bq n q w w' := ⟨h.os, h.tape, h.output, h.size, fun k hk _ => h.block k hk⟩
theorem Bq.trans {n q : Nat} {a b c : World} (h : Bq n q a b) (k : Bq n q b c) : Bq n q a c := ⟨k.os.trans h.os, k.tape.trans h.tape, k.output.trans h.output, Nat.le_trans h.size k.size, fun j h1 h2 => (k.block j h1 h2).trans (h.block j h1 h2)⟩
theorem Bq.call {n q : Nat} {a b c : World} (h : Bq n q a b) (hn : n ≤ b.heap.size) (hg : b.grownBy c (some q)) : Bq n q a c :=
  h.trans ⟨hg.os, hg.tape, hg.output, hg.size, fun j h1 h2 => hg.block j (by omega) (fun e => h2 (by injection e))⟩
theorem Bq.alloc {n q : Nat} {a b : World} (h : Bq n q a b) (hn : n ≤ b.heap.size) (o : Obj) : Bq n q a (b.alloc o) := h.trans (.of ((Below.refl n b).alloc hn o))
theorem Bq.setCell {n q : Nat} {a b : World} (h : Bq n q a b) {p : Addr} (hp : n ≤ p.block) (u : Value) : Bq n q a (b.setCell p u) := h.trans (.of ((Below.refl n b).setCell hp u))
theorem Bq.setRow {n q : Nat} {a b : World} (h : Bq n q a b) {g : Nat} (hg : n ≤ g) (cs : Array Value) : Bq n q a (b.setRow g cs) := h.trans (.of (below_setRow (Below.refl n b) hg cs))
theorem Bq.drew {n q : Nat} {a b : World} (h : Bq n q a b) : Bq n q a b.drew := h.trans (.of (Below.refl n b).drew)
theorem Bq.grown {q : Nat} {w w' : World} (h : Bq w.heap.size q w w') : w.grownBy w' (some q) := ⟨h.os, h.tape, h.output, h.size, fun k hk hr => h.block k hk (fun e => hr (by rw [e]))⟩
/-- A reader is not touched. -/
theorem RdIs.past {w w' : World} {q B n : Nat} {l : List UInt8} (h : RdIs w q B l) (hB : Below n w w') (hq : q < n) (hBn : B ≤ n) : RdIs w' q B l := by
  obtain ⟨A, c, h1, h2⟩ := h
  exact ⟨A, c, h1.below hB hq, h2.below (hB.mono hBn)⟩
theorem RdIs.lt {w : World} {q B : Nat} {l : List UInt8} (h : RdIs w q B l) : q < w.heap.size := by
  obtain ⟨A, c, h1, _⟩ := h
  exact h1.lt
theorem cell_box (w : World) (cs : Array Value) : ∃ W, ((w.alloc (.cells #[.string { data := #[] }, .string { data := #[] }, .int .i64 0, .int .i64 0] 205)).setRow w.heap.size cs) = W ∧ BlkIs W w.heap.size 205 cs ∧ Below w.heap.size w W :=
  ⟨_, rfl, (BlkIs.new w 205 #[.string { data := #[] }, .string { data := #[] }, .int .i64 0, .int .i64 0]).setRow cs, below_setRow ((Below.refl _ w).alloc (Nat.le_refl _) _) (Nat.le_refl _) cs⟩
theorem cel_toArray (c : Cel) : (celC c).toArray = #[.string c.key, .string c.val, .int .i64 c.page, .int .i64 c.size] := rfl
theorem four_oneC {v0 v1 v2 v3 : Value} (h0 : v0.oneCell' = true) (h1 : v1.oneCell' = true) (h2 : v2.oneCell' = true) (h3 : v3.oneCell' = true) : ∀ v ∈ (#[v0, v1, v2, v3] : Array Value).toList, v.oneCell' = true := by
  intro v hv
  simp at hv
  rcases hv with rfl | rfl | rfl | rfl <;> assumption
set_option maxRecDepth 100000 in
set_option maxHeartbeats 4000000 in
theorem rcell_gives (w : World) (q B : Nat) (l : List UInt8) (h : RdIs w q B l) (hq : B ≤ q) : Calls Try.prog 176 #[.pointer (some ⟨q, 0, none⟩)] w (RdOut (fun c : Cel => .agg (celC c).toArray) (rdCel l) q B w) := by
  have hqw := h.lt
  have hB1 : Below w.heap.size w (w.alloc (.cells #[.string { data := #[] }, .string { data := #[] }, .int .i64 0, .int .i64 0] 205)) := (Below.refl _ w).alloc (Nat.le_refl _) _
  have p1 := BlkIs.new w 205 #[.string { data := #[] }, .string { data := #[] }, .int .i64 0, .int .i64 0]
  have h1 := h.past hB1 hqw (by omega)
  have g1 : Bq w.heap.size q w (w.alloc (.cells #[.string { data := #[] }, .string { data := #[] }, .int .i64 0, .int .i64 0] 205)) := .of hB1
  have s1 := World.size_alloc w (.cells #[.string { data := #[] }, .string { data := #[] }, .int .i64 0, .int .i64 0] 205)
  have HT := rtext_gives _ q B l h1 hq
  unfold RdOut at HT ⊢
  unfold rdCel
  cases e1 : rdT12 l with
  | none =>
    rw [e1] at HT
    simp only at HT ⊢
    clear e1 s1
    go_enter Try.func176, Try.ntmps176
    go_wp2_with fail
    refine HT.mono ?_
    rintro e w2 ⟨hg2, rfl⟩
    exact ⟨rfl, (g1.call hB1.size hg2).grown, rfl⟩
  | some y =>
    obtain ⟨s, r⟩ := y
    rw [e1] at HT
    simp only at HT ⊢
    have HN := fun W (hW : RdIs W q B r) => rnum_gives W q B r hW hq
    unfold RdOut at HN
    cases e2 : rdN12 r with
    | none =>
      rw [e2] at HN
      simp only at HN ⊢
      clear e1 e2 s1
      go_enter Try.func176, Try.ntmps176
      go_wp2_with fail
      refine HT.mono ?_
      rintro e w2 ⟨hg2, rfl, h2⟩
      go_wp2_with fail
      refine (HN _ h2).mono ?_
      rintro e w3 ⟨hg3, rfl⟩
      have g2 := g1.call hB1.size hg2
      exact ⟨rfl, (g2.call g2.size hg3).grown, rfl⟩
    | some z =>
      obtain ⟨p, r2⟩ := z
      rw [e2] at HN
      simp only at HN ⊢
      have HE : ∀ (v : ByteArray) (z : Int) (W : World) (e : Ending) (r3 : List UInt8), e = .returned (.agg #[.string s, .string v, .int .i64 (p : Int), .int .i64 z]) → RdIs W q B r3 → (e = .returned (.agg (celC ⟨s, v, p, z⟩).toArray) ∧ RdIs W q B r3) := fun v z W e r3 he hr => ⟨he, hr⟩
      by_cases hp : p = 0
      case pos =>
        subst hp
        simp only [if_true]
        have HT3 := fun W (hW : RdIs W q B r2) => rtext_gives W q B r2 hW hq
        unfold RdOut at HT3
        cases e3 : rdT12 r2 with
        | none =>
          rw [e3] at HT3
          simp only at HT3 ⊢
          clear e1 e2 e3
          go_enter Try.func176, Try.ntmps176
          go_wp2_with fail
          refine HT.mono ?_
          rintro e w2 ⟨hg2, rfl, h2⟩
          go_wp2_with fail
          refine (HN _ h2).mono ?_
          rintro e w3 ⟨hg3, rfl, h3⟩
          have g2 := g1.call hB1.size hg2
          have g3 := g2.call g2.size hg3
          have hg13 := grownB_trans hg2 hg3
          have pz : BlkIs w3 w.heap.size 205 #[.string { data := #[] }, .string { data := #[] }, .int .i64 0, .int .i64 0] := p1.grown hg13 (fun e => by injection e; omega)
          have n3 := BlkIs.new w3 205 #[.string { data := #[] }, .string { data := #[] }, .int .i64 0, .int .i64 0]
          have hs3 : w.heap.size < w3.heap.size := pz.lt
          have hneq : ¬ w.heap.size = w3.heap.size := by omega
          go_wp2_with (first
            | (refine wp_storeW rfl 205 (.tmp 3) (.tmp 8) rfl w3.heap.size rfl rfl rowCel n3 rfl rfl (four_oneC rfl rfl rfl rfl) ?_; obtain ⟨W4, hW4, n4, hB34⟩ := cell_box w3 #[.string s, .string { data := #[] }, .int .i64 0, .int .i64 0]; rw [hW4]; clear hW4; have k42 : W4.cell? ⟨w3.heap.size, 2, none⟩ = some (.int .i64 0) := (by rw [n4.cell]; rfl); have h4 := h3.past hB34 h3.lt (by have := h3.lt; omega); have pz4 := pz.below hB34 pz.lt; have g4 : Bq w.heap.size q w W4 := g3.trans (.of (hB34.mono g3.size))))
          refine (HT3 _ h4).mono ?_
          rintro e w5 ⟨hg5, rfl⟩
          exact ⟨rfl, (g4.call g4.size hg5).grown, rfl⟩
        | some u =>
          obtain ⟨v, r3⟩ := u
          rw [e3] at HT3
          simp only at HT3 ⊢
          clear e1 e2 e3
          go_enter Try.func176, Try.ntmps176
          go_wp2_with fail
          refine HT.mono ?_
          rintro e w2 ⟨hg2, rfl, h2⟩
          go_wp2_with fail
          refine (HN _ h2).mono ?_
          rintro e w3 ⟨hg3, rfl, h3⟩
          have g2 := g1.call hB1.size hg2
          have g3 := g2.call g2.size hg3
          have hg13 := grownB_trans hg2 hg3
          have pz : BlkIs w3 w.heap.size 205 #[.string { data := #[] }, .string { data := #[] }, .int .i64 0, .int .i64 0] := p1.grown hg13 (fun e => by injection e; omega)
          have n3 := BlkIs.new w3 205 #[.string { data := #[] }, .string { data := #[] }, .int .i64 0, .int .i64 0]
          have hs3 : w.heap.size < w3.heap.size := pz.lt
          have hneq : ¬ w.heap.size = w3.heap.size := by omega
          go_wp2_with (first
            | (refine wp_storeW rfl 205 (.tmp 3) (.tmp 8) rfl w3.heap.size rfl rfl rowCel n3 rfl rfl (four_oneC rfl rfl rfl rfl) ?_; obtain ⟨W4, hW4, n4, hB34⟩ := cell_box w3 #[.string s, .string { data := #[] }, .int .i64 0, .int .i64 0]; rw [hW4]; clear hW4; have k42 : W4.cell? ⟨w3.heap.size, 2, none⟩ = some (.int .i64 0) := (by rw [n4.cell]; rfl); have h4 := h3.past hB34 h3.lt (by have := h3.lt; omega); have pz4 := pz.below hB34 pz.lt; have g4 : Bq w.heap.size q w W4 := g3.trans (.of (hB34.mono g3.size))))
          refine (HT3 _ h4).mono ?_
          rintro e w5 ⟨hg5, rfl, h5⟩
          have hq3 : q < w3.heap.size := by omega
          have n5 := n4.grown hg5 (fun e => by injection e; omega)
          have pz5 := pz4.grown hg5 (fun e => by injection e; omega)
          have g5 := g4.call g4.size hg5
          have c5 : w5.cell? ⟨w3.heap.size, 1, none⟩ = some (.string { data := #[] }) := by rw [n5.cell]; rfl
          have f5 := n5.free 1
          have n6 := n5.set 1 (.string v)
          have hB56 : Below w3.heap.size w5 (w5.setCell ⟨w3.heap.size, 1, none⟩ (.string v)) := (Below.refl _ w5).setCell (by simp) _
          have pz6 := pz5.below hB56 hs3
          have h6 := h5.past hB56 hq3 (by omega)
          have g6 : Bq w.heap.size q w (w5.setCell ⟨w3.heap.size, 1, none⟩ (.string v)) := g5.trans (.of (hB56.mono (by omega)))
          simp only [List.setIfInBounds_toArray, List.set_cons_zero, List.set_cons_succ] at n6
          have b7 := pz6.setRow #[.string s, .string v, .int .i64 0, .int .i64 0]
          have g7 := g6.setRow (Nat.le_refl w.heap.size) #[.string s, .string v, .int .i64 0, .int .i64 0]
          have h7 := h6.past (below_setRow (Below.refl w.heap.size _) (Nat.le_refl _) #[.string s, .string v, .int .i64 0, .int .i64 0]) hqw (by omega)
          go_wp2_with (first
            | (refine wp_loadW rfl 205 (.tmp 3) rfl w3.heap.size rfl rowCel n6 rfl ?_)
            | (refine wp_storeW rfl 205 (.tmp 2) (.tmp 18) rfl w.heap.size rfl rfl rowCel pz6 rfl rfl (four_oneC rfl rfl rfl rfl) ?_))
          exact bodyPost_ret (results_cellW 2 rfl rfl rowCel b7 rfl) rfl ⟨g7.grown, rfl, h7⟩
      case neg =>
        simp only [if_neg hp]
        have hp' : ¬ (p : Int) = 0 := by omega
        have HT3 := fun W (hW : RdIs W q B r2) => rnum_gives W q B r2 hW hq
        unfold RdOut at HT3
        cases e3 : rdN12 r2 with
        | none =>
          rw [e3] at HT3
          simp only at HT3 ⊢
          clear e1 e2 e3
          go_enter Try.func176, Try.ntmps176
          go_wp2_with fail
          refine HT.mono ?_
          rintro e w2 ⟨hg2, rfl, h2⟩
          go_wp2_with fail
          refine (HN _ h2).mono ?_
          rintro e w3 ⟨hg3, rfl, h3⟩
          have g2 := g1.call hB1.size hg2
          have g3 := g2.call g2.size hg3
          have hg13 := grownB_trans hg2 hg3
          have pz : BlkIs w3 w.heap.size 205 #[.string { data := #[] }, .string { data := #[] }, .int .i64 0, .int .i64 0] := p1.grown hg13 (fun e => by injection e; omega)
          have n3 := BlkIs.new w3 205 #[.string { data := #[] }, .string { data := #[] }, .int .i64 0, .int .i64 0]
          have hs3 : w.heap.size < w3.heap.size := pz.lt
          have hneq : ¬ w.heap.size = w3.heap.size := by omega
          go_wp2_with (first
            | (refine wp_storeW rfl 205 (.tmp 3) (.tmp 8) rfl w3.heap.size rfl rfl rowCel n3 rfl rfl (four_oneC rfl rfl rfl rfl) ?_; obtain ⟨W4, hW4, n4, hB34⟩ := cell_box w3 #[.string s, .string { data := #[] }, .int .i64 (p : Int), .int .i64 0]; rw [hW4]; clear hW4; have k42 : W4.cell? ⟨w3.heap.size, 2, none⟩ = some (.int .i64 (p : Int)) := (by rw [n4.cell]; rfl); have h4 := h3.past hB34 h3.lt (by have := h3.lt; omega); have pz4 := pz.below hB34 pz.lt; have g4 : Bq w.heap.size q w W4 := g3.trans (.of (hB34.mono g3.size))))
          refine (HT3 _ h4).mono ?_
          rintro e w5 ⟨hg5, rfl⟩
          exact ⟨rfl, (g4.call g4.size hg5).grown, rfl⟩
        | some u =>
          obtain ⟨v, r3⟩ := u
          rw [e3] at HT3
          simp only at HT3 ⊢
          clear e1 e2 e3
          go_enter Try.func176, Try.ntmps176
          go_wp2_with fail
          refine HT.mono ?_
          rintro e w2 ⟨hg2, rfl, h2⟩
          go_wp2_with fail
          refine (HN _ h2).mono ?_
          rintro e w3 ⟨hg3, rfl, h3⟩
          have g2 := g1.call hB1.size hg2
          have g3 := g2.call g2.size hg3
          have hg13 := grownB_trans hg2 hg3
          have pz : BlkIs w3 w.heap.size 205 #[.string { data := #[] }, .string { data := #[] }, .int .i64 0, .int .i64 0] := p1.grown hg13 (fun e => by injection e; omega)
          have n3 := BlkIs.new w3 205 #[.string { data := #[] }, .string { data := #[] }, .int .i64 0, .int .i64 0]
          have hs3 : w.heap.size < w3.heap.size := pz.lt
          have hneq : ¬ w.heap.size = w3.heap.size := by omega
          go_wp2_with (first
            | (refine wp_storeW rfl 205 (.tmp 3) (.tmp 8) rfl w3.heap.size rfl rfl rowCel n3 rfl rfl (four_oneC rfl rfl rfl rfl) ?_; obtain ⟨W4, hW4, n4, hB34⟩ := cell_box w3 #[.string s, .string { data := #[] }, .int .i64 (p : Int), .int .i64 0]; rw [hW4]; clear hW4; have k42 : W4.cell? ⟨w3.heap.size, 2, none⟩ = some (.int .i64 (p : Int)) := (by rw [n4.cell]; rfl); have h4 := h3.past hB34 h3.lt (by have := h3.lt; omega); have pz4 := pz.below hB34 pz.lt; have g4 : Bq w.heap.size q w W4 := g3.trans (.of (hB34.mono g3.size))))
          refine (HT3 _ h4).mono ?_
          rintro e w5 ⟨hg5, rfl, h5⟩
          have hq3 : q < w3.heap.size := by omega
          have n5 := n4.grown hg5 (fun e => by injection e; omega)
          have pz5 := pz4.grown hg5 (fun e => by injection e; omega)
          have g5 := g4.call g4.size hg5
          have c5 : w5.cell? ⟨w3.heap.size, 3, none⟩ = some (.int .i64 0) := by rw [n5.cell]; rfl
          have f5 := n5.free 3
          have n6 := n5.set 3 (.int .i64 (v : Int))
          have hB56 : Below w3.heap.size w5 (w5.setCell ⟨w3.heap.size, 3, none⟩ (.int .i64 (v : Int))) := (Below.refl _ w5).setCell (by simp) _
          have pz6 := pz5.below hB56 hs3
          have h6 := h5.past hB56 hq3 (by omega)
          have g6 : Bq w.heap.size q w (w5.setCell ⟨w3.heap.size, 3, none⟩ (.int .i64 (v : Int))) := g5.trans (.of (hB56.mono (by omega)))
          simp only [List.setIfInBounds_toArray, List.set_cons_zero, List.set_cons_succ] at n6
          have b7 := pz6.setRow #[.string s, .string { data := #[] }, .int .i64 (p : Int), .int .i64 (v : Int)]
          have g7 := g6.setRow (Nat.le_refl w.heap.size) #[.string s, .string { data := #[] }, .int .i64 (p : Int), .int .i64 (v : Int)]
          have h7 := h6.past (below_setRow (Below.refl w.heap.size _) (Nat.le_refl _) #[.string s, .string { data := #[] }, .int .i64 (p : Int), .int .i64 (v : Int)]) hqw (by omega)
          go_wp2_with (first
            | (refine wp_loadW rfl 205 (.tmp 3) rfl w3.heap.size rfl rowCel n6 rfl ?_)
            | (refine wp_storeW rfl 205 (.tmp 2) (.tmp 18) rfl w.heap.size rfl rfl rowCel pz6 rfl rfl (four_oneC rfl rfl rfl rfl) ?_))
          exact bodyPost_ret (results_cellW 2 rfl rfl rowCel b7 rfl) rfl ⟨g7.grown, rfl, h7⟩
end Go.Proofs.Ytlelckdcmlpmdaa
/- slices.Clone over cells and over ints. -/
namespace Go.Proofs.Ytlelckdcmlpmdaa
open Go Go.RowKit Lou Go.Shelf

/-- slices.Clone over cells. -/
def OwnCels (w : World) (l : List Cel) (e : Ending) (w' : World) : Prop := ∃ A c, e = .returned (.slice A l.length c) ∧ w'.ownsRow w.heap.size 205 4 (.slice A l.length c) l.length (clC l) ∧ Below w.heap.size w w'
theorem elCelC : ElT 72 205 4 48 (.agg #[.string ByteArray.empty, .string ByteArray.empty, .int .i64 0, .int .i64 0]) := ⟨Try.underlying72, by kernel_rfl, by kernel_rfl, by decide⟩
set_option maxRecDepth 100000 in
set_option maxHeartbeats 1000000 in
theorem cclone_gives (w : World) (A : Option Addr) (c : Nat) (l : List Cel) (h : InG w w.heap.size 4 A l.length c (clC l)) (hl : l.length ≤ 1000000) :
    Calls Try.prog 119 #[.slice A l.length c] w (OwnCels w l) := by
  rcases A with _ | ad
  · have hc := h.nil rfl
    subst hc
    have hle := h.le
    obtain rfl : l = [] := List.eq_nil_of_length_eq_zero (by omega)
    have hq := fun W => run_eq_nilN (P := Try.prog) W 72 205 none 0 0 Try.underlying72
    go_enter Try.func119, Try.ntmps119
    go_wp2
    go_ret
    exact ⟨none, 0, rfl, World.ownsRow_nil _ _ _ _, Below.refl _ _⟩
  · have e0 : (w.alloc (.cells #[] 205)).ownsRow w.heap.size 205 4 (.slice (some ⟨w.heap.size, 0, none⟩) 0 0) 0 [] := World.ownsRow_lit w #[] 0 (Nat.le_refl _) (by unfold maxLen; omega) rfl
    have hB0 : Below w.heap.size w (w.alloc (.cells #[] 205)) := (Below.refl _ w).alloc (Nat.le_refl _) _
    have hq := fun W => run_eq_nilN (P := Try.prog) W 72 205 (some ad) l.length c Try.underlying72
    go_enter Try.func119, Try.ntmps119
    go_wp2_with (at_builtin; refine wp_appG rfl elCelC (.tmp 5) (.tmp 6) rfl w.heap.size (.slice (some ⟨w.heap.size, 0, none⟩) 0 0) 0 [] rfl e0 _ _ l.length c (clC l) rfl (h.grow hB0) (by unfold maxLen; omega) (by omega) hB0.size ?_; intro v5 w5 own5 hg5)
    go_ret
    rw [Nat.zero_add, List.nil_append] at own5
    obtain ⟨A5, c5, rfl, _⟩ := ownG_in own5 (clC_one _)
    exact ⟨A5, c5, rfl, own5, hB0.trans (grown_below hg5 hB0.size (ownG_ge e0))⟩
/-- slices.Clone over ints. -/
def OwnInts (w : World) (l : List Int) (e : Ending) (w' : World) : Prop := ∃ A c, e = .returned (.slice A l.length c) ∧ w'.ownsRow w.heap.size 3 1 (.slice A l.length c) l.length (ikC l) ∧ Below w.heap.size w w'
theorem elIntC : ElT 74 3 1 8 (.int .i64 0) := ⟨Try.underlying74, by kernel_rfl, by kernel_rfl, by decide⟩
set_option maxRecDepth 100000 in
set_option maxHeartbeats 1000000 in
theorem iclone_gives (w : World) (A : Option Addr) (c : Nat) (l : List Int) (h : InG w w.heap.size 1 A l.length c (ikC l)) (hl : l.length ≤ 1000000) :
    Calls Try.prog 120 #[.slice A l.length c] w (OwnInts w l) := by
  rcases A with _ | ad
  · have hc := h.nil rfl
    subst hc
    have hle := h.le
    obtain rfl : l = [] := List.eq_nil_of_length_eq_zero (by omega)
    have hq := fun W => run_eq_nilN (P := Try.prog) W 74 3 none 0 0 Try.underlying74
    go_enter Try.func120, Try.ntmps120
    go_wp2
    go_ret
    exact ⟨none, 0, rfl, World.ownsRow_nil _ _ _ _, Below.refl _ _⟩
  · have e0 : (w.alloc (.cells #[] 3)).ownsRow w.heap.size 3 1 (.slice (some ⟨w.heap.size, 0, none⟩) 0 0) 0 [] := World.ownsRow_lit w #[] 0 (Nat.le_refl _) (by unfold maxLen; omega) rfl
    have hB0 : Below w.heap.size w (w.alloc (.cells #[] 3)) := (Below.refl _ w).alloc (Nat.le_refl _) _
    have hq := fun W => run_eq_nilN (P := Try.prog) W 74 3 (some ad) l.length c Try.underlying74
    go_enter Try.func120, Try.ntmps120
    go_wp2_with (at_builtin; refine wp_appG rfl elIntC (.tmp 5) (.tmp 6) rfl w.heap.size (.slice (some ⟨w.heap.size, 0, none⟩) 0 0) 0 [] rfl e0 _ _ l.length c (ikC l) rfl (h.grow hB0) (by unfold maxLen; omega) (by omega) hB0.size ?_; intro v5 w5 own5 hg5)
    go_ret
    rw [Nat.zero_add, List.nil_append] at own5
    obtain ⟨A5, c5, rfl, _⟩ := ownG_in own5 (ikC_one _)
    exact ⟨A5, c5, rfl, own5, hB0.trans (grown_below hg5 hB0.size (ownG_ge e0))⟩
end Go.Proofs.Ytlelckdcmlpmdaa
/- node's reader: what node keeps. -/
namespace Go.Proofs.Ytlelckdcmlpmdaa
open Go Go.RowKit Lou

section
variable {w : World} {ops : Array Oper} {i : Nat} {o : Oper} {a : Act} {Q : Exit → Act → World → Prop} {K : Act → World → Prop}
theorem opAppN (ho : ops[i]? = some o) (hgd : o.guard = none) {S T : TypeId} {sz by_ : Nat} {z : Value} (hT : ElT S T sz by_ z) (s x : Operand) (hc : o.op = .call { callee := .builtin .append, args := #[s, x], argTypes := #[S, S] })
    (base : Nat) (v : Value) (n : Nat) (cs : List Value) (hs : a.eval s = v) (hown : w.ownsRow base T sz v n cs) (B : Nat) (A : Option Addr) (m c : Nat) (cs2 : List Value) (hx : a.eval x = .slice A m c) (hin : InG w B sz A m c cs2)
    (hm : n + m ≤ maxLen) (hbytes : (n + m) * by_ ≤ 140737488355328) (hbase : base ≤ w.heap.size)
    (h : ∀ v' w', w'.ownsRow base T sz v' (n + m) (cs ++ cs2) → w.grownBy w' v.ownBlock → K (a.put o.dst v') w') : wpOp Try.prog ops Q i K a w := by
  obtain ⟨v', w', hr, h2, h3⟩ := run_appG (w := w) o.type hT base v n cs hown B A m c cs2 hin hm hbytes hbase
  refine RegF.opV v' ho hgd (w' := w') ?_ (h v' w' h2 h3)
  unfold execOp
  simp only [hc, resolve, invoke, builtin, Sem.run_bind, Sem.run_pure, Result.andThen_ok, List.map_toArray, List.map_cons, List.map_nil, hs, hx, hr]
theorem opCP (f : FuncId) (xs : Array Operand) (ts : Array TypeId) (ho : ops[i]? = some o) (hg : o.guard = none) (hc : o.op = .call { callee := .value (.func f), args := xs, argTypes := ts })
    (hent : ∀ args w, (callFunc f args).run Try.prog w = .ok (.enter f args) w) (args : Array Value) (ha : xs.map a.eval = args) (h : Calls Try.prog f args w fun e w' => (∃ v, e = .returned v ∧ K (a.put o.dst v) w') ∨ ∃ ch, e = .panicked ch ∧ Q (.panic ch) a w') : wpOp Try.prog ops Q i K a w := by
  unfold wpOp
  simp only [ho]
  rw [if_pos (by simp [Region.wanted, hg])]
  left
  have hr : (execOp a.eval o).run Try.prog w = .ok (.enter f args) w := by
    have ef : a.eval (.func f) = .func (.func f) #[] #[] := rfl
    simp [execOp, hc, resolve, ha, ef, Deferred.ofValue, invoke, hent args w]
  unfold Oper.wp
  rw [hr, Oper.upon_enter]
  refine h.mono ?_
  rintro e w' (⟨v, rfl, hK⟩ | ⟨ch, rfl, hQ⟩)
  · exact hK
  · exact hQ
end
/-- The cells of a node's box. -/
def nbx (lf : Bool) (Ac : Option Addr) (n cc : Nat) (Ak : Option Addr) (m ck : Nat) (Ai : Option Addr) (j ci : Nat) : Array Value := #[.bool lf, .slice Ac n cc, .slice Ak m ck, .slice Ai j ci]
/-- The node that is being read: its box at p, its rows; the reader at q. -/
structure NS (w wr : World) (q B p : Nat) (lf : Bool) (cs : List Cel) (ks : List ByteArray) (is : List Int) (l : List UInt8) (Ac : Option Addr) (cc : Nat) (Ak : Option Addr) (ck : Nat) (Ai : Option Addr) (ci : Nat) : Prop where
  b : BlkIs wr p 76 #[.bool lf, .slice Ac cs.length cc, .slice Ak ks.length ck, .slice Ai is.length ci]
  c : wr.ownsRow (p + 1) 205 4 (.slice Ac cs.length cc) cs.length (clC cs)
  k : wr.ownsRow (p + 1) 9 1 (.slice Ak ks.length ck) ks.length (skC ks)
  i : wr.ownsRow (p + 1) 3 1 (.slice Ai is.length ci) is.length (ikC is)
  r : RdIs wr q B l
  g : Bq p q w wr
  hq : q < p
  hB : B ≤ q
section
variable {w wr w' : World} {q B p : Nat} {lf : Bool} {cs : List Cel} {ks : List ByteArray} {is : List Int} {l l' : List UInt8} {Ac : Option Addr} {cc : Nat} {Ak : Option Addr} {ck : Nat} {Ai : Option Addr} {ci : Nat}
theorem own_call {wr w' : World} {q p : Nat} {T : TypeId} {sz n : Nat} {v : Value} {cs : List Value} (h : wr.ownsRow (p + 1) T sz v n cs) (hg : wr.grownBy w' (some q)) (hq : q < p) : w'.ownsRow (p + 1) T sz v n cs :=
  ownG_later h fun r hr => hg.block r (ownG_lt h r hr) (fun e => by have := ownG_ge h r hr; injection e; omega)
theorem NS.call (h : NS w wr q B p lf cs ks is l Ac cc Ak ck Ai ci) (hg : wr.grownBy w' (some q)) (hr : RdIs w' q B l') : NS w w' q B p lf cs ks is l' Ac cc Ak ck Ai ci :=
  ⟨h.b.grown hg (fun e => by have := h.hq; injection e; omega), own_call h.c hg h.hq, own_call h.k hg h.hq, own_call h.i hg h.hq, hr, h.g.call (Nat.le_of_lt h.b.lt) hg, h.hq, h.hB⟩
theorem NS.past (h : NS w wr q B p lf cs ks is l Ac cc Ak ck Ai ci) (hB : Below wr.heap.size wr w') : NS w w' q B p lf cs ks is l Ac cc Ak ck Ai ci :=
  ⟨h.b.below hB h.b.lt, ownG_grow h.c hB, ownG_grow h.k hB, ownG_grow h.i hB, h.r.past hB h.r.lt (by have := h.hB; have := h.r.lt; omega), h.g.trans (.of (hB.mono (Nat.le_of_lt h.b.lt))), h.hq, h.hB⟩
theorem NS.drew (h : NS w wr q B p lf cs ks is l Ac cc Ak ck Ai ci) : NS w wr.drew q B p lf cs ks is l Ac cc Ak ck Ai ci := h.past (Below.refl _ wr).drew
/-- A row has grown; its header is stored. -/
theorem ns_app {T : TypeId} {sz n m f : Nat} {v : Value} {A' : Option Addr} {c' : Nat} {old new : List Value} {bs : Array Value} (hb : BlkIs wr p 76 bs) (hr : RdIs wr q B l) (hgq : Bq p q w wr) (hq : q < p) (hB : B ≤ q)
    (own : wr.ownsRow (p + 1) T sz v n old) (hg : wr.grownBy w' v.ownBlock) (own' : w'.ownsRow (p + 1) T sz (.slice A' m c') m new) :
    BlkIs (w'.setCell ⟨p, f, none⟩ (.slice A' m c')) p 76 (bs.setIfInBounds f (.slice A' m c')) ∧ RdIs (w'.setCell ⟨p, f, none⟩ (.slice A' m c')) q B l ∧ Bq p q w (w'.setCell ⟨p, f, none⟩ (.slice A' m c')) ∧ (w'.setCell ⟨p, f, none⟩ (.slice A' m c')).ownsRow (p + 1) T sz (.slice A' m c') m new := by
  have hlt := hb.lt
  have hBg : Below (p + 1) wr w' := grown_below hg (by omega) (ownG_ge own)
  have hb' := hb.below hBg (by omega)
  have hr' := hr.past hBg (by omega) (by omega)
  have hB2 : Below p w' (w'.setCell ⟨p, f, none⟩ (.slice A' m c')) := (Below.refl _ w').setCell (by simp) _
  refine ⟨hb'.set f _, hr'.past hB2 hq (by omega), (hgq.trans (.of (hBg.mono (by omega)))).trans (.of hB2), ownG_later own' fun r hr => Below.heap_setCell w' ⟨p, f, none⟩ _ r (fun e => by have := ownG_ge own' r hr; simp at e; omega)⟩
theorem own_set {w' : World} {p f : Nat} {u v : Value} {T : TypeId} {sz n : Nat} {xs : List Value} (h : w'.ownsRow (p + 1) T sz v n xs) : (w'.setCell ⟨p, f, none⟩ u).ownsRow (p + 1) T sz v n xs :=
  ownG_later h fun r hr => Below.heap_setCell w' ⟨p, f, none⟩ u r (fun e => by have := ownG_ge h r hr; simp at e; omega)
theorem clC_snoc (cs : List Cel) (c : Cel) : clC (cs ++ [c]) = clC cs ++ celC c := by unfold clC; simp
theorem skC_snoc (ks : List ByteArray) (k : ByteArray) : skC (ks ++ [k]) = skC ks ++ [.string k] := by unfold skC; simp
theorem ikC_snoc (is : List Int) (i : Int) : ikC (is ++ [i]) = ikC is ++ [.int .i64 i] := by unfold ikC; simp
theorem NS.appC (h : NS w wr q B p lf cs ks is l Ac cc Ak ck Ai ci) {c : Cel} {A' : Option Addr} {c' : Nat} (own' : w'.ownsRow (p + 1) 205 4 (.slice A' (cs.length + 1) c') (cs.length + 1) (clC cs ++ celC c)) (hg : wr.grownBy w' (Value.slice Ac cs.length cc).ownBlock) :
    NS w (w'.setCell ⟨p, 1, none⟩ (.slice A' (cs.length + 1) c')) q B p lf (cs ++ [c]) ks is l A' c' Ak ck Ai ci := by
  obtain ⟨h1, h2, h3, h4⟩ := ns_app (f := 1) h.b h.r h.g h.hq h.hB h.c hg own'
  have e : (cs ++ [c]).length = cs.length + 1 := by simp
  refine ⟨by rw [e]; exact h1, by rw [e, clC_snoc]; exact h4, own_set (own_past h.c h.k (by decide) hg), own_set (own_past h.c h.i (by decide) hg), h2, h3, h.hq, h.hB⟩
theorem NS.appK (h : NS w wr q B p lf cs ks is l Ac cc Ak ck Ai ci) {s : ByteArray} {A' : Option Addr} {c' : Nat} (own' : w'.ownsRow (p + 1) 9 1 (.slice A' (ks.length + 1) c') (ks.length + 1) (skC ks ++ [.string s])) (hg : wr.grownBy w' (Value.slice Ak ks.length ck).ownBlock) :
    NS w (w'.setCell ⟨p, 2, none⟩ (.slice A' (ks.length + 1) c')) q B p lf cs (ks ++ [s]) is l Ac cc A' c' Ai ci := by
  obtain ⟨h1, h2, h3, h4⟩ := ns_app (f := 2) h.b h.r h.g h.hq h.hB h.k hg own'
  have e : (ks ++ [s]).length = ks.length + 1 := by simp
  refine ⟨by rw [e]; exact h1, own_set (own_past h.k h.c (by decide) hg), by rw [e, skC_snoc]; exact h4, own_set (own_past h.k h.i (by decide) hg), h2, h3, h.hq, h.hB⟩
theorem NS.appI (h : NS w wr q B p lf cs ks is l Ac cc Ak ck Ai ci) {s : Int} {A' : Option Addr} {c' : Nat} (own' : w'.ownsRow (p + 1) 3 1 (.slice A' (is.length + 1) c') (is.length + 1) (ikC is ++ [.int .i64 s])) (hg : wr.grownBy w' (Value.slice Ai is.length ci).ownBlock) :
    NS w (w'.setCell ⟨p, 3, none⟩ (.slice A' (is.length + 1) c')) q B p lf cs ks (is ++ [s]) l Ac cc Ak ck A' c' := by
  obtain ⟨h1, h2, h3, h4⟩ := ns_app (f := 3) h.b h.r h.g h.hq h.hB h.i hg own'
  have e : (is ++ [s]).length = is.length + 1 := by simp
  refine ⟨by rw [e]; exact h1, own_set (own_past h.i h.c (by decide) hg), own_set (own_past h.i h.k (by decide) hg), by rw [e, ikC_snoc]; exact h4, h2, h3, h.hq, h.hB⟩
/-- The node lies in rows of its own. -/
theorem NS.nis (h : NS w wr q B p lf cs ks is l Ac cc Ak ck Ai ci) : NIs wr wr.heap.size ⟨lf, cs, ks, is⟩ Ac cc Ak ck Ai ci := by
  obtain ⟨_, _, e1, h1⟩ := ownG_in h.c (clC_one _)
  obtain ⟨_, _, e2, h2⟩ := ownG_in h.k (skC_one _)
  obtain ⟨_, _, e3, h3⟩ := ownG_in h.i (ikC_one _)
  injection e1 with e11 e12 e13
  injection e2 with e21 e22 e23
  injection e3 with e31 e32 e33
  subst e11 e13 e21 e23 e31 e33
  exact ⟨h1, h2, h3⟩
theorem NS.start {w : World} {q B : Nat} {l : List UInt8} (hr : RdIs w q B l) (hB : B ≤ q) : NS w (w.alloc (.cells #[.bool false, .slice none 0 0, .slice none 0 0, .slice none 0 0] 76)) q B w.heap.size false [] [] [] l none 0 none 0 none 0 := by
  have hBe : Below w.heap.size w (w.alloc (.cells #[.bool false, .slice none 0 0, .slice none 0 0, .slice none 0 0] 76)) := (Below.refl _ w).alloc (Nat.le_refl _) _
  exact ⟨BlkIs.new w _ _, World.ownsRow_nil _ _ _ _, World.ownsRow_nil _ _ _ _, World.ownsRow_nil _ _ _ _, hr.past hBe hr.lt (by have := hr.lt; omega), .of hBe, hr.lt, hB⟩
/-- The first cell: whether it is a leaf. -/
theorem NS.leaf (h : NS w wr q B p lf cs ks is l Ac cc Ak ck Ai ci) (b : Bool) : NS w (wr.setCell ⟨p, 0, none⟩ (.bool b)) q B p b cs ks is l Ac cc Ak ck Ai ci := by
  have hB : Below p wr (wr.setCell ⟨p, 0, none⟩ (.bool b)) := (Below.refl _ wr).setCell (by simp) _
  exact ⟨h.b.set 0 _, own_set h.c, own_set h.k, own_set h.i, h.r.past hB h.hq (by have := h.hB; have := h.hq; omega), h.g.trans (.of hB), h.hq, h.hB⟩
end
end Go.Proofs.Ytlelckdcmlpmdaa
/- node's reader: node, of a leaf. -/
namespace Go.Proofs.Ytlelckdcmlpmdaa
open Go Go.RowKit Lou

theorem row_lit1 (w : World) (T : TypeId) (sz : Nat) (cs : List Value) (hn : cs.length = sz) (h1 : ∀ v ∈ cs, v.oneCell' = true) : InG (w.alloc (.cells cs.toArray T)) (w.alloc (.cells cs.toArray T)).heap.size sz (some ⟨w.heap.size, 0, none⟩) 1 1 cs :=
  ⟨Nat.le_refl _, by omega, (fun e => by cases e), by omega, h1, fun _ => ⟨w.heap.size, 0, rfl, by simp, fun j v hj => by
    rw [(BlkIs.new w T cs.toArray).cell, Nat.zero_add]
    simpa using hj⟩⟩
theorem x_sliceCel {w : World} {o : Oper} {ρ : Operand → Value} {x : Operand} (c : Cel) (ho : o.op = .buildSlice 72 1 #[(0, x)]) (h1 : ρ x = .agg (celC c).toArray) : (execOp ρ o).run Try.prog w = .ok (.value (.slice (some ⟨w.heap.size, 0, none⟩) 1 1)) (w.alloc (.cells (celC c).toArray 205)) := by
  simp [execOp, ho, h1, go_sem, celC, Result.andThen]
theorem NS.same {w wr : World} {q B p : Nat} {lf : Bool} {cs : List Cel} {ks : List ByteArray} {is : List Int} {l : List UInt8} {Ac : Option Addr} {cc : Nat} {Ak : Option Addr} {ck : Nat} {Ai : Option Addr} {ci : Nat} (h : NS w wr q B p lf cs ks is l Ac cc Ak ck Ai ci) : NS w (wr.setRow p #[.bool lf, .slice Ac cs.length cc, .slice Ak ks.length ck, .slice Ai is.length ci]) q B p lf cs ks is l Ac cc Ak ck Ai ci := by
  have hB : Below p wr (wr.setRow p #[.bool lf, .slice Ac cs.length cc, .slice Ak ks.length ck, .slice Ai is.length ci]) := below_setRow (Below.refl _ wr) (Nat.le_refl _) _
  have ho : ∀ {T : TypeId} {sz n : Nat} {v : Value} {xs : List Value}, wr.ownsRow (p + 1) T sz v n xs → (wr.setRow p #[.bool lf, .slice Ac cs.length cc, .slice Ak ks.length ck, .slice Ai is.length ci]).ownsRow (p + 1) T sz v n xs := fun h => ownG_later h fun r hr => setRow_other _ _ r _ (by have := ownG_ge h r hr; omega)
  exact ⟨h.b.setRow _, ho h.c, ho h.k, ho h.i, h.r.past hB h.hq (by have := h.hB; have := h.hq; omega), h.g.trans (.of hB), h.hq, h.hB⟩
/-- Rows that lie from n on. -/
def RowsFrom (n : Nat) (Ac Ak Ai : Option Addr) : Prop := ∀ g o, (Ac = some ⟨g, o, none⟩ ∨ Ak = some ⟨g, o, none⟩ ∨ Ai = some ⟨g, o, none⟩) → n ≤ g
theorem NS.rows {w wr : World} {q B p : Nat} {lf : Bool} {cs : List Cel} {ks : List ByteArray} {is : List Int} {l : List UInt8} {Ac : Option Addr} {cc : Nat} {Ak : Option Addr} {ck : Nat} {Ai : Option Addr} {ci : Nat} (h : NS w wr q B p lf cs ks is l Ac cc Ak ck Ai ci) : RowsFrom p Ac Ak Ai := by
  rintro g o (rfl | rfl | rfl)
  · have := ownG_ge h.c g rfl; omega
  · have := ownG_ge h.k g rfl; omega
  · have := ownG_ge h.i g rfl; omega
/-- What node answers. -/
def RNodOut (r : Option Nod) (q : Nat) (w : World) (e : Ending) (w' : World) : Prop :=
  w.grownBy w' (some q) ∧ match r with
    | some x => ∃ Ac cc Ak ck Ai ci, e = .returned (.agg (nodC x Ac cc Ak ck Ai ci)) ∧ NIs w' w'.heap.size x Ac cc Ak ck Ai ci ∧ RowsFrom w.heap.size Ac Ak Ai
    | none => e = .panicked [gave 220 false]
theorem rnod_no {r : Option Nod} (h : r = none) (q : Nat) (w : World) : ∀ w', w.grownBy w' (some q) → RNodOut r q w (.panicked [gave 220 false]) w' := fun w' hg => by subst h; exact ⟨hg, rfl⟩
theorem rnod_yes {r : Option Nod} {x : Nod} (h : r = some x) (q : Nat) (w w' : World) (hg : w.grownBy w' (some q)) (Ac : Option Addr) (cc : Nat) (Ak : Option Addr) (ck : Nat) (Ai : Option Addr) (ci : Nat) (hn : NIs w' w'.heap.size x Ac cc Ak ck Ai ci) (hf : RowsFrom w.heap.size Ac Ak Ai) : RNodOut r q w (.returned (.agg (nodC x Ac cc Ak ck Ai ci))) w' := by
  subst h
  exact ⟨hg, Ac, cc, Ak, ck, Ai, ci, rfl, hn, hf⟩
set_option maxRecDepth 100000 in
set_option maxHeartbeats 8000000 in
theorem rnode_leaf (w : World) (q B : Nat) (l r : List UInt8) (h : RdIs w q B l) (hq : B ≤ q) (e1 : rdN12 l = some (1, r)) : Calls Try.prog 128 #[.pointer (some ⟨q, 0, none⟩)] w (RNodOut (rdRest true r) q w) := by
  have hlt := h.lt
  have n1 := NS.start h hq
  have H1 := rnum_gives _ q B l n1.r hq
  unfold RdOut at H1
  rw [e1] at H1
  simp only at H1
  have HN := fun W lx (hW : RdIs W q B lx) => rnum_gives W q B lx hW hq
  unfold RdOut at HN
  have HN2 := fun W (hW : RdIs W q B r) => HN W r hW
  clear e1 h
  cases e2 : rdN12 r with
  | none =>
    rw [e2] at HN2
    simp only at HN2
    have HP := rnod_no (r := rdRest true r) (by unfold rdRest; rw [e2]) q w
    generalize RNodOut (rdRest true r) q w = PO at *
    clear e2 HN
    go_enter Try.func128, Try.ntmps128
    go_wp2_with fail
    refine H1.mono ?_
    rintro e w2 ⟨hg2, rfl, h2⟩
    have n2 := n1.call hg2 h2
    have c2 : w2.cell? ⟨w.heap.size, 0, none⟩ = some (.bool false) := by rw [n2.b.cell]; rfl
    have f2 := n2.b.free 0
    go_wp2_with (go_at_call 115; refine (must_gives _ _ _).mono ?_; rintro e w7 ⟨rfl, h7⟩; obtain ⟨v7, rfl⟩ := h7.1 rfl)
    have n3 := n2.leaf true
    refine (HN2 _ n3.r).mono ?_
    rintro e w4 ⟨hg4, rfl⟩
    exact ⟨rfl, HP _ (n3.g.call (Nat.le_of_lt n3.b.lt) hg4).grown⟩
  | some y =>
    obtain ⟨many, r1⟩ := y
    rw [e2] at HN2
    simp only at HN2
    have hmany : many ≤ 100000 := (rdN12_less e2).2
    have hrest : rdRest true r = match rdMany rdCel many r1 with | none => none | some (cs, _) => some ⟨true, cs, [], []⟩ := by unfold rdRest; rw [e2]; rfl
    have HP0 := fun hr => rnod_no (r := rdRest true r) hr q w
    have HP1 := fun x (hr : rdRest true r = some x) => rnod_yes hr q w
    have HPno : ∀ k cs lk, k < many → rdMany rdCel k r1 = some (cs, lk) → rdCel lk = none → ∀ w', w.grownBy w' (some q) → RNodOut (rdRest true r) q w (.panicked [gave 220 false]) w' := fun k cs lk hk hm hf => HP0 (by
      rw [hrest]
      have := rdMany_stop rdCel r1 cs lk k hm hf (many - k - 1)
      rw [show k + 1 + (many - k - 1) = many from by omega] at this
      rw [this])
    have HPyes : ∀ cs lk, rdMany rdCel many r1 = some (cs, lk) → ∀ w' A c, w.grownBy w' (some q) → NIs w' w'.heap.size ⟨true, cs, [], []⟩ A c none 0 none 0 → RowsFrom w.heap.size A none none → RNodOut (rdRest true r) q w (.returned (.agg #[.bool true, .slice A cs.length c, .slice none 0 0, .slice none 0 0])) w' := fun cs lk hm w' A c hg hn hf => HP1 ⟨true, cs, [], []⟩ (by rw [hrest, hm]) w' hg A c none 0 none 0 hn hf
    generalize RNodOut (rdRest true r) q w = PO at *
    have HNO := Lib.hid HPno
    have HYES := Lib.hid HPyes
    clear e2 HN hrest HP0 HP1 HPno HPyes
    go_enter Try.func128, Try.ntmps128
    go_wp2_with fail
    refine H1.mono ?_
    rintro e w2 ⟨hg2, rfl, h2⟩
    have n2 := n1.call hg2 h2
    have c2 : w2.cell? ⟨w.heap.size, 0, none⟩ = some (.bool false) := by rw [n2.b.cell]; rfl
    have f2 := n2.b.free 0
    go_wp2_with (go_at_call 115; refine (must_gives _ _ _).mono ?_; rintro e w7 ⟨rfl, h7⟩; obtain ⟨v7, rfl⟩ := h7.1 rfl)
    have n3 := n2.leaf true
    refine (HN2 _ n3.r).mono ?_
    rintro e w4 ⟨hg4, rfl, h4⟩
    have n4 := n3.call hg4 h4
    have c4 : w4.cell? ⟨w.heap.size, 0, none⟩ = some (.bool true) := by rw [n4.b.cell]; rfl
    clear n1 n2 n3 hg2 h2 c2 f2 hg4 h4 H1 HN2
    go_wp2_with fail
    go_loopw [30] (fun i wr => ∃ (k : Nat) (cs : List Cel) (lk : List UInt8) (Ac : Option Addr) (cc : Nat), k ≤ many ∧ i = .int .i64 k ∧ rdMany rdCel k r1 = some (cs, lk) ∧ NS w wr q B w.heap.size true cs [] [] lk Ac cc none 0 none 0) (fun i _ => many - (intOf i).toNat)
    case atStart => exact ⟨0, [], r1, none, 0, by omega, rfl, rfl, n4⟩
    case round =>
      obtain ⟨k, cs, lk, Ac, cc, hk, rfl, hm, nr⟩ := hrel
      clear n4 c4
      have c0 : wr.cell? ⟨w.heap.size, 0, none⟩ = some (.bool true) := by rw [nr.b.cell]; rfl
      have hln := rdMany_length rdCel k r1 cs lk hm
      by_cases hlt : k < many
      · have hlt' : (k : Int) < (many : Int) := by omega
        have hcs : cs.length ≤ 100000 := by omega
        have hwk : IntKind.i64.wrap ((k : Int) + 1) = (k : Int) + 1 := wrapN _ (by omega) (by omega)
        have HC := fun W (hW : RdIs W q B lk) => rcell_gives W q B lk hW hq
        unfold RdOut at HC
        have HM := Lib.hid hm
        clear hm hln
        cases e3 : rdCel lk with
        | none =>
          rw [e3] at HC
          simp only at HC
          have HPN := HNO.out k cs lk hlt HM.out e3
          clear e3
          go_wp2_with fail
          have nda := nr.drew
          have hBd : BlkIs wr.drew w.heap.size 76 #[.bool true, .slice Ac cs.length cc, .slice none 0 0, .slice none 0 0] := nda.b
          refine RegF.start (fun W => BlkIs W w.heap.size 76 #[.bool true, .slice Ac cs.length cc, .slice none 0 0, .slice none 0 0]) 7 (by kernel_rfl) ?_
          refine RegF.take 0 (.pointer (some ⟨w.heap.size, 1, none⟩)) rfl (by kernel_rfl) (by kernel_rfl) (by kernel_rfl) (by kernel_rfl) (fun _ _ _ h => h) hBd (RegF.yld rfl (fun W hW => by go_simp)) ?_
          simp only [List.getElem_toArray, List.getElem_cons_zero, Act.put, List.setIfInBounds_toArray, List.set_cons_zero, List.set_cons_succ]
          refine RegF.take 1 (.slice Ac cs.length cc) rfl (by kernel_rfl) (by kernel_rfl) (by kernel_rfl) (by kernel_rfl) (fun _ _ _ h => h) hBd (RegF.yld rfl (fun W hW => by have e : W.cell? ⟨w.heap.size, 1, none⟩ = some (.slice Ac cs.length cc) := (by rw [hW.cell]; rfl); go_simp)) ?_
          simp only [List.getElem_toArray, List.getElem_cons_succ, List.getElem_cons_zero, Act.put, List.setIfInBounds_toArray, List.set_cons_zero, List.set_cons_succ]
          refine RegF.take 2 (.pointer (some ⟨q, 0, none⟩)) rfl (by kernel_rfl) (by kernel_rfl) (by kernel_rfl) (by kernel_rfl) (fun _ _ _ h => h) hBd (RegF.yld rfl (fun W hW => by go_simp)) ?_
          simp only [List.getElem_toArray, List.getElem_cons_succ, List.getElem_cons_zero, Act.put, List.setIfInBounds_toArray, List.set_cons_zero, List.set_cons_succ]
          refine RegF.one 3 (by kernel_rfl) ?_
          refine opCP 176 #[.tmp 36] #[220] rfl rfl rfl (enters_of Try.func176 (by kernel_rfl) rfl) #[.pointer (some ⟨q, 0, none⟩)] (by simp only [List.map_toArray, List.map_cons, List.map_nil]; rfl) ((HC _ nda.r).mono ?_)
          rintro e w5 ⟨hg5, rfl⟩
          refine .inr ⟨_, rfl, ?_⟩
          exact ⟨rfl, HPN _ (nda.g.call (Nat.le_of_lt nda.b.lt) hg5).grown⟩
        | some y3 =>
          obtain ⟨c, lk2⟩ := y3
          rw [e3] at HC
          simp only at HC
          have HM2 := Lib.hid (rdMany_next rdCel k r1 cs lk c lk2 HM.out e3)
          clear e3
          go_wp2_with fail
          have nda := nr.drew
          have hBd : BlkIs wr.drew w.heap.size 76 #[.bool true, .slice Ac cs.length cc, .slice none 0 0, .slice none 0 0] := nda.b
          refine RegF.start (fun W => BlkIs W w.heap.size 76 #[.bool true, .slice Ac cs.length cc, .slice none 0 0, .slice none 0 0]) 7 (by kernel_rfl) ?_
          refine RegF.take 0 (.pointer (some ⟨w.heap.size, 1, none⟩)) rfl (by kernel_rfl) (by kernel_rfl) (by kernel_rfl) (by kernel_rfl) (fun _ _ _ h => h) hBd (RegF.yld rfl (fun W hW => by go_simp)) ?_
          simp only [List.getElem_toArray, List.getElem_cons_zero, Act.put, List.setIfInBounds_toArray, List.set_cons_zero, List.set_cons_succ]
          refine RegF.take 1 (.slice Ac cs.length cc) rfl (by kernel_rfl) (by kernel_rfl) (by kernel_rfl) (by kernel_rfl) (fun _ _ _ h => h) hBd (RegF.yld rfl (fun W hW => by have e : W.cell? ⟨w.heap.size, 1, none⟩ = some (.slice Ac cs.length cc) := (by rw [hW.cell]; rfl); go_simp)) ?_
          simp only [List.getElem_toArray, List.getElem_cons_succ, List.getElem_cons_zero, Act.put, List.setIfInBounds_toArray, List.set_cons_zero, List.set_cons_succ]
          refine RegF.take 2 (.pointer (some ⟨q, 0, none⟩)) rfl (by kernel_rfl) (by kernel_rfl) (by kernel_rfl) (by kernel_rfl) (fun _ _ _ h => h) hBd (RegF.yld rfl (fun W hW => by go_simp)) ?_
          simp only [List.getElem_toArray, List.getElem_cons_succ, List.getElem_cons_zero, Act.put, List.setIfInBounds_toArray, List.set_cons_zero, List.set_cons_succ]
          refine RegF.one 3 (by kernel_rfl) ?_
          refine opCP 176 #[.tmp 36] #[220] rfl rfl rfl (enters_of Try.func176 (by kernel_rfl) rfl) #[.pointer (some ⟨q, 0, none⟩)] (by simp only [List.map_toArray, List.map_cons, List.map_nil]; rfl) ((HC _ nda.r).mono ?_)
          rintro e w5 ⟨hg5, rfl, h5⟩
          have nfa := nda.call hg5 h5
          refine .inl ⟨_, rfl, fun _ => nfa.b, ?_⟩
          simp only [List.getElem_toArray, List.getElem_cons_succ, List.getElem_cons_zero, Act.put, List.setIfInBounds_toArray, List.set_cons_zero, List.set_cons_succ]
          have hBa : Below w5.heap.size w5 (w5.alloc (.cells (celC c).toArray 205)) := (Below.refl _ w5).alloc (Nat.le_refl _) _
          have nga := nfa.past hBa
          refine RegF.one 4 (by kernel_rfl) ?_
          refine RegF.opV (w' := w5.alloc (.cells (celC c).toArray 205)) (.slice (some ⟨w5.heap.size, 0, none⟩) 1 1) rfl rfl (x_sliceCel c rfl rfl) ⟨fun _ => nga.b, ?_⟩
          simp only [List.getElem_toArray, List.getElem_cons_succ, List.getElem_cons_zero, Act.put, List.setIfInBounds_toArray, List.set_cons_zero, List.set_cons_succ]
          refine RegF.one 5 (by kernel_rfl) ?_
          refine opAppN rfl rfl elCelC (.tmp 35) (.tmp 38) rfl (w.heap.size + 1) (.slice Ac cs.length cc) cs.length (clC cs) rfl nga.c _ _ 1 1 (celC c) rfl (row_lit1 w5 205 4 (celC c) rfl (celC_one _)) (by unfold maxLen; omega) (by omega) (by have := nga.b.lt; omega) ?_
          intro v7 w7 own7 hg7
          obtain ⟨A7, c7, rfl, _⟩ := ownG_in own7 (fun v hv => by rcases List.mem_append.1 hv with h | h; exact clC_one _ v h; exact celC_one _ v h)
          have nha := nga.appC own7 hg7
          have b7 : BlkIs w7 w.heap.size 76 #[.bool true, .slice Ac cs.length cc, .slice none 0 0, .slice none 0 0] := nga.b.grown hg7 (fun e => by have := ownG_ge nga.c w.heap.size e.symm; omega)
          refine ⟨fun _ => b7, ?_⟩
          simp only [List.getElem_toArray, List.getElem_cons_succ, List.getElem_cons_zero, Act.put, List.setIfInBounds_toArray, List.set_cons_zero, List.set_cons_succ]
          have kc7 : w7.cell? ⟨w.heap.size, 1, none⟩ = some (.slice Ac cs.length cc) := by rw [b7.cell]; rfl
          have kf7 := b7.free 1
          refine RegF.one 6 (by kernel_rfl) ?_
          refine RegF.opV (.pointer (some ⟨w.heap.size, 1, none⟩)) rfl rfl (by go_simp) ⟨fun _ => b7, ?_⟩
          simp only [List.getElem_toArray, List.getElem_cons_succ, List.getElem_cons_zero, Act.put, List.setIfInBounds_toArray, List.set_cons_zero, List.set_cons_succ]
          refine RegF.one 7 (by kernel_rfl) ?_
          refine RegF.opS (w' := w7.setCell ⟨w.heap.size, 1, none⟩ (.slice A7 (cs.length + 1) c7)) rfl rfl (by go_simp) ⟨fun h => absurd rfl h, ?_⟩
          simp only [List.getElem_toArray, List.getElem_cons_succ, List.getElem_cons_zero, Act.put]
          refine RegF.done (by kernel_rfl) ?_
          clear kc7 kf7 b7 own7 hg7 nga nfa hBa hBd nda hg5 h5
          go_wp2
          exact ⟨⟨k + 1, cs ++ [c], lk2, A7, c7, by omega, by simp, HM2.out, nha⟩, by simp [intOf]; omega⟩
      · obtain rfl : k = many := by omega
        have HM := Lib.hid hm
        clear hm hln
        have ns := nr.same
        go_wp2_with (first
          | (refine wp_loadW rfl 76 (.tmp 2) rfl w.heap.size rfl rowNod nr.b (by rfl) ?_)
          | (refine wp_storeW rfl 76 (.tmp 2) (.tmp 56) rfl w.heap.size rfl rfl rowNod nr.b (by rfl) (by rfl) (four_oneC rfl rfl rfl rfl) ?_))
        exact bodyPost_ret (results_cellW 2 rfl rfl rowNod ns.b (by rfl)) rfl (HYES.out cs lk HM.out _ Ac cc ns.g.grown ns.nis ns.rows)
end Go.Proofs.Ytlelckdcmlpmdaa
