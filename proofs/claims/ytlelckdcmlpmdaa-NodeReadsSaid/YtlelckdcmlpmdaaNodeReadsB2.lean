/- Texts that the proof of NodeReads leans on, part 2. -/
import Derived.Laws.CopyRow
import Derived.Deep.RegionHeld3
import Derived.Deep.DrawnRows
import Derived.Lib.AppendZerosOnto
import Derived.Deep.MidRow
import Derived.Test.YtlelckdcmlpmdaaNodeReadsB1
/- slices.Values over lists of bytes; octet.Sum. -/
namespace Go.Proofs.Ytlelckdcmlpmdaa
open Go Go.RowKit Lou Go.Shelf
attribute [local go_sem] Oper.semAt_some

/-- Bytes that came in, as one value (below n₀ in the world w0). -/
abbrev Piece (w0 : World) (n₀ : Nat) := { x : (Option Addr × Nat) × List UInt8 // InB w0 n₀ x.1.1 x.1.2 x.2 }
def Piece.val {w0 : World} {n₀ : Nat} (p : Piece w0 n₀) : Value := .slice p.1.1.1 p.1.2.length p.1.1.2
def Piece.l {w0 : World} {n₀ : Nat} (p : Piece w0 n₀) : List UInt8 := p.1.2

/-- A list of bytes' lists that came in. -/
structure InLL (w : World) (B : Nat) (A : Option Addr) (c : Nat) (ls : List (Piece w B)) : Prop where
  le : ls.length ≤ c
  max : c ≤ 9223372036854775807
  lies : 0 < ls.length → ∃ g o, A = some ⟨g, o, none⟩ ∧ g < B ∧ ∀ j (h : j < ls.length), w.cell? ⟨g, o + j, none⟩ = some ls[j].val

section
variable {w0 : World} {n₀ : Nat}

set_option maxRecDepth 100000 in
set_option maxHeartbeats 2000000 in
theorem values1_some (n : Nat) (hn1 : 1 ≤ n) (l Bs b off cap : Nat) (zs : List (Piece w0 n₀)) (hmax : zs.length ≤ 9223372036854775807) (hb : b < n₀) (J Jx : List (Piece w0 n₀) → World → Prop)
    (hY : ∀ pre x W, J pre W → pre.length < zs.length → YieldAt Fence.wide (n - 1) Try.prog l #[x.val] W fun e W' =>
      (e = .returned (.bool true) ∧ J (pre ++ [x]) W' ∧ Below n₀ W W') ∨ (e = .returned (.bool false) ∧ Jx (pre ++ [x]) W'))
    (W : World) (hBs : W.cell? ⟨Bs, 0, none⟩ = some (.slice (some ⟨b, off, none⟩) zs.length cap)) (hc : ∀ j (h : j < zs.length), W.cell? ⟨b, off + j, none⟩ = some zs[j].val) (h0 : J [] W) :
    CallsIn Fence.wide n Try.prog 163 #[.func (.yield l) #[] #[], .pointer (some ⟨Bs, 0, none⟩)] W fun e W' => (∃ v, e = .returned v) ∧
      ((∃ ys, ys = zs ∧ J ys W') ∨ (∃ pre, pre <+: zs ∧ Jx pre W')) := by
  refine callsIn_of_wp Try.func163 rfl trivial ?_ rfl
  simp only [Try.ntmps163, List.size_toArray, List.length_cons, List.length_nil, Nat.reduceAdd, Nat.reduceSub, Array.replicate_succ, Array.replicate_zero, List.push_toArray, List.append_toArray, List.nil_append, List.cons_append]
  gi_wp2
  gi_loopw [7] (fun i wr => ∃ k : Nat, k ≤ zs.length ∧ i = .int .i64 k ∧ J (zs.take k) wr ∧ Below n₀ W wr)
    (fun i _ => zs.length - (intOf i).toNat)
  case atStart => exact ⟨0, Nat.zero_le _, rfl, by simpa using h0, Below.refl _ _⟩
  case round =>
    obtain ⟨k, hk, rfl, hJs, hnx⟩ := hrel
    by_cases hlt : k < zs.length
    · have hcx : wr.cell? ⟨b, off + k, none⟩ = some zs[k].val := (hnx.cell (p := ⟨b, off + k, none⟩) hb).trans (hc k hlt)
      obtain ⟨fn, tmps, assign, body, hy, hR⟩ := hY _ zs[k] wr hJs (by simp; omega)
      have htk : zs.take k ++ [zs[k]] = zs.take (k + 1) := (List.take_succ_eq_append_getElem hlt).symm
      have hTk := Lib.hid htk
      clear htk
      have hval : zs[k].val = .slice zs[k].1.1.1 zs[k].1.2.length zs[k].1.1.2 := rfl
      rw [hval] at hcx hy
      clear hval hc
      gi_wp2
      refine hR.mono ?_
      rintro e W3 (⟨rfl, hJ3, hk3⟩ | ⟨rfl, hJx3⟩)
      · gi_wp2
        go_roundw
        case rel => exact ⟨k + 1, by omega, by simp, by rw [← hTk.out]; exact hJ3, hnx.trans hk3⟩
        case measure => simp [intOf]; omega
      · gi_wp2
        refine bodyPost_ret (results_none rfl _ _ _) rfl ?_
        exact ⟨⟨_, rfl⟩, .inr ⟨_, by rw [hTk.out]; exact List.take_prefix _ _, hJx3⟩⟩
    · obtain rfl : k = zs.length := by omega
      gi_wp2
      go_end0
      exact ⟨⟨_, rfl⟩, .inl ⟨_, List.take_length, hJs⟩⟩

set_option maxRecDepth 100000 in
set_option maxHeartbeats 1000000 in
theorem values1_empty (n : Nat) (l Bs : Nat) (A : Option Addr) (cap : Nat) (J : List (Piece w0 n₀) → World → Prop) (W : World) (hBs : W.cell? ⟨Bs, 0, none⟩ = some (.slice A 0 cap)) (h0 : J [] W) :
    CallsIn Fence.wide n Try.prog 163 #[.func (.yield l) #[] #[], .pointer (some ⟨Bs, 0, none⟩)] W fun e W' => (∃ v, e = .returned v) ∧ J [] W' := by
  refine callsIn_of_wp Try.func163 rfl trivial ?_ rfl
  simp only [Try.ntmps163, List.size_toArray, List.length_cons, List.length_nil, Nat.reduceAdd, Nat.reduceSub, Array.replicate_succ, Array.replicate_zero, List.push_toArray, List.append_toArray, List.nil_append, List.cons_append]
  gi_wp2
  gi_loopw [7] (fun i wr => i = .int .i64 0 ∧ J [] wr) (fun _ _ => 0)
  case atStart => exact ⟨rfl, h0⟩
  case round =>
    obtain ⟨rfl, hJs⟩ := hrel
    gi_wp2
    go_end0
    exact ⟨⟨_, rfl⟩, hJs⟩

set_option maxHeartbeats 1000000 in
theorem values_in (n : Nat) (a : Option Addr) (len cap : Nat) (w : World) :
    CallsIn Fence.wide n Try.prog 99 #[.slice a len cap] w fun e w' => e = .returned (.func (.func 163) #[] #[.pointer (some ⟨w.heap.size, 0, none⟩)]) ∧ w.alloc (.cells #[.slice a len cap] 168) = w' := by
  refine callsIn_of_wp Try.func99 rfl trivial ?_ rfl
  simp only [Try.ntmps99, List.size_toArray, List.length_cons, List.length_nil, Nat.reduceAdd, Nat.reduceSub, Array.replicate_succ, Array.replicate_zero, List.push_toArray, List.append_toArray, List.nil_append, List.cons_append]
  gi_wp2
  go_ret
  exact ⟨rfl, rfl⟩

theorem values_stops (n : Nat) (hn1 : 1 ≤ n) (Bs : Nat) (A : Option Addr) (c : Nat) (zs : List (Piece w0 n₀)) (hI : InLL w0 n₀ A c zs) (w : World) (hb0 : Below n₀ w0 w) (hBs : Bs < w.heap.size) (hn₀ : n₀ ≤ w.heap.size)
    (hc : w.cell? ⟨Bs, 0, none⟩ = some (.slice A zs.length c)) :
    SeqStopsK Fence.wide n Try.prog 163 #[.pointer (some ⟨Bs, 0, none⟩)] (fun x : Piece w0 n₀ => #[x.val]) (Below n₀) (fun ys => ys = zs) (fun pre => pre <+: zs) zs.length w := fun l J Jx W hW _ _ hY h0 => by
  have hc' := (hW.cell (p := ⟨Bs, 0, none⟩) hBs).trans hc
  have hle := hI.le
  have hmx := hI.max
  rcases Nat.eq_zero_or_pos zs.length with hz | hz
  · obtain rfl := List.eq_nil_of_length_eq_zero hz
    exact (values1_empty n l Bs A c J W hc' h0).mono fun e W' ⟨he, hj⟩ => ⟨he, .inl ⟨_, rfl, hj⟩⟩
  · obtain ⟨g, o, rfl, hg, hcs⟩ := hI.lies hz
    exact values1_some n hn1 l Bs g o c zs (by omega) hg J Jx hY W hc' (fun j hj => ((hb0.trans (hW.mono hn₀)).cell hg).trans (hcs j hj)) h0
end

theorem tab_zero : TabOk 0 Try.zeroCells186 :=
  ⟨by kernel_rfl, by kernel_rfl, by kernel_rfl, .inl rfl, fun _ => by kernel_rfl, fun h => by omega⟩

set_option maxRecDepth 100000 in
set_option maxHeartbeats 2000000 in
theorem sum_in (n : Nat) (hn : 4 ≤ n) (w : World) (A : Option Addr) (c : Nat) (zs : List (Piece w w.heap.size)) (hI : InLL w w.heap.size A c zs) :
    CallsIn Fence.wide n Try.prog 29 #[.slice A zs.length c] w fun e W' => e = .returned (.int .u32 (sumL (zs.map Piece.l).flatten : Int)) ∧ Below w.heap.size w W' := by
  have h1 : 1 ≤ n := by omega
  refine callsIn_of_wp_marks Try.func29 rfl trivial ?_ rfl
  simp only [Try.ntmps29, List.size_toArray, List.length_cons, List.length_nil, Nat.reduceAdd, Nat.reduceSub, Array.replicate_succ, Array.replicate_zero, List.push_toArray, List.append_toArray, List.nil_append, List.cons_append]
  gi_wp2_with (refine ⟨trivial, ?_⟩; gi_at_call 99; refine (values_in (n - 1) _ _ _ _).mono ?_; rintro e w' ⟨rfl, rfl⟩)
  have b0 : BlkIs ((((w.alloc (.cells Try.zeroCells186 186)).alloc (.cells #[.pointer (some ⟨w.heap.size, 0, none⟩)] 169)).alloc (.cells #[.int .u32 4294967295] 45)).alloc (.cells #[.slice A zs.length c] 168)) w.heap.size 186 Try.zeroCells186 := (((BlkIs.new _ _ _).alloc _).alloc _).alloc _
  have b1 : BlkIs ((((w.alloc (.cells Try.zeroCells186 186)).alloc (.cells #[.pointer (some ⟨w.heap.size, 0, none⟩)] 169)).alloc (.cells #[.int .u32 4294967295] 45)).alloc (.cells #[.slice A zs.length c] 168)) (w.heap.size + 1) 169 #[.pointer (some ⟨w.heap.size, 0, none⟩)] := by
    have := ((BlkIs.new (w.alloc (.cells Try.zeroCells186 186)) 169 #[.pointer (some ⟨w.heap.size, 0, none⟩)]).alloc (.cells #[.int .u32 4294967295] 45)).alloc (.cells #[.slice A zs.length c] 168)
    rwa [World.size_alloc] at this
  have b2 : BlkIs ((((w.alloc (.cells Try.zeroCells186 186)).alloc (.cells #[.pointer (some ⟨w.heap.size, 0, none⟩)] 169)).alloc (.cells #[.int .u32 4294967295] 45)).alloc (.cells #[.slice A zs.length c] 168)) (w.heap.size + 1 + 1) 45 #[.int .u32 4294967295] := by
    have := (BlkIs.new ((w.alloc (.cells Try.zeroCells186 186)).alloc (.cells #[.pointer (some ⟨w.heap.size, 0, none⟩)] 169)) 45 #[.int .u32 4294967295]).alloc (.cells #[.slice A zs.length c] 168)
    rwa [World.size_alloc, World.size_alloc] at this
  have b3 : ((((w.alloc (.cells Try.zeroCells186 186)).alloc (.cells #[.pointer (some ⟨w.heap.size, 0, none⟩)] 169)).alloc (.cells #[.int .u32 4294967295] 45)).alloc (.cells #[.slice A zs.length c] 168)).cell? ⟨w.heap.size + 1 + 1 + 1, 0, none⟩ = some (.slice A zs.length c) := by
    have := new_cell (((w.alloc (.cells Try.zeroCells186 186)).alloc (.cells #[.pointer (some ⟨w.heap.size, 0, none⟩)] 169)).alloc (.cells #[.int .u32 4294967295] 45)) (.slice A zs.length c) 168
    rwa [World.size_alloc, World.size_alloc, World.size_alloc] at this
  have hB0 : Below w.heap.size w ((((w.alloc (.cells Try.zeroCells186 186)).alloc (.cells #[.pointer (some ⟨w.heap.size, 0, none⟩)] 169)).alloc (.cells #[.int .u32 4294967295] 45)).alloc (.cells #[.slice A zs.length c] 168)) :=
    ((((Below.refl _ w).alloc (Nat.le_refl _) _).alloc (by simp) _).alloc (by simp; omega) _).alloc (by simp; omega) _
  have hsz : ((((w.alloc (.cells Try.zeroCells186 186)).alloc (.cells #[.pointer (some ⟨w.heap.size, 0, none⟩)] 169)).alloc (.cells #[.int .u32 4294967295] 45)).alloc (.cells #[.slice A zs.length c] 168)).heap.size = w.heap.size + 4 := by simp
  generalize hW0 : ((((w.alloc (.cells Try.zeroCells186 186)).alloc (.cells #[.pointer (some ⟨w.heap.size, 0, none⟩)] 169)).alloc (.cells #[.int .u32 4294967295] 45)).alloc (.cells #[.slice A zs.length c] 168)) = W0 at *
  clear hW0
  refine wpIn_rangeFunc_ownG rfl h1 (gf := 163) (lb := #[.pointer (some ⟨w.heap.size + 1 + 1 + 1, 0, none⟩)]) rfl trivial (enters_of Try.func163 (by kernel_rfl) rfl)
    (values_stops (n - 1) (by omega) (w.heap.size + 1 + 1 + 1) A c zs hI W0 hB0 (by omega) (by omega) b3) belowK_t (belowK_b (by omega)) (Below.refl _ _) (fun _ => rfl)
    (fun pre W => ((∃ d cs, BlkIs W w.heap.size 186 cs ∧ TabOk d cs) ∧ BlkIs W (w.heap.size + 1) 169 #[.pointer (some ⟨w.heap.size, 0, none⟩)] ∧ BlkIs W (w.heap.size + 1 + 1) 45 #[.int .u32 (sumS 4294967295 (pre.map Piece.l).flatten : Int)]) ∧ Below w.heap.size w W)
    (fun _ _ _ => False)
    (OwnFrom.and (Own.from (fun s A B row hs hg hr => ⟨by obtain ⟨d, cs, h1, h2⟩ := hs.1; exact ⟨d, cs, h1.kept hg hr, h2⟩, hs.2.1.kept hg hr, hs.2.2.kept hg hr⟩) _) (ownFrom_below (Nat.le_refl _) (by omega)))
    (fun _ _ _ _ _ hs _ _ => hs)
    ⟨⟨⟨0, _, b0, tab_zero⟩, b1, b2⟩, hB0⟩
    (fun x => { tmps := #[.slice A zs.length c, undef, .int .u32 0, .pointer (some ⟨w.heap.size + 1, 0, none⟩), .pointer (some ⟨w.heap.size + 1 + 1, 0, none⟩), .slice x.1.1.1 x.1.2.length x.1.1.2, undef, undef, .agg Try.zeroCells186, .pointer (some ⟨w.heap.size, 0, none⟩), .slice A zs.length c, .func (.func 163) #[] #[.pointer (some ⟨w.heap.size + 1 + 1 + 1, 0, none⟩)], .slice x.1.1.1 x.1.2.length x.1.1.2, undef, undef, undef, undef, undef, undef, undef, undef, undef, undef, undef, undef, undef], defers := [] }) ?assign ?body ?done ?stop
  case assign =>
    intro l x W K hK
    have hv : x.val = .slice x.1.1.1 x.1.2.length x.1.1.2 := rfl
    dsimp only [hv]
    gi_wp2
    exact hK
  case body =>
    rintro l pre x W ⟨⟨⟨d, cs, hT, hOk⟩, hP, hS⟩, hB⟩ _
    have hx := x.2
    have hxl := hx.le
    have hxm := hx.max
    have h11 : 1 ≤ n - 1 - 1 := by omega
    have hF : (pre ++ [x]).map Piece.l = pre.map Piece.l ++ [x.1.2] := by simp [Piece.l]
    have hFl : sumS 4294967295 ((pre ++ [x]).map Piece.l).flatten = sumS (sumS 4294967295 (pre.map Piece.l).flatten) x.1.2 := by
      rw [hF, List.flatten_append, sumS_append]; simp
    have hs32 := sumS_lt (s := 4294967295) (by omega) (pre.map Piece.l).flatten
    have HF := Lib.hid hFl
    clear hF hFl
    generalize sumS 4294967295 (pre.map Piece.l).flatten = s0 at *
    have hz := hsz
    gi_wp2_with fail
    gi_loopw [15] (fun i wr => ∃ k : Nat, k ≤ x.1.2.length ∧ i = .int .i64 k ∧ (∃ d cs, BlkIs wr w.heap.size 186 cs ∧ TabOk d cs) ∧ BlkIs wr (w.heap.size + 1) 169 #[.pointer (some ⟨w.heap.size, 0, none⟩)] ∧ BlkIs wr (w.heap.size + 1 + 1) 45 #[.int .u32 (sumS s0 (x.1.2.take k) : Int)] ∧ Below w.heap.size W wr ∧ KeepsOthers W wr)
      (fun i _ => x.1.2.length - (intOf i).toNat)
    case atStart => exact ⟨0, by omega, rfl, ⟨d, cs, hT, hOk⟩, hP, hS, Below.refl _ _, KeepsOthers.refl _⟩
    case round =>
      obtain ⟨k, hk, rfl, ⟨d, cs, hT, hOk⟩, hP, hS, hBW, hKO⟩ := hrel
      by_cases hlt : k < x.1.2.length
      · obtain ⟨g, o, hA, hg, hc⟩ := hx.lies (by omega)
        have hck : wr.cell? ⟨g, o + k, none⟩ = some (.int .u8 (x.1.2[k].toNat : Int)) := ((hB.trans hBW).cell (p := ⟨g, o + k, none⟩) hg).trans (hc k hlt)
        have hsk := sumS_lt hs32 (x.1.2.take k)
        have hnext : sumS s0 (x.1.2.take (k + 1)) = stepC (sumS s0 (x.1.2.take k)) x.1.2[k] := by
          rw [List.take_succ_eq_append_getElem hlt, sumS_append]; rfl
        have HN := Lib.hid hnext
        clear hnext hc hs32
        generalize sumS s0 (x.1.2.take k) = sk at *
        have hcP := hP.boxed
        have hcS := hS.boxed
        rw [hA]
        have HA := Lib.hid hA
        clear hA
        gi_wp2_with (refine ⟨trivial, ?_⟩; gi_at_call 100; refine (CallsIn.inRound l (callsIn_wide.2 (step_gives w.heap.size d cs sk x.1.2[k] hsk _ hT hOk))).mono ?_; rintro e w' ⟨rfl, ⟨cs1, hb1, h1⟩, hg1⟩; have hS1 := hS.grown hg1 (by simp; omega); have hP1 := hP.grown hg1 (by simp); have hcS1 := hS1.boxed; have hfS1 := hS1.free 0)
        have hBw : Below w.heap.size wr w' := (Below.refl _ _).grown hg1 (by have := hT.lt; omega) (fun k hk => by cases hk; exact Nat.le_refl _)
        refine ⟨⟨k + 1, by omega, by go_num, ⟨1, cs1, hb1.other (by simp; omega) _, h1⟩, hP1.other (by simp) _, ?_, (hBW.trans hBw).setCell (p := ⟨w.heap.size + 1 + 1, 0, none⟩) (by simp; omega) _, (hKO.trans (hT.others hg1)).trans (KeepsOthers.setCell _ _ _)⟩, by simp [intOf]; omega⟩
        rw [HN.out]
        exact hS1.set 0 _
      · obtain rfl : k = x.1.2.length := by omega
        gi_wp2_with fail
        rw [List.take_length] at hS
        refine ⟨hKO.from _, hBW, ⟨⟨⟨d, cs, hT, hOk⟩, hP, ?_⟩, hB.trans hBW⟩⟩
        rw [HF.out]
        exact hS
  case done =>
    rintro D ys W hD rfl ⟨⟨hT, hP, hS⟩, hB⟩ hK
    have hcS := hS.boxed
    have hs32 := sumS_lt (s := 4294967295) (by omega) (ys.map Piece.l).flatten
    have hinv := xor_inv hs32
    gi_wp2
    refine ⟨by simp, .inl ⟨_, _, rfl, run_takeDeferred hK, ?_⟩⟩
    exact ⟨_, results_tmp rfl _ _ _, rfl, hB.trans (belowK_b (w := w) (Nat.le_refl _) W D _ _ (by omega) hK rfl rfl)⟩
  case stop =>
    rintro D c pre W _ _ h _
    exact h.elim

/-- octet.Sum, whatever lists of bytes. -/
theorem sum_gives (w : World) (A : Option Addr) (c : Nat) (zs : List (Piece w w.heap.size)) (hI : InLL w w.heap.size A c zs) :
    Calls Try.prog 29 #[.slice A zs.length c] w fun e W' => e = .returned (.int .u32 (sumL (zs.map Piece.l).flatten : Int)) ∧ Below w.heap.size w W' :=
  callsIn_wide.1 (sum_in 4 (Nat.le_refl _) w A c zs hI)

/-- .. of none, of one, of two, in a block just laid. -/
theorem sum0_gives (w : World) : Calls Try.prog 29 #[.slice none 0 0] w fun e W' => e = .returned (.int .u32 (sumL [] : Int)) ∧ Below w.heap.size w W' :=
  sum_gives w none 0 [] ⟨by simp, by omega, fun h => by simp at h⟩
theorem sum1_gives (W : World) (A : Option Addr) (c : Nat) (l : List UInt8) (hin : InB W W.heap.size A c l) :
    Calls Try.prog 29 #[.slice (some ⟨W.heap.size, 0, none⟩) 1 1] (W.alloc (.cells #[.slice A l.length c] 30)) fun e W' => e = .returned (.int .u32 (sumL l : Int)) ∧ Below W.heap.size W W' := by
  have hb : Below W.heap.size W (W.alloc (.cells #[.slice A l.length c] 30)) := (Below.refl _ _).alloc (Nat.le_refl _) _
  have h1 : InB (W.alloc (.cells #[.slice A l.length c] 30)) (W.alloc (.cells #[.slice A l.length c] 30)).heap.size A c l := (hin.below hb).more (by simp)
  have H := sum_gives (W.alloc (.cells #[.slice A l.length c] 30)) (some ⟨W.heap.size, 0, none⟩) 1 [⟨((A, c), l), h1⟩] ⟨by simp, by omega, fun _ => ⟨W.heap.size, 0, rfl, by simp, fun j hj => by
    obtain rfl : j = 0 := by simpa using hj
    exact new_cell _ _ _⟩⟩
  refine H.mono ?_
  rintro e W' ⟨rfl, hB⟩
  exact ⟨by simp [Piece.l], hb.trans (hB.mono (by simp))⟩
theorem sum2_gives (W : World) (A A2 : Option Addr) (c c2 : Nat) (l l2 : List UInt8) (hin : InB W W.heap.size A c l) (hin2 : InB W W.heap.size A2 c2 l2) :
    Calls Try.prog 29 #[.slice (some ⟨W.heap.size, 0, none⟩) 2 2] (W.alloc (.cells #[.slice A l.length c, .slice A2 l2.length c2] 30)) fun e W' => e = .returned (.int .u32 (sumL (l ++ l2) : Int)) ∧ Below W.heap.size W W' := by
  have hb : Below W.heap.size W (W.alloc (.cells #[.slice A l.length c, .slice A2 l2.length c2] 30)) := (Below.refl _ _).alloc (Nat.le_refl _) _
  have h1 : InB (W.alloc (.cells #[.slice A l.length c, .slice A2 l2.length c2] 30)) (W.alloc (.cells #[.slice A l.length c, .slice A2 l2.length c2] 30)).heap.size A c l := (hin.below hb).more (by simp)
  have h2 : InB (W.alloc (.cells #[.slice A l.length c, .slice A2 l2.length c2] 30)) (W.alloc (.cells #[.slice A l.length c, .slice A2 l2.length c2] 30)).heap.size A2 c2 l2 := (hin2.below hb).more (by simp)
  have hbk := BlkIs.new W 30 #[.slice A l.length c, .slice A2 l2.length c2]
  have H := sum_gives (W.alloc (.cells #[.slice A l.length c, .slice A2 l2.length c2] 30)) (some ⟨W.heap.size, 0, none⟩) 2 [⟨((A, c), l), h1⟩, ⟨((A2, c2), l2), h2⟩] ⟨by simp, by omega, fun _ => ⟨W.heap.size, 0, rfl, by simp, fun j hj => by
    rw [hbk.cell]
    rcases (show j = 0 ∨ j = 1 from by simp at hj; omega) with rfl | rfl
    · rfl
    · rfl⟩⟩
  refine H.mono ?_
  rintro e W' ⟨rfl, hB⟩
  exact ⟨by simp [Piece.l], hb.trans (hB.mono (by simp))⟩
end Go.Proofs.Ytlelckdcmlpmdaa
/- copy of bytes into a block of the call's own. -/
namespace Go.Proofs.Ytlelckdcmlpmdaa
open Go Go.RowKit Lou

theorem BlkIs.setRow {w : World} {g : Nat} {t : TypeId} {cs : Array Value} (h : BlkIs w g t cs) (cs' : Array Value) : BlkIs (w.setRow g cs') g t cs' := setRow_heap w g cs cs' t (0, 0) h
theorem BlkIs.setRow_ne {w : World} {g k : Nat} {t : TypeId} {cs : Array Value} (h : BlkIs w g t cs) (hk : g ≠ k) (cs' : Array Value) : BlkIs (w.setRow k cs') g t cs := (setRow_other w k g cs' hk).trans h
theorem below_setRow {B : Nat} {w0 w : World} (hb : Below B w0 w) {g : Nat} (hg : B ≤ g) (cs : Array Value) : Below B w0 (w.setRow g cs) :=
  hb.trans ⟨rfl, rfl, rfl, by simp [World.setRow], fun k hk => setRow_other w g k cs (by omega)⟩

/-- What stands after a copy. -/
def spliceB (l : List UInt8) (o n : Nat) (src : List UInt8) : List UInt8 := l.take o ++ src.take n ++ l.drop (o + min src.length n)
theorem copyB_run {w : World} {g o : Nat} {l src : List UInt8} {A : Option Addr} {c B dLen dCap : Nat} (ty : TypeId) {T : TypeId} (hb : BlkIs w g T (l.map b8).toArray) (hin : InB w B A c src) (hfit : o + dLen ≤ l.length) :
    (Builtin.copy_ #[30, 30] ty #[.slice (some ⟨g, o, none⟩) dLen dCap, .slice A src.length c]).run Try.prog w = .ok (.int .i64 ((min src.length dLen : Nat) : Int)) (w.setRow g ((spliceB l o dLen src).map b8).toArray) := by
  obtain ⟨i0, hi, hz0, hz1, hz2⟩ := info_parts inf_u8
  have hs : (Try.prog.info? 5).map (·.size) = some 1 := by rw [hi]; simp [hz1]
  rcases Nat.eq_zero_or_pos src.length with h0 | h0
  · obtain rfl := List.eq_nil_of_length_eq_zero h0
    have e : spliceB l o dLen [] = l := by simp [spliceB]
    rw [e, setRow_self w g _ _ _ hb]
    rcases A with _ | ad
    · obtain rfl := hin.nil rfl
      have := run_copy_nil (P := Try.prog) w 30 30 ty 5 ⟨g, o, none⟩ dLen dCap Try.underlying30 (by rw [hi]; rfl)
      simpa [goInt] using this
    · have := run_copy_row (P := Try.prog) w 30 30 ty 5 g o dLen dCap ad 0 c _ _ [] Try.underlying30 hs hb (by simp) (by simp) (by simp; omega) (by simp)
      have e2 : ((l.map b8).toArray.toList.take o ++ [] ++ (l.map b8).toArray.toList.drop (o + ([] : List Value).length)).toArray = (l.map b8).toArray := by simp
      rw [e2, setRow_self w g _ _ _ hb] at this
      simpa [goInt] using this
  · obtain ⟨g2, o2, rfl, hg2, hc⟩ := hin.lies h0
    have := run_copy_row (P := Try.prog) w 30 30 ty 5 g o dLen dCap ⟨g2, o2, none⟩ src.length c _ _ ((src.take dLen).map b8) Try.underlying30 hs hb (by simp [Nat.min_comm]) ?_ (by simp; omega) (fun v hv => by obtain ⟨x, _, rfl⟩ := List.mem_map.1 hv; rfl)
    · rw [this]
      simp [goInt, spliceB, Nat.min_comm, List.map_take, List.map_drop]
    · intro j v hj
      have hj2 : j < (src.take dLen).length := by
        have := (List.getElem?_eq_some_iff.1 hj).1
        simpa using this
      have hjs : j < src.length := by simp at hj2; omega
      have ea : (⟨g2, o2, none⟩ : Addr).add j = ⟨g2, o2 + j, none⟩ := by cases j <;> simp [Addr.add]
      rw [ea, hc j hjs]
      rw [List.getElem?_map, List.getElem?_eq_getElem hj2, List.getElem_take] at hj
      simpa [b8] using hj

section
variable {w : World} {ops : Array Oper} {rest : List Oper} {o : Oper} {a : Act} {Q : Exit → Act → World → Prop}
theorem oper_copyB {K : Act → World → Prop} (d s : Operand) (ho : o.op = .call { callee := .builtin .copy, args := #[d, s], argTypes := #[30, 30] })
    (g off : Nat) (l src : List UInt8) (A : Option Addr) (c B dLen dCap : Nat) (hd : a.eval d = .slice (some ⟨g, off, none⟩) dLen dCap) (hs : a.eval s = .slice A src.length c)
    {T : TypeId} (hb : BlkIs w g T (l.map b8).toArray) (hin : InB w B A c src) (hfit : off + dLen ≤ l.length)
    (h : K (a.put o.dst (.int .i64 ((min src.length dLen : Nat) : Int))) (w.setRow g ((spliceB l off dLen src).map b8).toArray)) : o.wp Try.prog a w K Q := by
  have hr := copyB_run (dCap := dCap) o.type hb hin hfit
  unfold Oper.wp execOp
  simp only [ho, resolve, invoke, builtin, Sem.run_bind, Sem.run_pure, Result.andThen_ok, List.map_toArray, List.map_cons, List.map_nil, hd, hs, hr]
  exact h
theorem wp_copyB (hgd : o.guard = none) (d s : Operand) (ho : o.op = .call { callee := .builtin .copy, args := #[d, s], argTypes := #[30, 30] })
    (g off : Nat) (l src : List UInt8) (A : Option Addr) (c B dLen dCap : Nat) (hd : a.eval d = .slice (some ⟨g, off, none⟩) dLen dCap) (hs : a.eval s = .slice A src.length c)
    {T : TypeId} (hb : BlkIs w g T (l.map b8).toArray) (hin : InB w B A c src) (hfit : off + dLen ≤ l.length)
    (h : wpList Try.prog ops Q rest (a.put o.dst (.int .i64 ((min src.length dLen : Nat) : Int))) (w.setRow g ((spliceB l off dLen src).map b8).toArray)) : wpList Try.prog ops Q (o :: rest) a w :=
  wpList_plain hgd fun _ hK => oper_copyB d s ho g off l src A c B dLen dCap hd hs hb hin hfit (hK _ _ h)
end
/-- An own row without spare room, as a block. -/
theorem OwnB.blk {w : World} {base g : Nat} {l : List UInt8} (h : OwnB w base (.slice (some ⟨g, 0, none⟩) l.length l.length) l) : BlkIs w g 5 (l.map b8).toArray ∧ base ≤ g := by
  rcases h.2 with ⟨h1, _⟩ | ⟨g', cap, cur, hv, hb, hg, hle, _, hs, ht⟩
  · cases h1
  · injection hv with e1 e2 e3
    injection e1 with e1
    injection e1 with e1 _ _
    subst e1 e3
    refine ⟨?_, hb⟩
    have e : cur.toList = l.map b8 := by
      rw [← ht, List.take_of_length_le]
      simp; omega
    have e' : cur = (l.map b8).toArray := by rw [← e]
    unfold BlkIs
    rw [hg, e']
end Go.Proofs.Ytlelckdcmlpmdaa
/- Steps of a region that draws its order, for go_region_held3: append and copy of bytes. -/
namespace Go.Proofs.Ytlelckdcmlpmdaa
open Go Go.RowKit Lou

theorem run_appB {w : World} (ty : TypeId) (base : Nat) (v : Value) (l : List UInt8) (hown : OwnB w base v l) (B : Nat) (A : Option Addr) (c : Nat) (l2 : List UInt8) (hin : InB w B A c l2)
    (hbytes : l.length + l2.length ≤ 140737488355328) (hbase : base ≤ w.heap.size) :
    ∃ v' w', (Builtin.append_ #[30, 30] ty #[v, .slice A l2.length c]).run Try.prog w = .ok v' w' ∧ OwnB w' base v' (l ++ l2) ∧ w.grownBy w' v.ownBlock ∧ (v'.ownBlock = v.ownBlock ∨ v'.ownBlock = some w.heap.size) := by
  obtain ⟨i0, hi, hz0, hz1, hz2⟩ := info_parts inf_u8
  have hle := hin.le
  rcases A with _ | ad
  · have hc0 := hin.nil rfl
    obtain rfl : l2 = [] := List.eq_nil_of_length_eq_zero (by omega)
    subst hc0
    have hr := run_append_owned_none (P := Try.prog) w base 30 ty 5 i0 1 Try.underlying30 hi v l.length (l.map b8) hown
    exact ⟨v, w, hr, by rw [List.append_nil]; exact hown, World.grownBy.refl _ _, .inl rfl⟩
  · have hnews : ∀ j u, (l2.map b8)[j]? = some u → w.cell? (ad.add j) = some u := by
      intro j u hu
      have hj : j < l2.length := by
        rcases Nat.lt_or_ge j l2.length with h | h
        · exact h
        · rw [List.getElem?_eq_none (by simpa using h)] at hu; cases hu
      obtain ⟨g, o', hA, _, hc⟩ := hin.lies (by omega)
      obtain rfl : ad = ⟨g, o', none⟩ := by simpa using hA
      have e : (⟨g, o', none⟩ : Addr).add j = ⟨g, o' + j, none⟩ := by unfold Addr.add; split <;> simp_all
      rw [e, hc j hj]
      simpa [hj, b8] using hu
    obtain ⟨v', w', hr, h2, h3, _, h5⟩ := run_append_own_at (P := Try.prog) w base 30 ty 5 i0 (.int .u8 0) 1 1 Try.underlying30 hi hz0 hz1 hz2 rfl (by decide) v l.length (l.map b8) hown ad l2.length c (l2.map b8) (by simp) hnews (by simp [b8, Value.oneCell']) (by unfold maxLen; omega) (by omega) hbase
    refine ⟨v', w', hr, ?_, h3, h5⟩
    unfold OwnB
    simpa using h2

theorem zeroCells_b8 (k : Nat) : Builtin.zeroCells (Value.int .u8 0).cells k = ((List.replicate k (0 : UInt8)).map b8).toArray := by
  apply Array.ext'
  have : (Value.int .u8 0).cells = #[.int .u8 0] := rfl
  rw [this]
  have h : (Builtin.zeroCells #[Value.int .u8 0] k).toList = List.replicate k (.int .u8 0) := by
    unfold Builtin.zeroCells
    simp only [Array.toList_map, List.toList_toArray, List.map_map, Array.toList_range]
    apply List.ext_getElem
    · simp
    · intro i h1 h2
      simp [Nat.mod_one]
  rw [h]
  simp [b8]
/-- append(v, make([]byte, k)...), v the call's own. -/
theorem run_appZ {w : World} (ty : TypeId) (base : Nat) (v : Value) (l : List UInt8) (hown : OwnB w base v l) (k : Nat) (h0 : 0 < k) (hbytes : l.length + k ≤ 1000000000) (hbase : base ≤ w.heap.size) :
    ∃ v' w', (Builtin.append_ #[30, 3] ty #[v, .int .i64 (k : Int)]).run Try.prog w = .ok v' w' ∧ OwnB w' base v' (l ++ List.replicate k 0) ∧ w.grownBy w' v.ownBlock ∧ (v'.ownBlock = v.ownBlock ∨ v'.ownBlock = some w.heap.size) := by
  obtain ⟨i0, hi, hz0, hz1, hz2⟩ := info_parts inf_u8
  have fresh : ∀ (old : Nat) (l' : List UInt8), (h : old < l'.length + k) → l'.length + k ≤ 1000000000 →
      OwnB (w.drew.alloc (.cells ((l'.map b8).toArray ++ Builtin.zeroCells (Value.int .u8 0).cells k ++ Builtin.zeroCells (Value.int .u8 0).cells (grownCap w (l'.length + k) old 5 - (l'.length + k))) 5)) base (.slice (some ⟨w.heap.size, 0, none⟩) (l'.length + k) (grownCap w (l'.length + k) old 5)) (l' ++ List.replicate k 0) := by
    intro old l' ho hb
    have hcap := grownCap_le_maxLen w (l'.length + k) old 5 (by unfold maxLen; omega)
    have hge := grownCap_ge w (l'.length + k) old 5
    generalize grownCap w (l'.length + k) old 5 = cap at *
    rw [zeroCells_b8, zeroCells_b8]
    refine ⟨by simp, .inr ⟨w.heap.size, cap, _, by simp, hbase, heap_alloc_new w.drew _, by simp; omega, hcap, by simp; omega, ?_⟩⟩
    have e : ∀ d, List.replicate (k + d) (b8 0) = List.replicate k (b8 0) ++ List.replicate d (b8 0) := fun d => by simp
    simp only [List.length_append, List.length_replicate, Nat.mul_one, Array.toList_append, List.map_append, List.map_replicate, List.append_assoc]
    rw [← List.append_assoc, List.take_append_of_le_length (by simp), List.take_of_length_le (by simp)]
  rcases hown.2 with ⟨rfl, h1⟩ | ⟨g, cap, cur, rfl, hb, hg, hle, hm, hs, ht⟩
  · obtain rfl := List.eq_nil_of_length_eq_zero h1
    have hr := Lib.run_append_nil_zeros (P := Try.prog) w 30 3 ty 5 i0 (.int .u8 0) .i64 .i64 Try.underlying30 Try.underlying3 hi hz0 k h0 (by omega) (by omega) (by rw [hz2]; simp at hbytes; omega)
    have hf := fresh 0 [] (by simp; omega) hbytes
    simp only [List.length_nil, Nat.zero_add, List.map_nil, List.nil_append] at hf
    refine ⟨_, _, hr, ?_, ⟨rfl, rfl, rfl, by simp, fun j hj _ => heap_alloc_old w.drew _ hj⟩, .inr rfl⟩
    simpa using hf
  · by_cases hroom : l.length + k ≤ cap
    · have hst := run_storeCells_at (P := Try.prog) g l.length 5 ((List.replicate k (0 : UInt8)).map b8) 0 cur w hg (by simp; omega) (fun v hv => by simp at hv; obtain ⟨_, rfl⟩ := hv; rfl)
      have e1 : (cur.toList.take (l.length + 0) ++ (List.replicate k (0 : UInt8)).map b8 ++ cur.toList.drop (l.length + 0 + ((List.replicate k (0 : UInt8)).map b8).length)).toArray.toList.take (l.length + k) = (l ++ List.replicate k 0).map b8 := by
        have e2 : cur.toList.take l.length = l.map b8 := by simpa using ht
        simp only [Nat.add_zero, e2, List.map_append]
        rw [List.take_append_of_le_length (by simp)]
        rw [List.take_of_length_le (by simp)]
      have hCs : (cur.toList.take (l.length + 0) ++ (List.replicate k (0 : UInt8)).map b8 ++ cur.toList.drop (l.length + 0 + ((List.replicate k (0 : UInt8)).map b8).length)).toArray.size = cap := by
        simp
        omega
      generalize (cur.toList.take (l.length + 0) ++ (List.replicate k (0 : UInt8)).map b8 ++ cur.toList.drop (l.length + 0 + ((List.replicate k (0 : UInt8)).map b8).length)).toArray = C at hst e1 hCs
      refine ⟨.slice (some ⟨g, 0, none⟩) (l.length + k) cap, w.setRow g C, ?_, ?_, ⟨rfl, rfl, rfl, by simp [World.setRow], fun j _ hj => setRow_other w g j _ (fun e => hj (by simp [Value.ownBlock, e]))⟩, .inl rfl⟩
      · have hk : k ≠ 0 := by omega
        have hw : IntKind.i64.wrap (k : Int) = k := by rw [IntKind.wrap_i64]; omega
        have h48i : ¬ (281474976710656 < (k : Int) * (i0.bytes : Int)) := by rw [hz2]; omega
        have hneg : ¬ ((k : Int) < 0) := by omega
        have hns : ¬ (k * i0.size = 0) := by rw [hz1]; omega
        have ea : (⟨g, 0, none⟩ : Addr).add (l.length * i0.size) = ⟨g, l.length, none⟩ := by rw [hz1, Nat.mul_one]; unfold Addr.add; split <;> simp_all
        have hzc := zeroCells_b8 k
        have hst' : (storeCells ⟨g, l.length, none⟩ (Builtin.zeroCells (Value.int .u8 0).cells k).toList).run Try.prog w = .ok () (w.setRow g C) := by
          rw [hzc]
          simpa using hst
        simp [Builtin.append_, run_underlying Try.underlying30, run_underlying Try.underlying3, sizeOf, typeInfo, zeroValue, hi, hz0, asInt, asIntOf, hw, hroom, hneg, hns, h48i, ea, hst']
      · refine ⟨by simp, .inr ⟨g, cap, _, by simp, hb, setRow_heap w g cur _ _ _ hg, by simpa using hroom, hm, by omega, ?_⟩⟩
        simpa using e1
    · have hold : (Builtin.firstCells i0.size l.length (.slice (some ⟨g, 0, none⟩) l.length cap)).run Try.prog w.drew = .ok (l.map b8).toArray w.drew := by
        have hl := run_loadCells_list (P := Try.prog) w.drew ⟨g, 0, none⟩ (l.map b8) (fun j u hj => by
          have hj' : j < l.length := by
            have := (List.getElem?_eq_some_iff.1 hj).1
            simpa using this
          have hc := OwnB.cell (w := w) hown j hj'
          have ea : (⟨g, 0, none⟩ : Addr).add j = ⟨g, j, none⟩ := by unfold Addr.add; split <;> simp_all
          rw [ea]
          have hc2 : w.drew.cell? ⟨g, j, none⟩ = some (.int .u8 (l[j].toNat : Int)) := hc
          rw [hc2]
          rw [List.getElem?_map, List.getElem?_eq_getElem hj'] at hj
          simpa [b8] using hj)
        simp only [List.length_map] at hl
        simp [Builtin.firstCells, hz1, hl]
      have hr := Lib.run_append_grow_zeros (P := Try.prog) w 30 3 ty 5 i0 (.int .u8 0) .i64 .i64 Try.underlying30 Try.underlying3 hi hz0 (some ⟨g, 0, none⟩) l.length cap (l.map b8) hold k h0 (by rw [hz1]; omega) (by omega) (by omega) (by rw [hz2]; omega) (growslice_fits (by omega) (by rw [hz2]; omega))
      refine ⟨_, _, hr, ?_, ⟨rfl, rfl, rfl, by simp, fun j hj _ => heap_alloc_old w.drew _ hj⟩, .inr rfl⟩
      have := fresh cap l (by omega) hbytes
      simpa using this
theorem OwnB.later {w w' : World} {base : Nat} {v : Value} {l : List UInt8} (h : OwnB w base v l) (hB : Below w.heap.size w w') : OwnB w' base v l := by
  refine ⟨h.1, ?_⟩
  rcases h.2 with h | ⟨g, cap, cur, h1, h2, h3, h4⟩
  · exact .inl h
  · exact .inr ⟨g, cap, cur, h1, h2, (hB.block g (Array.getElem?_eq_some_iff.1 h3).1).trans h3, h4⟩
/-- A row's block lies at the base or behind it. -/
theorem OwnB.ownGe {w : World} {base : Nat} {v : Value} {l : List UInt8} (h : OwnB w base v l) : ∀ r, v.ownBlock = some r → base ≤ r := by
  intro r hr
  rcases h.form with ⟨rfl, _⟩ | ⟨g, cap, rfl, hb, _⟩
  · cases hr
  · injection hr with hr
    subst hr
    exact hb
theorem grown_below {w w' : World} {B : Nat} {row : Option Nat} (hg : w.grownBy w' row) (hB : B ≤ w.heap.size) (hr : ∀ r, row = some r → B ≤ r) : Below B w w' :=
  ⟨hg.os, hg.tape, hg.output, hg.size, fun k hk => hg.block k (by omega) (fun e => by have := hr k e.symm; omega)⟩
/-- What a region's loads read, behind what turns nothing that was there. -/
theorem keepB1 {w1 W W' : World} {g i : Nat} {x : Value} (hB : Below w1.heap.size W W') (h : Below w1.heap.size w1 W ∧ W.cell? ⟨g, i, none⟩ = some x) (hg : g < w1.heap.size) : Below w1.heap.size w1 W' ∧ W'.cell? ⟨g, i, none⟩ = some x :=
  ⟨h.1.trans hB, (hB.cell (p := ⟨g, i, none⟩) hg).trans h.2⟩
theorem keepB2 {w1 W W' : World} {g i j : Nat} {x y : Value} (hB : Below w1.heap.size W W') (h : Below w1.heap.size w1 W ∧ W.cell? ⟨g, i, none⟩ = some x ∧ W.cell? ⟨g, j, none⟩ = some y) (hg : g < w1.heap.size) :
    Below w1.heap.size w1 W' ∧ W'.cell? ⟨g, i, none⟩ = some x ∧ W'.cell? ⟨g, j, none⟩ = some y :=
  ⟨h.1.trans hB, (hB.cell (p := ⟨g, i, none⟩) hg).trans h.2.1, (hB.cell (p := ⟨g, j, none⟩) hg).trans h.2.2⟩

section
variable {w : World} {ops : Array Oper} {o : Oper} {a : Act} {K : Act → World → Prop} {Q : Exit → Act → World → Prop} {E : Prop}
theorem oper_appB (s x : Operand) (ho : o.op = .call { callee := .builtin .append, args := #[s, x], argTypes := #[30, 30] })
    (base : Nat) (v : Value) (l : List UInt8) (hs : a.eval s = v) (hown : OwnB w base v l) (B : Nat) (A : Option Addr) (c : Nat) (l2 : List UInt8) (hx : a.eval x = .slice A l2.length c) (hin : InB w B A c l2)
    (hbytes : l.length + l2.length ≤ 140737488355328) (hbase : base ≤ w.heap.size)
    (h : ∀ v' w', OwnB w' base v' (l ++ l2) → w.grownBy w' v.ownBlock → (v'.ownBlock = v.ownBlock ∨ v'.ownBlock = some w.heap.size) → K (a.put o.dst v') w') : o.wp Try.prog a w K Q := by
  obtain ⟨v', w', hr, h2, h3, h4⟩ := run_appB o.type base v l hown B A c l2 hin hbytes hbase
  unfold Oper.wp execOp
  simp only [ho, resolve, invoke, builtin, Sem.run_bind, Sem.run_pure, Result.andThen_ok, List.map_toArray, List.map_cons, List.map_nil, hs, hx, hr]
  exact h v' w' h2 h3 h4
theorem step_appB (hgd : o.guard = none) (s x : Operand) (ho : o.op = .call { callee := .builtin .append, args := #[s, x], argTypes := #[30, 30] })
    (base : Nat) (v : Value) (l : List UInt8) (hs : a.eval s = v) (hown : OwnB w base v l) (B : Nat) (A : Option Addr) (c : Nat) (l2 : List UInt8) (hx : a.eval x = .slice A l2.length c) (hin : InB w B A c l2)
    (hbytes : l.length + l2.length ≤ 140737488355328) (hbase : base ≤ w.heap.size)
    (h : ∀ v' w', OwnB w' base v' (l ++ l2) → w.grownBy w' v.ownBlock → (v'.ownBlock = v.ownBlock ∨ v'.ownBlock = some w.heap.size) → K (a.put o.dst v') w') :
    if Region.wanted o (yielded ops a.tmps) = true then Oper.wp Try.prog o a w K Q else E := by
  have hw : Region.wanted o (yielded ops a.tmps) = true := by simp [Region.wanted, hgd]
  rw [if_pos hw]
  exact oper_appB s x ho base v l hs hown B A c l2 hx hin hbytes hbase h
theorem oper_appZ (s x : Operand) (ho : o.op = .call { callee := .builtin .append, args := #[s, x], argTypes := #[30, 3] })
    (base : Nat) (v : Value) (l : List UInt8) (hs : a.eval s = v) (hown : OwnB w base v l) (k : Nat) (hx : a.eval x = .int .i64 (k : Int)) (h0 : 0 < k) (hbytes : l.length + k ≤ 1000000000) (hbase : base ≤ w.heap.size)
    (h : ∀ v' w', OwnB w' base v' (l ++ List.replicate k 0) → w.grownBy w' v.ownBlock → (v'.ownBlock = v.ownBlock ∨ v'.ownBlock = some w.heap.size) → K (a.put o.dst v') w') : o.wp Try.prog a w K Q := by
  obtain ⟨v', w', hr, h2, h3, h4⟩ := run_appZ o.type base v l hown k h0 hbytes hbase
  unfold Oper.wp execOp
  simp only [ho, resolve, invoke, builtin, Sem.run_bind, Sem.run_pure, Result.andThen_ok, List.map_toArray, List.map_cons, List.map_nil, hs, hx, hr]
  exact h v' w' h2 h3 h4
theorem wp_appZ {rest : List Oper} (hgd : o.guard = none) (s x : Operand) (ho : o.op = .call { callee := .builtin .append, args := #[s, x], argTypes := #[30, 3] })
    (base : Nat) (v : Value) (l : List UInt8) (hs : a.eval s = v) (hown : OwnB w base v l) (k : Nat) (hx : a.eval x = .int .i64 (k : Int)) (h0 : 0 < k) (hbytes : l.length + k ≤ 1000000000) (hbase : base ≤ w.heap.size)
    (h : ∀ v' w', OwnB w' base v' (l ++ List.replicate k 0) → w.grownBy w' v.ownBlock → (v'.ownBlock = v.ownBlock ∨ v'.ownBlock = some w.heap.size) → wpList Try.prog ops Q rest (a.put o.dst v') w') : wpList Try.prog ops Q (o :: rest) a w :=
  wpList_plain hgd fun _ hK => oper_appZ s x ho base v l hs hown k hx h0 hbytes hbase fun v' w' h1 h2 h3 => hK _ _ (h v' w' h1 h2 h3)
theorem step_copyB (hgd : o.guard = none) (d s : Operand) (ho : o.op = .call { callee := .builtin .copy, args := #[d, s], argTypes := #[30, 30] })
    (g off : Nat) (l src : List UInt8) (A : Option Addr) (c B dLen dCap : Nat) (hd : a.eval d = .slice (some ⟨g, off, none⟩) dLen dCap) (hs : a.eval s = .slice A src.length c)
    {T : TypeId} (hb : BlkIs w g T (l.map b8).toArray) (hin : InB w B A c src) (hfit : off + dLen ≤ l.length)
    (h : K (a.put o.dst (.int .i64 ((min src.length dLen : Nat) : Int))) (w.setRow g ((spliceB l off dLen src).map b8).toArray)) :
    if Region.wanted o (yielded ops a.tmps) = true then Oper.wp Try.prog o a w K Q else E := by
  have hw : Region.wanted o (yielded ops a.tmps) = true := by simp [Region.wanted, hgd]
  rw [if_pos hw]
  exact oper_copyB d s ho g off l src A c B dLen dCap hd hs hb hin hfit h
end
end Go.Proofs.Ytlelckdcmlpmdaa
/- Structs and arrays that lie whole in a block: load, store, results. -/
namespace Go.Proofs.Ytlelckdcmlpmdaa
open Go Go.RowKit Lou

theorem BlkIs.range {w : World} {g : Nat} {t : TypeId} {cs : Array Value} (h : BlkIs w g t cs) : w.rangeAt g 0 cs.toList := fun j v hj => by
  rw [Nat.zero_add, h.cell]
  simpa using hj
/-- A type whose values lie in n cells of a block of their own. -/
structure RowTy (P : Program) (T : TypeId) (n : Nat) : Prop where
  desc : ∃ d, P.underlying T = some d ∧ d.isRow = true
  size : (P.info? T).map (·.size) = some n
theorem run_loadW {P : Program} {w : World} {g : Nat} {T t : TypeId} {cs : Array Value} (hT : RowTy P T cs.size) (hb : BlkIs w g t cs) : (loadVar T ⟨g, 0, none⟩).run P w = .ok (.agg cs) w := by
  obtain ⟨d, hu, hd⟩ := hT.desc
  have := run_loadVar_mid (P := P) w g 0 T cs.toList d hb.range hu hd (by simpa using hT.size)
  simpa using this
theorem run_storeW {P : Program} {w : World} {g : Nat} {T t : TypeId} {cs cs' : Array Value} (hT : RowTy P T cs.size) (hb : BlkIs w g t cs) (hs : cs'.size = cs.size) (h1 : ∀ v ∈ cs'.toList, v.oneCell' = true) : (storeVar T ⟨g, 0, none⟩ (.agg cs')).run P w = .ok () (w.setRow g cs') := by
  have h := run_storeCells_at (P := P) g 0 t cs'.toList 0 cs w hb (by simp; omega) h1
  have e : (cs.toList.take (0 + 0) ++ cs'.toList ++ cs.toList.drop (0 + 0 + cs'.toList.length)).toArray = cs' := by
    simp [List.drop_of_length_le, hs]
  rw [e] at h
  have hi := hT.size
  cases hq : P.info? T with
  | none => simp [hq] at hi
  | some i =>
    have hs2 : cs'.size = i.size := by simp [hq] at hi; omega
    simp [storeVar, sizeOf, typeInfo, hq, Value.cells, hs2, h]
section
variable {P : Program} {w : World} {ops : Array Oper} {rest : List Oper} {o : Oper} {a : Act} {Q : Exit → Act → World → Prop}
theorem oper_loadW {K : Act → World → Prop} (T : TypeId) (x : Operand) (ho : o.op = .load T x) (g : Nat) {t : TypeId} {cs : Array Value} (hx : a.eval x = .pointer (some ⟨g, 0, none⟩)) {n : Nat} (hT : RowTy P T n) (hb : BlkIs w g t cs) (hn : cs.size = n)
    (h : K (a.put o.dst (.agg cs)) w) : o.wp P a w K Q := by
  unfold Oper.wp execOp
  simp only [ho, hx, Instr.loadAt, Instr.sureAddr, Sem.run_bind, Sem.run_pure, Result.andThen_ok, run_loadW (hn ▸ hT) hb]
  exact h
theorem oper_storeW {K : Act → World → Prop} (T : TypeId) (x y : Operand) (ho : o.op = .store T x y) (g : Nat) {t : TypeId} {cs cs' : Array Value} (hx : a.eval x = .pointer (some ⟨g, 0, none⟩)) (hy : a.eval y = .agg cs') {n : Nat} (hT : RowTy P T n) (hb : BlkIs w g t cs) (hn : cs.size = n)
    (hs : cs'.size = cs.size) (h1 : ∀ v ∈ cs'.toList, v.oneCell' = true) (h : K (a.put o.dst undef) (w.setRow g cs')) : o.wp P a w K Q := by
  unfold Oper.wp execOp
  simp only [ho, hx, hy, Instr.storeAt, Instr.sureAddr, Sem.run_bind, Sem.run_pure, Result.andThen_ok, run_storeW (hn ▸ hT) hb hs h1]
  exact h
theorem wp_loadW (hgd : o.guard = none) (T : TypeId) (x : Operand) (ho : o.op = .load T x) (g : Nat) {t : TypeId} {cs : Array Value} (hx : a.eval x = .pointer (some ⟨g, 0, none⟩)) {n : Nat} (hT : RowTy P T n) (hb : BlkIs w g t cs) (hn : cs.size = n)
    (h : wpList P ops Q rest (a.put o.dst (.agg cs)) w) : wpList P ops Q (o :: rest) a w :=
  wpList_plain hgd fun _ hK => oper_loadW T x ho g hx hT hb hn (hK _ _ h)
theorem wp_storeW (hgd : o.guard = none) (T : TypeId) (x y : Operand) (ho : o.op = .store T x y) (g : Nat) {t : TypeId} {cs cs' : Array Value} (hx : a.eval x = .pointer (some ⟨g, 0, none⟩)) (hy : a.eval y = .agg cs') {n : Nat} (hT : RowTy P T n) (hb : BlkIs w g t cs) (hn : cs.size = n)
    (hs : cs'.size = cs.size) (h1 : ∀ v ∈ cs'.toList, v.oneCell' = true) (h : wpList P ops Q rest (a.put o.dst undef) (w.setRow g cs')) : wpList P ops Q (o :: rest) a w :=
  wpList_plain hgd fun _ hK => oper_storeW T x y ho g hx hy hT hb hn hs h1 (hK _ _ h)
end
theorem results_cellW {fn : Func} {P : Program} {a : Act} {w : World} {g : Nat} {T t : TypeId} {cs : Array Value} (k : Tmp) (h : fn.results = #[.cell k T]) (hk : a.eval (.tmp k) = .pointer (some ⟨g, 0, none⟩)) {n : Nat} (hT : RowTy P T n) (hb : BlkIs w g t cs) (hn : cs.size = n) :
    (results fn a.tmps).run P w = .ok (.agg cs) w := by
  have e : a.tmps.getD k undef = .pointer (some ⟨g, 0, none⟩) := hk
  unfold results
  simp only [h]
  simp [← Array.getD_eq_getD_getElem?, e, asAddr, run_loadW (hn ▸ hT) hb, Result.andThen]
theorem results_cellW_tmp {fn : Func} {P : Program} {a : Act} {w : World} {g : Nat} {T t : TypeId} {cs : Array Value} {v : Value} (k m : Tmp) (h : fn.results = #[.cell k T, .tmp m]) (hk : a.eval (.tmp k) = .pointer (some ⟨g, 0, none⟩)) (hm : a.eval (.tmp m) = v) {n : Nat} (hT : RowTy P T n) (hb : BlkIs w g t cs) (hn : cs.size = n) :
    (results fn a.tmps).run P w = .ok (.tuple #[.agg cs, v]) w := by
  have e : a.tmps.getD k undef = .pointer (some ⟨g, 0, none⟩) := hk
  have e2 : a.tmps.getD m undef = v := hm
  unfold results
  simp only [h]
  simp [← Array.getD_eq_getD_getElem?, e, e2, asAddr, run_loadW (hn ▸ hT) hb, Result.andThen]
theorem b8_one (l : List UInt8) : ∀ v ∈ (l.map b8).toArray.toList, v.oneCell' = true := by
  intro v hv
  simp at hv
  obtain ⟨x, _, rfl⟩ := hv
  rfl
/-- The types of frames' sectors and heads. -/
theorem rowSector : RowTy Try.prog 236 64 := ⟨⟨_, Try.underlying236, rfl⟩, by kernel_rfl⟩
theorem rowHead : RowTy Try.prog 109 4 := ⟨⟨_, Try.underlying109, rfl⟩, by kernel_rfl⟩
end Go.Proofs.Ytlelckdcmlpmdaa
/- Rows of elements of whatever type: that came in, that a call owns; append, Clone, an element read. -/
namespace Go.Proofs.Ytlelckdcmlpmdaa
open Go Go.RowKit Lou

/-- n elements of sz cells each lie in a row below B: '.slice A n c'; cs are their cells. -/
structure InG (w : World) (B sz : Nat) (A : Option Addr) (n c : Nat) (cs : List Value) : Prop where
  le : n ≤ c
  max : c ≤ 9223372036854775807
  nil : A = none → c = 0
  len : cs.length = n * sz
  one : ∀ v ∈ cs, v.oneCell' = true
  lies : 0 < n → ∃ g o, A = some ⟨g, o, none⟩ ∧ g < B ∧ w.rangeAt g o cs
theorem InG.keep {w w' : World} {B sz : Nat} {A : Option Addr} {n c : Nat} {cs : List Value} (h : InG w B sz A n c cs) (hk : ∀ p : Addr, p.block < B → w'.cell? p = w.cell? p) : InG w' B sz A n c cs :=
  ⟨h.le, h.max, h.nil, h.len, h.one, fun hl => by
    obtain ⟨g, o, hA, hg, hc⟩ := h.lies hl
    exact ⟨g, o, hA, hg, fun j v hj => (hk _ hg).trans (hc j v hj)⟩⟩
theorem InG.below {w w' : World} {B sz : Nat} {A : Option Addr} {n c : Nat} {cs : List Value} (h : InG w B sz A n c cs) (hb : Below B w w') : InG w' B sz A n c cs := h.keep fun _ hp => hb.cell hp
theorem InG.more {w : World} {B B' sz : Nat} {A : Option Addr} {n c : Nat} {cs : List Value} (h : InG w B sz A n c cs) (hB : B ≤ B') : InG w B' sz A n c cs :=
  ⟨h.le, h.max, h.nil, h.len, h.one, fun hl => by
    obtain ⟨g, o, hA, hg, hc⟩ := h.lies hl
    exact ⟨g, o, hA, by omega, hc⟩⟩
theorem InG.grow {w w' : World} {sz : Nat} {A : Option Addr} {n c : Nat} {cs : List Value} (h : InG w w.heap.size sz A n c cs) (hb : Below w.heap.size w w') : InG w' w'.heap.size sz A n c cs := (h.below hb).more hb.size
theorem InG.mt (w : World) (B sz : Nat) : InG w B sz none 0 0 [] := ⟨Nat.le_refl _, by omega, fun _ => rfl, by simp, (fun v h => by cases h), fun h => by omega⟩
/-- The same row, cut to its first k. -/
theorem InG.take {w : World} {B sz : Nat} {A : Option Addr} {n c : Nat} {cs : List Value} (h : InG w B sz A n c cs) (k c' : Nat) (hk : k ≤ n) (hc : k ≤ c') (hc' : c' ≤ c) : InG w B sz A k c' (cs.take (k * sz)) :=
  ⟨hc, Nat.le_trans hc' h.max, fun e => by have := h.nil e; omega, by rw [List.length_take, h.len]; exact Nat.min_eq_left (Nat.mul_le_mul_right _ hk), fun v hv => h.one v (List.mem_of_mem_take hv), fun h0 => by
    obtain ⟨g, o, e, hg, hr⟩ := h.lies (by omega)
    refine ⟨g, o, e, hg, fun j v hj => hr j v ?_⟩
    rw [List.getElem?_take] at hj
    split at hj
    · exact hj
    · cases hj⟩
/-- An element's cells. -/
theorem InG.elem {w : World} {B sz g o : Nat} {n c : Nat} {cs : List Value} (h : InG w B sz (some ⟨g, o, none⟩) n c cs) (j : Nat) (hj : j < n) : w.rangeAt g (o + j * sz) ((cs.drop (j * sz)).take sz) := by
  obtain ⟨g', o', e, hg, hr⟩ := h.lies (by omega)
  injection e with e
  injection e with e1 e2
  subst e1 e2
  intro i v hi
  rw [List.getElem?_take] at hi
  split at hi
  · rw [List.getElem?_drop] at hi
    rw [Nat.add_assoc]
    exact hr _ v hi
  · cases hi

/-- A row that a call owns, as one that came in. -/
theorem ownG_in {w : World} {base : Nat} {T : TypeId} {sz : Nat} {v : Value} {n : Nat} {cs : List Value} (h : w.ownsRow base T sz v n cs) (h1 : ∀ v ∈ cs, v.oneCell' = true) : ∃ A c, v = .slice A n c ∧ InG w w.heap.size sz A n c cs := by
  rcases h.2 with ⟨e1, e2⟩ | ⟨g, cap, cur, hv, hb, hg, hle, hm, hs, ht⟩
  · subst e2
    exact ⟨none, 0, e1, Nat.le_refl _, by omega, fun _ => rfl, h.1, h1, fun h => by omega⟩
  · refine ⟨_, cap, hv, hle, by unfold maxLen at hm; omega, (fun e => by cases e), h.1, h1, fun _ => ⟨g, 0, rfl, (Array.getElem?_eq_some_iff.1 hg).1, fun j u hj => ?_⟩⟩
    rw [Nat.zero_add, cell_of_row w g j cur _ (0, 0) hg]
    rw [← ht, List.getElem?_take] at hj
    split at hj
    · simpa using hj
    · cases hj
theorem ownG_ge {w : World} {base : Nat} {T : TypeId} {sz : Nat} {v : Value} {n : Nat} {cs : List Value} (h : w.ownsRow base T sz v n cs) : ∀ r, v.ownBlock = some r → base ≤ r := by
  intro r hr
  rcases h.2 with ⟨rfl, _⟩ | ⟨g, cap, cur, rfl, hb, _⟩
  · cases hr
  · injection hr with hr
    subst hr
    exact hb
theorem ownG_lt {w : World} {base : Nat} {T : TypeId} {sz : Nat} {v : Value} {n : Nat} {cs : List Value} (h : w.ownsRow base T sz v n cs) : ∀ r, v.ownBlock = some r → r < w.heap.size := by
  intro r hr
  rcases h.2 with ⟨rfl, _⟩ | ⟨g, cap, cur, rfl, hb, hg, _⟩
  · cases hr
  · injection hr with hr
    subst hr
    exact (Array.getElem?_eq_some_iff.1 hg).1
theorem ownG_later {w w' : World} {base : Nat} {T : TypeId} {sz : Nat} {v : Value} {n : Nat} {cs : List Value} (h : w.ownsRow base T sz v n cs) (hB : ∀ r, v.ownBlock = some r → w'.heap[r]? = w.heap[r]?) : w'.ownsRow base T sz v n cs := by
  refine ⟨h.1, ?_⟩
  rcases h.2 with h | ⟨g, cap, cur, h1, h2, h3, h4⟩
  · exact .inl h
  · exact .inr ⟨g, cap, cur, h1, h2, (hB g (by rw [h1]; rfl)).trans h3, h4⟩
theorem ownG_grow {w w' : World} {base : Nat} {T : TypeId} {sz : Nat} {v : Value} {n : Nat} {cs : List Value} (h : w.ownsRow base T sz v n cs) (hB : Below w.heap.size w w') : w'.ownsRow base T sz v n cs :=
  ownG_later h fun r hr => hB.block r (ownG_lt h r hr)
theorem ownG_base {w : World} {b b' : Nat} {T : TypeId} {sz : Nat} {v : Value} {n : Nat} {cs : List Value} (h : w.ownsRow b T sz v n cs) (hb : b' ≤ b) : w.ownsRow b' T sz v n cs := by
  refine ⟨h.1, ?_⟩
  rcases h.2 with h | ⟨g, cap, cur, h1, h2, h3⟩
  · exact .inl h
  · exact .inr ⟨g, cap, cur, h1, by omega, h3⟩
/-- What is known of an element's type. -/
structure ElT (S T : TypeId) (sz by_ : Nat) (z : Value) : Prop where
  und : Try.prog.underlying S = some (.slice T)
  inf : (Try.prog.info? T).map (fun i => (i.zero, i.size, i.bytes)) = some (some z, sz, by_)
  zs : z.cells.size = sz
  pos : 0 < sz
section
variable {w : World} {ops : Array Oper} {rest : List Oper} {o : Oper} {a : Act} {Q : Exit → Act → World → Prop}
theorem wp_appG (hg : o.guard = none) {S T : TypeId} {sz by_ : Nat} {z : Value} (hT : ElT S T sz by_ z) (s x : Operand) (ho : o.op = .call { callee := .builtin .append, args := #[s, x], argTypes := #[S, S] })
    (base : Nat) (v : Value) (n : Nat) (cs : List Value) (hs : a.eval s = v) (hown : w.ownsRow base T sz v n cs) (B : Nat) (A : Option Addr) (m c : Nat) (cs2 : List Value) (hx : a.eval x = .slice A m c) (hin : InG w B sz A m c cs2)
    (hm : n + m ≤ maxLen) (hbytes : (n + m) * by_ ≤ 140737488355328) (hbase : base ≤ w.heap.size)
    (h : ∀ v' w', w'.ownsRow base T sz v' (n + m) (cs ++ cs2) → w.grownBy w' v.ownBlock → wpList Try.prog ops Q rest (a.put o.dst v') w') : wpList Try.prog ops Q (o :: rest) a w := by
  obtain ⟨i0, hi, hz0, hz1, hz2⟩ := info_parts hT.inf
  have hle := hin.le
  rcases A with _ | ad
  · have hc0 := hin.nil rfl
    obtain rfl : m = 0 := by omega
    obtain rfl : cs2 = [] := List.eq_nil_of_length_eq_zero (by rw [hin.len]; omega)
    subst hc0
    refine wpList_append_own_none (w := w) hg s x _ ho base _ i0 sz hT.und hi v n cs hs hown hx ?_
    exact h v w (by rw [List.append_nil]; exact hown) (World.grownBy.refl _ _)
  · have hnews : ∀ j u, cs2[j]? = some u → w.cell? (ad.add j) = some u := by
      intro j u hu
      have hm0 : 0 < m := by
        rcases Nat.eq_zero_or_pos m with h0 | h0
        · subst h0
          have := hin.len
          obtain rfl : cs2 = [] := List.eq_nil_of_length_eq_zero (by omega)
          simp at hu
        · exact h0
      obtain ⟨g, o', hA, _, hr⟩ := hin.lies hm0
      obtain rfl : ad = ⟨g, o', none⟩ := by simpa using hA
      rw [Addr.add_mid]
      exact hr j u hu
    refine wpList_append_own w hg s x _ ho base _ i0 z sz by_ hT.und hi hz0 hz1 hz2 hT.zs hT.pos v n cs hs hown ad m c cs2 hx hin.len hnews hin.one hm hbytes hbase ?_
    intro v' w' hown' hgrow _
    exact h v' w' hown' hgrow
/-- An element, loaded. -/
theorem x_loadM {P : Program} {ρ : Operand → Value} {T : TypeId} {k g off : Nat} {cs : List Value} {x : Operand} (hT : RowTy P T k) (hr : w.rangeAt g off cs) (hk : cs.length = k) (ho : o.op = .load T x) (hx : ρ x = .pointer (some ⟨g, off, none⟩)) : (execOp ρ o).run P w = .ok (.value (.agg cs.toArray)) w := by
  obtain ⟨d, hu, hd⟩ := hT.desc
  have := run_loadVar_mid (P := P) w g off T cs d hr hu hd (by rw [hT.size, hk])
  simp only [execOp, ho, hx, Instr.loadAt, Instr.sureAddr, Sem.run_bind, Sem.run_pure, Result.andThen_ok, this]
end
theorem BlkIs.rangeOf {w : World} {g : Nat} {t : TypeId} {cs : Array Value} (h : BlkIs w g t cs) (k : Nat) {n : Nat} : w.rangeAt g k ((cs.toList.drop k).take n) := fun j v hj => by
  rw [List.getElem?_take] at hj
  split at hj
  · rw [List.getElem?_drop] at hj
    rw [h.cell]
    simpa using hj
  · cases hj

theorem run_appG {w : World} (ty : TypeId) {S T : TypeId} {sz by_ : Nat} {z : Value} (hT : ElT S T sz by_ z) (base : Nat) (v : Value) (n : Nat) (cs : List Value) (hown : w.ownsRow base T sz v n cs) (B : Nat) (A : Option Addr) (m c : Nat) (cs2 : List Value) (hin : InG w B sz A m c cs2)
    (hm : n + m ≤ maxLen) (hbytes : (n + m) * by_ ≤ 140737488355328) (hbase : base ≤ w.heap.size) :
    ∃ v' w', (Builtin.append_ #[S, S] ty #[v, .slice A m c]).run Try.prog w = .ok v' w' ∧ w'.ownsRow base T sz v' (n + m) (cs ++ cs2) ∧ w.grownBy w' v.ownBlock := by
  obtain ⟨i0, hi, hz0, hz1, hz2⟩ := info_parts hT.inf
  have hle := hin.le
  rcases A with _ | ad
  · have hc0 := hin.nil rfl
    obtain rfl : m = 0 := by omega
    obtain rfl : cs2 = [] := List.eq_nil_of_length_eq_zero (by rw [hin.len]; omega)
    subst hc0
    have hr := run_append_owned_none (P := Try.prog) w base S ty T i0 sz hT.und hi v n cs hown
    exact ⟨v, w, hr, by rw [List.append_nil]; exact hown, World.grownBy.refl _ _⟩
  · have hnews : ∀ j u, cs2[j]? = some u → w.cell? (ad.add j) = some u := by
      intro j u hu
      have hm0 : 0 < m := by
        rcases Nat.eq_zero_or_pos m with h0 | h0
        · subst h0
          have := hin.len
          obtain rfl : cs2 = [] := List.eq_nil_of_length_eq_zero (by omega)
          simp at hu
        · exact h0
      obtain ⟨g, o', hA, _, hr⟩ := hin.lies hm0
      obtain rfl : ad = ⟨g, o', none⟩ := by simpa using hA
      rw [Addr.add_mid]
      exact hr j u hu
    obtain ⟨v', w', hr, h2, h3, _, _⟩ := run_append_own_at (P := Try.prog) w base S ty T i0 z sz by_ hT.und hi hz0 hz1 hz2 hT.zs hT.pos v n cs hown ad m c cs2 hin.len hnews hin.one hm hbytes hbase
    exact ⟨v', w', hr, h2, h3⟩
section
variable {w : World} {ops : Array Oper} {o : Oper} {a : Act} {Q : Exit → Act → World → Prop} {K : Act → World → Prop} {E : Prop}
theorem step_appG (hgd : o.guard = none) {S T : TypeId} {sz by_ : Nat} {z : Value} (hT : ElT S T sz by_ z) (s x : Operand) (ho : o.op = .call { callee := .builtin .append, args := #[s, x], argTypes := #[S, S] })
    (base : Nat) (v : Value) (n : Nat) (cs : List Value) (hs : a.eval s = v) (hown : w.ownsRow base T sz v n cs) (B : Nat) (A : Option Addr) (m c : Nat) (cs2 : List Value) (hx : a.eval x = .slice A m c) (hin : InG w B sz A m c cs2)
    (hm : n + m ≤ maxLen) (hbytes : (n + m) * by_ ≤ 140737488355328) (hbase : base ≤ w.heap.size)
    (h : ∀ v' w', w'.ownsRow base T sz v' (n + m) (cs ++ cs2) → w.grownBy w' v.ownBlock → K (a.put o.dst v') w') : if Region.wanted o (yielded ops a.tmps) = true then Oper.wp Try.prog o a w K Q else E := by
  have hw : Region.wanted o (yielded ops a.tmps) = true := by simp [Region.wanted, hgd]
  rw [if_pos hw]
  obtain ⟨v', w', hr, h2, h3⟩ := run_appG (w := w) o.type hT base v n cs hown B A m c cs2 hin hm hbytes hbase
  unfold Oper.wp execOp
  simp only [ho, resolve, invoke, builtin, Sem.run_bind, Sem.run_pure, Result.andThen_ok, List.map_toArray, List.map_cons, List.map_nil, hs, hx, hr]
  exact h v' w' h2 h3
end
end Go.Proofs.Ytlelckdcmlpmdaa
/- node: cells and nodes that came in. -/
namespace Go.Proofs.Ytlelckdcmlpmdaa
open Go Go.RowKit Lou

theorem wrapN (n : Int) (h0 : -9223372036854775808 ≤ n) (h1 : n < 9223372036854775808) : IntKind.i64.wrap n = n := by
  simp [IntKind.wrap, IntKind.bits, IntKind.signed]
  split <;> omega
/-- A cell; a node. -/
structure Cel where
  key : ByteArray
  val : ByteArray
  page : Int
  size : Int
structure Nod where
  leaf : Bool
  cells : List Cel
  keys : List ByteArray
  kids : List Int
def celC (c : Cel) : List Value := [.string c.key, .string c.val, .int .i64 c.page, .int .i64 c.size]
def clC (cs : List Cel) : List Value := (cs.map celC).flatten
def skC (ks : List ByteArray) : List Value := ks.map Value.string
def ikC (ks : List Int) : List Value := ks.map (Value.int .i64)
theorem clC_length : ∀ cs : List Cel, (clC cs).length = cs.length * 4
  | [] => rfl
  | c :: cs => by
    have e : clC (c :: cs) = celC c ++ clC cs := rfl
    rw [e, List.length_append, clC_length cs, List.length_cons]
    show 4 + _ = _
    omega
theorem clC_elem : ∀ (cs : List Cel) (j : Nat) (h : j < cs.length), ((clC cs).drop (j * 4)).take 4 = celC cs[j]
  | c :: cs, 0, _ => by
    have e : clC (c :: cs) = celC c ++ clC cs := rfl
    rw [e]
    rfl
  | c :: cs, j + 1, h => by
    have e : clC (c :: cs) = celC c ++ clC cs := rfl
    rw [e, show (j + 1) * 4 = 4 + j * 4 from by omega, ← List.drop_drop]
    have e2 : (celC c ++ clC cs).drop 4 = clC cs := rfl
    rw [e2, clC_elem cs j (by simpa using h)]
    rfl
theorem clC_one (cs : List Cel) : ∀ v ∈ clC cs, v.oneCell' = true := by
  intro v hv
  obtain ⟨l, hl, hv⟩ := List.mem_flatten.1 hv
  obtain ⟨c, _, rfl⟩ := List.mem_map.1 hl
  simp [celC] at hv
  rcases hv with rfl | rfl | rfl | rfl <;> rfl
theorem skC_one (ks : List ByteArray) : ∀ v ∈ skC ks, v.oneCell' = true := by
  intro v hv
  obtain ⟨k, _, rfl⟩ := List.mem_map.1 hv
  rfl
theorem ikC_one (ks : List Int) : ∀ v ∈ ikC ks, v.oneCell' = true := by
  intro v hv
  obtain ⟨k, _, rfl⟩ := List.mem_map.1 hv
  rfl
theorem celC_one (c : Cel) : ∀ v ∈ celC c, v.oneCell' = true := by
  intro v hv
  simp [celC] at hv
  rcases hv with rfl | rfl | rfl | rfl <;> rfl
theorem rowCel : RowTy Try.prog 205 4 := ⟨⟨_, Try.underlying205, rfl⟩, by kernel_rfl⟩
theorem rowNod : RowTy Try.prog 76 4 := ⟨⟨_, Try.underlying76, rfl⟩, by kernel_rfl⟩
theorem elStr : ElT 73 9 1 16 (.string ByteArray.empty) := ⟨Try.underlying73, by kernel_rfl, by kernel_rfl, by decide⟩
/-- The cells of a node's value, as they lie in a box. -/
def nodC (x : Nod) (Ac : Option Addr) (cc : Nat) (Ak : Option Addr) (ck : Nat) (Ai : Option Addr) (ci : Nat) : Array Value := #[.bool x.leaf, .slice Ac x.cells.length cc, .slice Ak x.keys.length ck, .slice Ai x.kids.length ci]
/-- A node whose rows lie below B. -/
structure NIs (w : World) (B : Nat) (x : Nod) (Ac : Option Addr) (cc : Nat) (Ak : Option Addr) (ck : Nat) (Ai : Option Addr) (ci : Nat) : Prop where
  c : InG w B 4 Ac x.cells.length cc (clC x.cells)
  k : InG w B 1 Ak x.keys.length ck (skC x.keys)
  i : InG w B 1 Ai x.kids.length ci (ikC x.kids)
theorem NIs.grow {w w' : World} {x : Nod} {Ac Ak Ai : Option Addr} {cc ck ci : Nat} (h : NIs w w.heap.size x Ac cc Ak ck Ai ci) (hb : Below w.heap.size w w') : NIs w' w'.heap.size x Ac cc Ak ck Ai ci := ⟨h.c.grow hb, h.k.grow hb, h.i.grow hb⟩
/-- A node's keys; of a leaf its cells'. -/
def nkeys (x : Nod) : List ByteArray := if x.leaf then x.cells.map Cel.key else x.keys
/-- A cell of a row of cells. -/
theorem cel_at {w : World} {B g o n c : Nat} {cs : List Cel} (h : InG w B 4 (some ⟨g, o, none⟩) n c (clC cs)) (hn : n = cs.length) (j : Nat) (hj : j < cs.length) : w.rangeAt g (o + j * 4) (celC cs[j]) := by
  have := h.elem j (by omega)
  rw [clC_elem cs j hj] at this
  exact this
theorem str_at {w : World} {B g o n c : Nat} {ks : List ByteArray} (h : InG w B 1 (some ⟨g, o, none⟩) n c (skC ks)) (hn : n = ks.length) (j : Nat) (hj : j < ks.length) : w.cell? ⟨g, o + j, none⟩ = some (.string ks[j]) := by
  obtain ⟨g', o', e, _, hr⟩ := h.lies (by omega)
  injection e with e
  injection e with e1 e2
  subst e1 e2
  exact hr j _ (by simp [skC, hj])
end Go.Proofs.Ytlelckdcmlpmdaa
/- loupelaw12: few. -/
namespace Go.Proofs.Ytlelckdcmlpmdaa
open Go Go.RowKit Lou

/-- At most 60 cells, keys and kids, texts of 200 bytes. -/
structure FewP (x : Nod) : Prop where
  c : ∀ j, (h : j < x.cells.length) → x.cells[j].key.size ≤ 200 ∧ x.cells[j].val.size ≤ 200
  k : ∀ j, (h : j < x.keys.length) → x.keys[j].size ≤ 200
  cl : x.cells.length ≤ 60
  kl : x.keys.length ≤ 60
  il : x.kids.length ≤ 61
/-- What few answers. -/
def FewOut (w : World) (x : Nod) (e : Ending) (w' : World) : Prop := ∃ b, e = .returned (.bool b) ∧ Below w.heap.size w w' ∧ (b = true → FewP x)
theorem cel0 {w : World} {g o : Nat} {c : Cel} (h : w.rangeAt g o (celC c)) : w.cell? ⟨g, o, none⟩ = some (.string c.key) := by simpa using h 0 _ rfl
theorem cel1 {w : World} {g o : Nat} {c : Cel} (h : w.rangeAt g o (celC c)) : w.cell? ⟨g, o + 1, none⟩ = some (.string c.val) := h 1 _ rfl
theorem cel2 {w : World} {g o : Nat} {c : Cel} (h : w.rangeAt g o (celC c)) : w.cell? ⟨g, o + 2, none⟩ = some (.int .i64 c.page) := h 2 _ rfl
theorem cel3 {w : World} {g o : Nat} {c : Cel} (h : w.rangeAt g o (celC c)) : w.cell? ⟨g, o + 3, none⟩ = some (.int .i64 c.size) := h 3 _ rfl
set_option maxRecDepth 100000 in
set_option maxHeartbeats 2000000 in
theorem few_gives (w : World) (x : Nod) (Ac : Option Addr) (cc : Nat) (Ak : Option Addr) (ck : Nat) (Ai : Option Addr) (ci : Nat) (h : NIs w w.heap.size x Ac cc Ak ck Ai ci) :
    Calls Try.prog 46 #[.agg (nodC x Ac cc Ak ck Ai ci)] w (FewOut w x) := by
  obtain ⟨hc, hk, hi⟩ := h
  have lc := hc.le
  have lk := hk.le
  have li := hi.le
  have mc := hc.max
  have mk := hk.max
  have mi := hi.max
  have b0 := BlkIs.new w 76 (nodC x Ac cc Ak ck Ai ci)
  have hB : Below w.heap.size w (w.alloc (.cells (nodC x Ac cc Ak ck Ai ci) 76)) := (Below.refl _ w).alloc (Nat.le_refl _) _
  unfold nodC at b0 hB ⊢
  go_enter Try.func46, Try.ntmps46
  go_wp2
  generalize w.alloc (.cells #[.bool x.leaf, .slice Ac x.cells.length cc, .slice Ak x.keys.length ck, .slice Ai x.kids.length ci] 76) = W at *
  have c1 : W.cell? ⟨w.heap.size, 1, none⟩ = some (.slice Ac x.cells.length cc) := by rw [b0.cell]; rfl
  have c2 : W.cell? ⟨w.heap.size, 2, none⟩ = some (.slice Ak x.keys.length ck) := by rw [b0.cell]; rfl
  have c3 : W.cell? ⟨w.heap.size, 3, none⟩ = some (.slice Ai x.kids.length ci) := by rw [b0.cell]; rfl
  go_loopw [3] (fun i wr => ∃ (k : Nat), k ≤ x.cells.length ∧ i = .int .i64 k ∧ wr = W ∧ ∀ j, (h : j < x.cells.length) → j < k → x.cells[j].key.size ≤ 200 ∧ x.cells[j].val.size ≤ 200) (fun i _ => x.cells.length - (intOf i).toNat)
  case atStart => exact ⟨0, by omega, rfl, rfl, fun j _ h => by omega⟩
  case round =>
    obtain ⟨k, hkl, rfl, rfl, hall⟩ := hrel
    by_cases hlt : k < x.cells.length
    · obtain ⟨g, o, rfl, hg, _⟩ := hc.lies (by omega)
      have hr : wr.rangeAt g (o + k * 4) (celC x.cells[k]) := fun j v hj => (hB.cell (p := ⟨g, o + k * 4 + j, none⟩) hg).trans (cel_at hc rfl k hlt j v hj)
      have hnx : x.cells[k].key.size ≤ 200 → x.cells[k].val.size ≤ 200 → ∀ j, (h : j < x.cells.length) → j < k + 1 → x.cells[j].key.size ≤ 200 ∧ x.cells[j].val.size ≤ 200 := fun h1 h2 j hj hjk => by
        by_cases e : j = k
        · subst e; exact ⟨h1, h2⟩
        · exact hall j hj (by omega)
      have d0 := cel0 hr
      have d1 : wr.cell? ⟨g, o + k * 4 + 1, none⟩ = _ := cel1 hr
      generalize x.cells[k] = c at *
      have hwk : IntKind.i64.wrap ((k : Int) + 1) = (k : Int) + 1 := wrapN _ (by omega) (by omega)
      by_cases s1 : c.key.size ≤ 200
      · by_cases s2 : c.val.size ≤ 200
        · have s1' : ¬ (200 : Int) < (c.key.size : Int) := by omega
          have s2' : ¬ (200 : Int) < (c.val.size : Int) := by omega
          have hall2 := Lib.hid (hnx s1 s2)
          clear hnx hall
          go_wp2
          exact ⟨⟨k + 1, by omega, by simp, by simp, hall2.out⟩, by simp [intOf]; omega⟩
        · have s1' : ¬ (200 : Int) < (c.key.size : Int) := by omega
          have s2' : (200 : Int) < (c.val.size : Int) := by omega
          clear hnx hall
          go_wp2
          go_ret
          exact ⟨false, rfl, hB, fun h => by cases h⟩
      · have s1' : (200 : Int) < (c.key.size : Int) := by omega
        clear hnx hall
        go_wp2
        go_ret
        exact ⟨false, rfl, hB, fun h => by cases h⟩
    · obtain rfl : k = x.cells.length := by omega
      go_wp2
      go_loopw [4] (fun i w2 => ∃ (k : Nat), k ≤ x.keys.length ∧ i = .int .i64 k ∧ w2 = wr ∧ ∀ j, (h : j < x.keys.length) → j < k → x.keys[j].size ≤ 200) (fun i _ => x.keys.length - (intOf i).toNat)
      case atStart => exact ⟨0, by omega, rfl, rfl, fun j _ h => by omega⟩
      case round =>
        obtain ⟨k, hkl, rfl, rfl, hall3⟩ := hrel
        by_cases hlt : k < x.keys.length
        · obtain ⟨g, o, rfl, hg, _⟩ := hk.lies (by omega)
          have d0 : wr.cell? ⟨g, o + k, none⟩ = some (.string x.keys[k]) := (hB.cell (p := ⟨g, o + k, none⟩) hg).trans (str_at hk rfl k hlt)
          have hnx : x.keys[k].size ≤ 200 → ∀ j, (h : j < x.keys.length) → j < k + 1 → x.keys[j].size ≤ 200 := fun h1 j hj hjk => by
            by_cases e : j = k
            · subst e; exact h1
            · exact hall3 j hj (by omega)
          generalize x.keys[k] = c at *
          have hwk : IntKind.i64.wrap ((k : Int) + 1) = (k : Int) + 1 := wrapN _ (by omega) (by omega)
          by_cases s1 : c.size ≤ 200
          · have s1' : ¬ (200 : Int) < (c.size : Int) := by omega
            have hall4 := Lib.hid (hnx s1)
            clear hnx hall3
            go_wp2
            exact ⟨⟨k + 1, by omega, by simp, by simp, hall4.out⟩, by simp [intOf]; omega⟩
          · have s1' : (200 : Int) < (c.size : Int) := by omega
            clear hnx hall3
            go_wp2
            go_ret
            exact ⟨false, rfl, hB, fun h => by cases h⟩
        · obtain rfl : k = x.keys.length := by omega
          have HA := Lib.hid hall
          have HB := Lib.hid hall3
          clear hall hall3
          by_cases n1 : x.cells.length ≤ 60
          · by_cases n2 : x.keys.length ≤ 60
            · by_cases n3 : x.kids.length ≤ 61
              · have n1' : (x.cells.length : Int) ≤ 60 := by omega
                have n2' : (x.keys.length : Int) ≤ 60 := by omega
                have n3' : (x.kids.length : Int) ≤ 61 := by omega
                go_wp2
                go_ret
                exact ⟨true, by simp, hB, fun _ => ⟨fun j h => HA.out j h h, fun j h => HB.out j h h, n1, n2, n3⟩⟩
              · have n1' : (x.cells.length : Int) ≤ 60 := by omega
                have n2' : (x.keys.length : Int) ≤ 60 := by omega
                have n3' : ¬ (x.kids.length : Int) ≤ 61 := by omega
                go_wp2
                go_ret
                exact ⟨false, by simp, hB, fun h => by cases h⟩
            · have n1' : (x.cells.length : Int) ≤ 60 := by omega
              have n2' : ¬ (x.keys.length : Int) ≤ 60 := by omega
              go_wp2
              go_ret
              exact ⟨false, by simp, hB, fun h => by cases h⟩
          · have n1' : ¬ (x.cells.length : Int) ≤ 60 := by omega
            go_wp2
            go_ret
            exact ⟨false, by simp, hB, fun h => by cases h⟩
end Go.Proofs.Ytlelckdcmlpmdaa
/- louperef12: Keys. -/
namespace Go.Proofs.Ytlelckdcmlpmdaa
open Go Go.RowKit Lou

theorem row_one (w : World) (T : TypeId) (v : Value) (h1 : v.oneCell' = true) : InG (w.alloc (.cells #[v] T)) (w.alloc (.cells #[v] T)).heap.size 1 (some ⟨w.heap.size, 0, none⟩) 1 1 [v] := by
  have h := BlkIs.new w T #[v]
  refine ⟨Nat.le_refl _, by omega, (fun e => by cases e), rfl, (fun u hu => by obtain rfl : u = v := (by simpa using hu); exact h1), fun _ => ⟨w.heap.size, 0, rfl, h.lt, fun j u hj => ?_⟩⟩
  rw [h.cell, Nat.zero_add]
  simpa using hj
/-- A row of strings comes back. -/
def StrsOut (w : World) (l : List ByteArray) (e : Ending) (w' : World) : Prop := ∃ A c, e = .returned (.slice A l.length c) ∧ InG w' w'.heap.size 1 A l.length c (skC l) ∧ Below w.heap.size w w'
theorem keys_take (cells : List Cel) (k : Nat) (h : k < cells.length) : skC ((cells.take (k + 1)).map Cel.key) = skC ((cells.take k).map Cel.key) ++ [.string cells[k].key] := by
  rw [List.take_succ_eq_append_getElem h, List.map_append]
  unfold skC
  rw [List.map_append]
  rfl
set_option maxRecDepth 100000 in
set_option maxHeartbeats 2000000 in
theorem refKeys_gives (w : World) (x : Nod) (Ac : Option Addr) (cc : Nat) (Ak : Option Addr) (ck : Nat) (Ai : Option Addr) (ci : Nat) (h : NIs w w.heap.size x Ac cc Ak ck Ai ci) (hl : x.cells.length ≤ 1000000) :
    Calls Try.prog 50 #[.agg (nodC x Ac cc Ak ck Ai ci)] w (StrsOut w (nkeys x)) := by
  obtain ⟨hc, hk, hi⟩ := h
  have lc := hc.le
  have lk := hk.le
  have mc := hc.max
  have mk := hk.max
  have b0 := BlkIs.new w 76 (nodC x Ac cc Ak ck Ai ci)
  have hB : Below w.heap.size w (w.alloc (.cells (nodC x Ac cc Ak ck Ai ci) 76)) := (Below.refl _ w).alloc (Nat.le_refl _) _
  obtain ⟨leaf, cells, keys, kids⟩ := x
  unfold nodC at b0 hB ⊢
  simp only at lc lk hc hk b0 hB hl ⊢
  cases leaf with
  | false =>
    go_enter Try.func50, Try.ntmps50
    go_wp2
    go_ret
    exact ⟨Ak, ck, rfl, hk.grow hB, hB⟩
  | true =>
    go_enter Try.func50, Try.ntmps50
    go_wp2
    generalize w.alloc (.cells #[.bool true, .slice Ac cells.length cc, .slice Ak keys.length ck, .slice Ai kids.length ci] 76) = W at *
    go_loopw [3, 4] (fun v i wr => ∃ (k : Nat) (A : Option Addr) (c : Nat), k ≤ cells.length ∧ i = .int .i64 k ∧ v = .slice A k c ∧ wr.ownsRow W.heap.size 9 1 (.slice A k c) k (skC ((cells.take k).map Cel.key)) ∧ Below W.heap.size W wr) (fun _ i _ => cells.length - (intOf i).toNat)
    case atStart => exact ⟨0, none, 0, by omega, rfl, rfl, World.ownsRow_nil _ _ _ _, Below.refl _ _⟩
    case round =>
      obtain ⟨k, A, c, hkl, rfl, rfl, own, hBr⟩ := hrel
      have c1 : wr.cell? ⟨w.heap.size, 1, none⟩ = some (.slice Ac cells.length cc) := (hBr.cell (p := ⟨w.heap.size, 1, none⟩) b0.lt).trans (by rw [b0.cell]; rfl)
      by_cases hlt : k < cells.length
      · obtain ⟨g, o, rfl, hg, _⟩ := hc.lies (by omega)
        have hr : wr.rangeAt g (o + k * 4) (celC cells[k]) := fun j v hj => (hBr.cell (p := ⟨g, o + k * 4 + j, none⟩) (Nat.lt_of_lt_of_le hg hB.size)).trans ((hB.cell (p := ⟨g, o + k * 4 + j, none⟩) hg).trans (cel_at hc rfl k hlt j v hj))
        have hnx := keys_take cells k hlt
        have d0 := cel0 hr
        generalize cells[k] = cl at *
        have hwk : IntKind.i64.wrap ((k : Int) + 1) = (k : Int) + 1 := wrapN _ (by omega) (by omega)
        have HNX := Lib.hid hnx
        have hBa : Below wr.heap.size wr (wr.alloc (.cells #[.string cl.key] 9)) := (Below.refl _ wr).alloc (Nat.le_refl _) _
        have owna := ownG_grow own hBa
        have hba : W.heap.size ≤ (wr.alloc (.cells #[.string cl.key] 9)).heap.size := Nat.le_trans hBr.size hBa.size
        clear hnx own
        go_wp2_with (at_builtin; refine wp_appG rfl elStr (.tmp 17) (.tmp 24) rfl W.heap.size (.slice A k c) k (skC ((cells.take k).map Cel.key)) rfl owna _ _ 1 1 [.string cl.key] rfl (row_one wr 9 (.string cl.key) rfl) (by unfold maxLen; omega) (by omega) hba ?_; intro v5 w5 own5 hg5)
        rw [← HNX.out] at own5
        obtain ⟨A5, c5, rfl, _⟩ := ownG_in own5 (skC_one _)
        exact ⟨⟨k + 1, A5, c5, by omega, by simp, by simp, own5, (hBr.trans (hBa.mono hBr.size)).trans (grown_below hg5 hba (ownG_ge owna))⟩, by simp [intOf]; omega⟩
      · obtain rfl : k = cells.length := by omega
        go_wp2
        go_ret
        rw [List.take_length] at own
        obtain ⟨A', c', e, hin⟩ := ownG_in own (skC_one _)
        injection e with e1 e2 e3
        subst e1 e3
        have hln : (nkeys ⟨true, cells, keys, kids⟩).length = cells.length := by simp [nkeys]
        exact ⟨A, c, by rw [hln]; rfl, by rw [hln]; exact hin, hB.trans (hBr.mono hB.size)⟩
end Go.Proofs.Ytlelckdcmlpmdaa
/- A range over a function whose rounds may lean on what the iterator says of each value it hands over, in the world in which it does. -/
namespace Go.Proofs.Ytlelckdcmlpmdaa
open Go Go.RowKit Go.Shelf
attribute [local go_sem] Oper.semAt_some

/-- What abides whatever happens to blocks from B on. -/
def AbNew {β : Type} (B : Nat) (I : β → World → Prop) : Prop := ∀ s X Y row, I s X → X.grownBy Y row → (∀ r, row = some r → B ≤ r) → I s Y
theorem AbNew.more {β : Type} {B B' : Nat} {I : β → World → Prop} (h : AbNew B I) (hB : B ≤ B') : AbNew B' I := fun s X Y row hs hg hr => h s X Y row hs hg (fun r e => Nat.le_trans hB (hr r e))
theorem AbNew.alloc {β : Type} {B : Nat} {I : β → World → Prop} (h : AbNew B I) {s : β} {X : World} (o : Obj) (hs : I s X) : I s (X.alloc o) :=
  h s X _ none hs ⟨rfl, rfl, rfl, by simp, fun k hk _ => Below.heap_alloc X o k hk⟩ (fun r e => by cases e)
theorem AbNew.drew {β : Type} {B : Nat} {I : β → World → Prop} (h : AbNew B I) {s : β} {X : World} (hs : I s X) : I s X.drew := h s X _ none hs (grownBy_drew X none) (fun r e => by cases e)
theorem AbNew.putObj {β : Type} {B : Nat} {I : β → World → Prop} (h : AbNew B I) {s : β} {X : World} {l : Nat} (o : Obj) (hs : I s X) (hl : B ≤ l) : I s (X.putObj l o) := h s X _ (some l) hs (grownBy_putObj' X l o) (fun r e => by cases e; exact hl)
theorem AbNew.setCell {β : Type} {B : Nat} {I : β → World → Prop} (h : AbNew B I) {s : β} {X : World} {p : Addr} (v : Value) (hs : I s X) (hl : B ≤ p.block) : I s (X.setCell p v) :=
  h s X _ (some p.block) hs ⟨rfl, rfl, rfl, by simp, fun k _ hk => Below.heap_setCell X p v k (fun e => hk (by rw [e]))⟩ (fun r e => by cases e; exact hl)
theorem AbNew.grow {β : Type} {B : Nat} {I : β → World → Prop} (h : AbNew B I) {s : β} {X Y : World} (hs : I s X) (hg : Below X.heap.size X Y) : I s Y := h s X Y none hs ⟨hg.os, hg.tape, hg.output, hg.size, fun k hk _ => hg.block k hk⟩ (fun r e => by cases e)
/-- All blocks are kept, but those below B that may be written. -/
def KeepOut (Mu : Nat → Prop) (B : Nat) (W W' : World) : Prop := W.heap.size ≤ W'.heap.size ∧ ∀ k o, W.heap[k]? = some o → (k < B → ¬ Mu k) → W'.heap[k]? = some o
theorem KeepOut.refl (Mu : Nat → Prop) (B : Nat) (W : World) : KeepOut Mu B W W := ⟨Nat.le_refl _, fun _ _ h _ => h⟩
theorem KeepOut.trans {Mu : Nat → Prop} {B : Nat} {X Y Z : World} (h : KeepOut Mu B X Y) (k : KeepOut Mu B Y Z) : KeepOut Mu B X Z := ⟨Nat.le_trans h.1 k.1, fun i o hi hm => k.2 i o (h.2 i o hi hm) hm⟩
theorem KeepOut.any {Mu : Nat → Prop} {B : Nat} {X Y : World} (h : KeepOut Mu B X Y) : KeepOut (fun _ => True) B X Y := ⟨h.1, fun k o hk hm => h.2 k o hk (fun hb => absurd trivial (hm hb))⟩
theorem KeepOut.more {Mu : Nat → Prop} {B B' : Nat} {X Y : World} (h : KeepOut Mu B X Y) (hB : B ≤ B') : KeepOut Mu B' X Y := ⟨h.1, fun k o hk hm => h.2 k o hk (fun hb => hm (by omega))⟩
theorem KeepOut.grow (Mu : Nat → Prop) (B : Nat) {X Y : World} (h : Below X.heap.size X Y) : KeepOut Mu B X Y := ⟨h.size, fun k o hk _ => (h.block k (Array.getElem?_eq_some_iff.1 hk).1).trans hk⟩
theorem KeepOut.setCell {Mu : Nat → Prop} {B : Nat} (X : World) (p : Addr) (v : Value) (hp : p.block < B) (hm : Mu p.block) : KeepOut Mu B X (X.setCell p v) :=
  ⟨by simp, fun k o hk hn => (Below.heap_setCell X p v k (fun e => hn (by rw [e]; exact hp) (by rw [e]; exact hm))).trans hk⟩
theorem KeepOut.cell {Mu : Nat → Prop} {B : Nat} {X Y : World} (h : KeepOut Mu B X Y) {p : Addr} {v : Value} (hc : X.cell? p = some v) (hm : p.block < B → ¬ Mu p.block) : Y.cell? p = some v := by
  have hb : ∃ o, X.heap[p.block]? = some o := by
    cases ho : X.heap[p.block]? with
    | none => simp [World.cell?, ho] at hc
    | some o => exact ⟨o, rfl⟩
  obtain ⟨o, ho⟩ := hb
  rw [World.cell?_of_block ((h.2 _ o ho hm).trans ho.symm)]
  exact hc
theorem KeepOut.blk {Mu : Nat → Prop} {B : Nat} {X Y : World} (h : KeepOut Mu B X Y) {g : Nat} {t : TypeId} {cs : Array Value} (hb : BlkIs X g t cs) (hm : g < B → ¬ Mu g) : BlkIs Y g t cs := h.2 _ _ hb hm
theorem KeepOut.inB {Mu : Nat → Prop} {B n₀ : Nat} {X Y : World} (h : KeepOut Mu B X Y) {A : Option Addr} {c : Nat} {l : List UInt8} (hb : InB X n₀ A c l) (hm : ∀ g, g < n₀ → ¬ Mu g) : InB Y n₀ A c l :=
  ⟨hb.le, hb.max, hb.nil, fun hl => by
    obtain ⟨g, o, e, hg, hc⟩ := hb.lies hl
    exact ⟨g, o, e, hg, fun j hj => h.cell (hc j hj) (fun _ => hm g hg)⟩⟩
/-- What an iterator does: as the kit's SeqStopsK, but that a round is asked only at values of which Rd holds, and keeps all but what lay there at the start and may be written (Mu). -/
def SeqR {α : Type} (F : Fence) (n : Nat) (P : Program) (g : Nat) (lb : Array Value) (encs : α → Array Value) (Mu : Nat → Prop) (Rd : List α → α → World → Prop) (S Sp : List α → Prop) (w : World) : Prop :=
  ∀ (l : Nat) (J Jx : List α → World → Prop) (W : World), Below w.heap.size w W → AbNew W.heap.size J → AbNew W.heap.size Jx →
    (∀ pre x W1, J pre W1 → Rd pre x W1 → YieldAt F (n - 1) P l (encs x) W1 fun e W' =>
      (e = .returned (.bool true) ∧ J (pre ++ [x]) W' ∧ KeepOut Mu W.heap.size W1 W') ∨ (e = .returned (.bool false) ∧ Jx (pre ++ [x]) W' ∧ KeepOut (fun _ => True) W.heap.size W1 W')) →
    J [] W →
    CallsIn F n P g (#[.func (.yield l) #[] #[]] ++ lb) W fun e W' => (∃ v, e = .returned v) ∧ ((∃ xs, S xs ∧ J xs W') ∨ (∃ pre, Sp pre ∧ Jx pre W'))
/-- How the body of a round may be left. -/
def postR {α : Type} (Mu : Nat → Prop) (B : Nat) (I : List α → World → Prop) (Ix : Code → List α → World → Prop) (xs : List α) (W : World) : Exit → Act → World → Prop
  | .normal, _, W' => KeepOut Mu B W W' ∧ I xs W'
  | .ret, _, W' => KeepOut (fun _ => True) B W W' ∧ Ix .ret xs W'
  | .exit id, _, W' => KeepOut (fun _ => True) B W W' ∧ Ix (.exit id) xs W'
  | .goto t, _, W' => KeepOut (fun _ => True) B W W' ∧ Ix (.goto t) xs W'
  | .panic _, _, _ => False
  | .outgrown, _, _ => False

section
variable {F : Fence} {n : Nat} {P : Program} {w : World}
theorem wpIn_rangeFunc_R {α : Type} {g : Operand} {ps : Array Tmp} {assign body : Code} {Q : Exit → Act → World → Prop} {a : Act}
    (hro : F.round = none) (h1 : 1 ≤ n) {gf : Nat} {lb : Array Value} (hg : a.eval g = .func (.func gf) #[] lb) (hFg : F.fn gf) (eg : ∀ args w, (callFunc gf args).run P w = .ok (.enter gf args) w)
    {encs : α → Array Value} {Mu : Nat → Prop} {Rd : List α → α → World → Prop} {S Sp : List α → Prop} {w0 : World} (hseq : SeqR F (n - 1) P gf lb encs Mu Rd S Sp w0)
    (hb0 : Below w0.heap.size w0 w) (hps : ∀ x, (encs x).size = ps.size)
    (I : List α → World → Prop) (Ix : Code → List α → World → Prop) (hI : AbNew w.heap.size I) (hIx : ∀ c, AbNew w.heap.size (Ix c)) (hRd : ∀ pre x, OwnFrom w.heap.size (fun (_ : Unit) W => Rd pre x W)) (h0 : I [] w) (a₁ : α → Act)
    (hassign : ∀ (l : Nat) (x : α) (W : World) (K : Act → World → Prop), K (a₁ x) W →
      assign.wpIn (F.inRound l) (n - 1 - 1) P (Exit.then K (fun _ _ _ => False)) { tmps := (ps.zip (encs x)).foldl (fun t (p, v) => t.setIfInBounds p v) a.tmps, defers := [] } W)
    (hbody : ∀ (l : Nat) (pre : List α) (x : α) (W : World), I pre W → Rd pre x W → body.wpIn (F.inRound l) (n - 1 - 1) P (postR Mu w.heap.size I Ix (pre ++ [x]) W) (a₁ x) W)
    (hdone : ∀ (D : Nat) (xs : List α) (W : World), w.heap.size ≤ D → S xs → I xs W → W.heap[D]? = some (.deferred (some [])) → Q .normal { a with defers := { target := .collected D, args := #[] } :: a.defers } W)
    (hstop : ∀ (D : Nat) (c : Code) (pre : List α) (W : World), w.heap.size ≤ D → Sp pre → Ix c pre W → W.heap[D]? = some (.deferred (some [])) → c.wpIn F n P Q { a with defers := { target := .collected D, args := #[] } :: a.defers } W) :
    (Code.rangeFunc g ps assign body).wpIn F n P Q a w := by
  refine wpIn_rangeFunc fun fn hfn => ?_
  rw [hro]
  -- the loop's record, and the world that bears it and the block for deferred calls
  obtain ⟨rec, hrec⟩ : ∃ rec : LoopState → Option Code → Loop, rec = fun st pe => { state := st, pending := pe, fn, tmps := a.tmps, params := ps, assign, body, defers := w.heap.size } := ⟨_, rfl⟩
  obtain ⟨V, hV⟩ : ∃ V, (w.alloc (.deferred (some []))).alloc (.loop (rec .ready none)) = V := ⟨_, rfl⟩
  have vL : V.heap[w.heap.size + 1]? = some (.loop (rec .ready none)) := by
    subst hV
    have := World.alloc_heap_new (w.alloc (.deferred (some []))) (.loop (rec .ready none))
    rwa [World.size_alloc] at this
  have vD : V.heap[w.heap.size]? = some (.deferred (some [])) := by
    subst hV
    exact (Below.heap_alloc _ _ _ (by simp)).trans (World.alloc_heap_new w _)
  have vI : I [] V := by subst hV; exact hI.alloc _ (hI.alloc _ h0)
  have vS : V.heap.size = w.heap.size + 2 := by subst hV; simp
  have vB : Below w0.heap.size w0 V := by
    subst hV
    exact hb0.trans ((((Below.refl _ w).alloc (Nat.le_refl _) _).alloc (by simp) _).mono hb0.size)
  refine ⟨w.heap.size + 1, [{ target := .collected w.heap.size, args := #[] }], V, { target := .fn (.func gf) lb, args := #[.func (.yield (w.heap.size + 1)) #[] #[]] }, V, gf, #[.func (.yield (w.heap.size + 1)) #[] #[]] ++ lb, V, ?_, ?_, ?_, ?_, fun _ => h1, ?_⟩
  · rw [← hV, hrec]; exact run_enterLoop_outer _ _ _ _ _
  · simp only [resolve, hg]
    simp [go_sem]
  · intro f' hf'
    simp [Target.leads] at hf'
    subst hf'
    exact hFg
  · simp [invoke, go_sem, eg]
  have apart : ∀ {A B : World} {row : Option Nat} {k : Nat} {o : Obj}, A.heap[k]? = some o → A.grownBy B row → (∀ r, row = some r → V.heap.size ≤ r) → k < V.heap.size → B.heap[k]? = some o := fun hk hg hr hlt =>
    (hg.block _ (Array.getElem?_eq_some_iff.1 hk).1 (fun e => by have := hr _ e.symm; omega)).trans hk
  refine (hseq (w.heap.size + 1)
    (fun pre W => I pre W ∧ W.heap[w.heap.size + 1]? = some (.loop (rec .ready none)) ∧ W.heap[w.heap.size]? = some (.deferred (some [])))
    (fun pre W => ∃ c, Ix c pre W ∧ W.heap[w.heap.size + 1]? = some (.loop (rec .done (some c))) ∧ W.heap[w.heap.size]? = some (.deferred (some [])))
    V vB
    (fun s A B row hs hg' hr => ⟨hI s A B row hs.1 hg' (fun r e => by have := hr r e; omega), apart hs.2.1 hg' hr (by omega), apart hs.2.2 hg' hr (by omega)⟩)
    (fun s A B row hs hg' hr => by
      obtain ⟨c, hc, hl, hk⟩ := hs
      exact ⟨c, hIx c s A B row hc hg' (fun r e => by have := hr r e; omega), apart hl hg' hr (by omega), apart hk hg' hr (by omega)⟩)
    ?round ⟨vI, vL, vD⟩).mono ?behind
  case round =>
    rintro pre x W ⟨hi, hl, hk⟩ hrd
    have hlt : w.heap.size + 1 < W.heap.size := (Array.getElem?_eq_some_iff.1 hl).1
    have hy := run_yield (P := P) (args := encs x) hl (by rw [hrec]; exact hps x)
    rw [hrec] at hy
    refine ⟨fn, _, assign, body, hy, roundIn_of_wpIn hfn (hassign _ x W _ ⟨_, run_beginRound hl (by rw [hrec]), ?_⟩)⟩
    clear hy
    have bL : (W.putObj (w.heap.size + 1) (.loop { rec .ready none with state := .busy })).heap[w.heap.size + 1]? = some (.loop { rec .ready none with state := .busy }) := World.putObj_heap_same hlt
    have bD : (W.putObj (w.heap.size + 1) (.loop { rec .ready none with state := .busy })).heap[w.heap.size]? = some (.deferred (some [])) := (World.putObj_heap_other (by omega)).trans hk
    refine wpIn_mono (hbody _ pre x _ (hI.putObj _ hi (by omega)) ((hRd pre x).putObj (s := ()) _ hrd (by omega) hl rfl)) ?_
    -- the round's end
    have fin : ∀ (jump : Option Code) (U : World), KeepOut (fun _ => True) w.heap.size (W.putObj (w.heap.size + 1) (.loop { rec .ready none with state := .busy })) U →
        (Instr.endRound (w.heap.size + 1) jump).run P U = .ok (.bool jump.isNone) (U.putObj (w.heap.size + 1) (.loop (rec (if jump.isNone then .ready else .done) jump))) ∧
        U.heap[w.heap.size + 1]? = some (.loop { rec .ready none with state := .busy }) ∧
        (U.putObj (w.heap.size + 1) (.loop (rec (if jump.isNone then .ready else .done) jump))).heap[w.heap.size + 1]? = some (.loop (rec (if jump.isNone then .ready else .done) jump)) ∧
        (U.putObj (w.heap.size + 1) (.loop (rec (if jump.isNone then .ready else .done) jump))).heap[w.heap.size]? = some (.deferred (some [])) := fun jump U hkU => by
      have uL := hkU.2 _ _ bL (fun h => by omega)
      have := run_endRound (P := P) jump uL
      rw [hrec] at this ⊢
      exact ⟨this, by rw [hrec] at uL; exact uL, World.putObj_heap_same (Array.getElem?_eq_some_iff.1 uL).1, (World.putObj_heap_other (by omega)).trans (hkU.2 _ _ bD (fun h => by omega))⟩
    have out : ∀ (c : Code) (U : World), KeepOut (fun _ => True) w.heap.size (W.putObj (w.heap.size + 1) (.loop { rec .ready none with state := .busy })) U → Ix c (pre ++ [x]) U →
        (∃ c', Ix c' (pre ++ [x]) (U.putObj (w.heap.size + 1) (.loop (rec .done (some c)))) ∧ (U.putObj (w.heap.size + 1) (.loop (rec .done (some c)))).heap[w.heap.size + 1]? = some (.loop (rec .done (some c'))) ∧ (U.putObj (w.heap.size + 1) (.loop (rec .done (some c)))).heap[w.heap.size]? = some (.deferred (some []))) ∧ KeepOut (fun _ => True) V.heap.size W (U.putObj (w.heap.size + 1) (.loop (rec .done (some c)))) := fun c U hkU hix => by
      obtain ⟨_, h3, h4, h5⟩ := fin (some c) U hkU
      refine ⟨⟨c, (hIx c).putObj _ hix (by omega), h4, h5⟩, by have := hkU.1; simpa using this, fun k o hk hm => ?_⟩
      have hkl : k ≠ w.heap.size + 1 := fun e => hm (by omega) trivial
      rw [World.putObj_heap_other hkl]
      exact hkU.2 k o (by rw [World.putObj_heap_other hkl]; exact hk) (fun h => hm (by omega))
    rintro e a3 U hp
    cases e with
    | normal =>
      obtain ⟨hk3, hi3⟩ := hp
      obtain ⟨hr, h3, h4, h5⟩ := fin none U hk3.any
      refine ⟨_, _, hr, .inl ⟨rfl, ⟨hI.putObj _ hi3 (by omega), h4, h5⟩, by have := hk3.1; simpa using this, fun k o hk hm => ?_⟩⟩
      by_cases hkl : k = w.heap.size + 1
      · subst hkl
        rw [hl] at hk
        rw [← hk]
        exact h4
      · rw [World.putObj_heap_other hkl]
        exact hk3.2 k o (by rw [World.putObj_heap_other hkl]; exact hk) (fun h => hm (by omega))
    | ret => exact ⟨_, _, (fin (some .ret) U hp.1).1, .inr ⟨rfl, out .ret U hp.1 hp.2⟩⟩
    | exit id => exact ⟨_, _, (fin (some (.exit id)) U hp.1).1, .inr ⟨rfl, out (.exit id) U hp.1 hp.2⟩⟩
    | goto t => exact ⟨_, _, (fin (some (.goto t)) U hp.1).1, .inr ⟨rfl, out (.goto t) U hp.1 hp.2⟩⟩
    | panic ch => exact hp.elim
    | outgrown => exact hp.elim
  case behind =>
    rintro e U ⟨⟨v, rfl⟩, (⟨xs, hS, hi, hl, hk⟩ | ⟨pre, hSp, c, hi, hl, hk⟩)⟩
    · have hr := run_endLoop (P := P) hl (by rw [hrec]; simp)
      rw [hrec] at hr
      exact ⟨none, _, hr, hdone _ xs _ (Nat.le_refl _) hS (hI.putObj _ hi (by omega)) ((World.putObj_heap_other (by omega)).trans hk)⟩
    · have hr := run_endLoop (P := P) hl (by rw [hrec]; simp)
      rw [hrec] at hr
      exact ⟨some c, _, hr, hstop _ c pre _ (Nat.le_refl _) hSp ((hIx c).putObj _ hi (by omega)) ((World.putObj_heap_other (by omega)).trans hk)⟩
end
/-- Bytes abide what turns no cells. -/
theorem InB.ownFrom {B : Nat} (A : Option Addr) (c : Nat) (l : List UInt8) : OwnFrom B (fun (_ : Unit) W => InB W W.heap.size A c l) := fun _ X Y row hs hg hr =>
  ⟨hs.le, hs.max, hs.nil, fun hl => by
    obtain ⟨g, o, hA, hgb, hc⟩ := hs.lies hl
    exact ⟨g, o, hA, Nat.lt_of_lt_of_le hgb hg.size, fun j hj => cell_kept (hc j hj) hg (fun r e => (hr r e).2)⟩⟩
end Go.Proofs.Ytlelckdcmlpmdaa
