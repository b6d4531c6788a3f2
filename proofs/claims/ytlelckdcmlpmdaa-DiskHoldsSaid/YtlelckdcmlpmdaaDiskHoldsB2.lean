/- Texts that the proof of DiskHolds leans on, part 2. -/
import Derived.Laws.CopyRow
import Derived.Deep.MidRow
import Derived.MapKept
import Derived.Carry
import Derived.ScopeJumps
import Derived.Lib.AppendZeros
import Derived.Test.YtlelckdcmlpmdaaDiskHoldsB1
/- slices.Values over lists of bytes; octet.Sum. -/
namespace Go.Proofs.Ytlelckdcmlpmdaa
open Go Go.RowKit Lou Go.Shelf
attribute [local go_sem] Oper.semAt_some

/-- Bytes that came in, as one value (below n₀ in the world w0). -/
abbrev Piece (w0 : World) (n₀ : Nat) := { x : (Option Addr × Nat) × List UInt8 // InB w0 n₀ x.1.1 x.1.2 x.2 }
def Piece.val {w0 : World} {n₀ : Nat} (p : Piece w0 n₀) : Value := .slice p.1.1.1 p.1.2.length p.1.1.2
def Piece.l {w0 : World} {n₀ : Nat} (p : Piece w0 n₀) : List UInt8 := p.1.2

/-- A list of bytes' lists that came in. -/
structure InLL (w : World) (B : Nat) (A : Option Addr) (c : Nat) (ls : List (Piece w B)) : Prop where
  le : ls.length ≤ c
  max : c ≤ 9223372036854775807
  lies : 0 < ls.length → ∃ g o, A = some ⟨g, o, none⟩ ∧ g < B ∧ ∀ j (h : j < ls.length), w.cell? ⟨g, o + j, none⟩ = some ls[j].val

section
variable {w0 : World} {n₀ : Nat}

set_option maxRecDepth 100000 in
set_option maxHeartbeats 2000000 in
theorem values1_some (n : Nat) (hn1 : 1 ≤ n) (l Bs b off cap : Nat) (zs : List (Piece w0 n₀)) (hmax : zs.length ≤ 9223372036854775807) (hb : b < n₀) (J Jx : List (Piece w0 n₀) → World → Prop)
    (hY : ∀ pre x W, J pre W → pre.length < zs.length → YieldAt Fence.wide (n - 1) Try.prog l #[x.val] W fun e W' =>
      (e = .returned (.bool true) ∧ J (pre ++ [x]) W' ∧ Below n₀ W W') ∨ (e = .returned (.bool false) ∧ Jx (pre ++ [x]) W'))
    (W : World) (hBs : W.cell? ⟨Bs, 0, none⟩ = some (.slice (some ⟨b, off, none⟩) zs.length cap)) (hc : ∀ j (h : j < zs.length), W.cell? ⟨b, off + j, none⟩ = some zs[j].val) (h0 : J [] W) :
    CallsIn Fence.wide n Try.prog 163 #[.func (.yield l) #[] #[], .pointer (some ⟨Bs, 0, none⟩)] W fun e W' => (∃ v, e = .returned v) ∧
      ((∃ ys, ys = zs ∧ J ys W') ∨ (∃ pre, pre <+: zs ∧ Jx pre W')) := by
  refine callsIn_of_wp Try.func163 rfl trivial ?_ rfl
  simp only [Try.ntmps163, List.size_toArray, List.length_cons, List.length_nil, Nat.reduceAdd, Nat.reduceSub, Array.replicate_succ, Array.replicate_zero, List.push_toArray, List.append_toArray, List.nil_append, List.cons_append]
  gi_wp2
  gi_loopw [7] (fun i wr => ∃ k : Nat, k ≤ zs.length ∧ i = .int .i64 k ∧ J (zs.take k) wr ∧ Below n₀ W wr)
    (fun i _ => zs.length - (intOf i).toNat)
  case atStart => exact ⟨0, Nat.zero_le _, rfl, by simpa using h0, Below.refl _ _⟩
  case round =>
    obtain ⟨k, hk, rfl, hJs, hnx⟩ := hrel
    by_cases hlt : k < zs.length
    · have hcx : wr.cell? ⟨b, off + k, none⟩ = some zs[k].val := (hnx.cell (p := ⟨b, off + k, none⟩) hb).trans (hc k hlt)
      obtain ⟨fn, tmps, assign, body, hy, hR⟩ := hY _ zs[k] wr hJs (by simp; omega)
      have htk : zs.take k ++ [zs[k]] = zs.take (k + 1) := (List.take_succ_eq_append_getElem hlt).symm
      have hTk := Lib.hid htk
      clear htk
      have hval : zs[k].val = .slice zs[k].1.1.1 zs[k].1.2.length zs[k].1.1.2 := rfl
      rw [hval] at hcx hy
      clear hval hc
      gi_wp2
      refine hR.mono ?_
      rintro e W3 (⟨rfl, hJ3, hk3⟩ | ⟨rfl, hJx3⟩)
      · gi_wp2
        go_roundw
        case rel => exact ⟨k + 1, by omega, by simp, by rw [← hTk.out]; exact hJ3, hnx.trans hk3⟩
        case measure => simp [intOf]; omega
      · gi_wp2
        refine bodyPost_ret (results_none rfl _ _ _) rfl ?_
        exact ⟨⟨_, rfl⟩, .inr ⟨_, by rw [hTk.out]; exact List.take_prefix _ _, hJx3⟩⟩
    · obtain rfl : k = zs.length := by omega
      gi_wp2
      go_end0
      exact ⟨⟨_, rfl⟩, .inl ⟨_, List.take_length, hJs⟩⟩

set_option maxRecDepth 100000 in
set_option maxHeartbeats 1000000 in
theorem values1_empty (n : Nat) (l Bs : Nat) (A : Option Addr) (cap : Nat) (J : List (Piece w0 n₀) → World → Prop) (W : World) (hBs : W.cell? ⟨Bs, 0, none⟩ = some (.slice A 0 cap)) (h0 : J [] W) :
    CallsIn Fence.wide n Try.prog 163 #[.func (.yield l) #[] #[], .pointer (some ⟨Bs, 0, none⟩)] W fun e W' => (∃ v, e = .returned v) ∧ J [] W' := by
  refine callsIn_of_wp Try.func163 rfl trivial ?_ rfl
  simp only [Try.ntmps163, List.size_toArray, List.length_cons, List.length_nil, Nat.reduceAdd, Nat.reduceSub, Array.replicate_succ, Array.replicate_zero, List.push_toArray, List.append_toArray, List.nil_append, List.cons_append]
  gi_wp2
  gi_loopw [7] (fun i wr => i = .int .i64 0 ∧ J [] wr) (fun _ _ => 0)
  case atStart => exact ⟨rfl, h0⟩
  case round =>
    obtain ⟨rfl, hJs⟩ := hrel
    gi_wp2
    go_end0
    exact ⟨⟨_, rfl⟩, hJs⟩

set_option maxHeartbeats 1000000 in
theorem values_in (n : Nat) (a : Option Addr) (len cap : Nat) (w : World) :
    CallsIn Fence.wide n Try.prog 99 #[.slice a len cap] w fun e w' => e = .returned (.func (.func 163) #[] #[.pointer (some ⟨w.heap.size, 0, none⟩)]) ∧ w.alloc (.cells #[.slice a len cap] 168) = w' := by
  refine callsIn_of_wp Try.func99 rfl trivial ?_ rfl
  simp only [Try.ntmps99, List.size_toArray, List.length_cons, List.length_nil, Nat.reduceAdd, Nat.reduceSub, Array.replicate_succ, Array.replicate_zero, List.push_toArray, List.append_toArray, List.nil_append, List.cons_append]
  gi_wp2
  go_ret
  exact ⟨rfl, rfl⟩

theorem values_stops (n : Nat) (hn1 : 1 ≤ n) (Bs : Nat) (A : Option Addr) (c : Nat) (zs : List (Piece w0 n₀)) (hI : InLL w0 n₀ A c zs) (w : World) (hb0 : Below n₀ w0 w) (hBs : Bs < w.heap.size) (hn₀ : n₀ ≤ w.heap.size)
    (hc : w.cell? ⟨Bs, 0, none⟩ = some (.slice A zs.length c)) :
    SeqStopsK Fence.wide n Try.prog 163 #[.pointer (some ⟨Bs, 0, none⟩)] (fun x : Piece w0 n₀ => #[x.val]) (Below n₀) (fun ys => ys = zs) (fun pre => pre <+: zs) zs.length w := fun l J Jx W hW _ _ hY h0 => by
  have hc' := (hW.cell (p := ⟨Bs, 0, none⟩) hBs).trans hc
  have hle := hI.le
  have hmx := hI.max
  rcases Nat.eq_zero_or_pos zs.length with hz | hz
  · obtain rfl := List.eq_nil_of_length_eq_zero hz
    exact (values1_empty n l Bs A c J W hc' h0).mono fun e W' ⟨he, hj⟩ => ⟨he, .inl ⟨_, rfl, hj⟩⟩
  · obtain ⟨g, o, rfl, hg, hcs⟩ := hI.lies hz
    exact values1_some n hn1 l Bs g o c zs (by omega) hg J Jx hY W hc' (fun j hj => ((hb0.trans (hW.mono hn₀)).cell hg).trans (hcs j hj)) h0
end

theorem tab_zero : TabOk 0 Try.zeroCells186 :=
  ⟨by kernel_rfl, by kernel_rfl, by kernel_rfl, .inl rfl, fun _ => by kernel_rfl, fun h => by omega⟩

set_option maxRecDepth 100000 in
set_option maxHeartbeats 2000000 in
theorem sum_in (n : Nat) (hn : 4 ≤ n) (w : World) (A : Option Addr) (c : Nat) (zs : List (Piece w w.heap.size)) (hI : InLL w w.heap.size A c zs) :
    CallsIn Fence.wide n Try.prog 29 #[.slice A zs.length c] w fun e W' => e = .returned (.int .u32 (sumL (zs.map Piece.l).flatten : Int)) ∧ Below w.heap.size w W' := by
  have h1 : 1 ≤ n := by omega
  refine callsIn_of_wp_marks Try.func29 rfl trivial ?_ rfl
  simp only [Try.ntmps29, List.size_toArray, List.length_cons, List.length_nil, Nat.reduceAdd, Nat.reduceSub, Array.replicate_succ, Array.replicate_zero, List.push_toArray, List.append_toArray, List.nil_append, List.cons_append]
  gi_wp2_with (refine ⟨trivial, ?_⟩; gi_at_call 99; refine (values_in (n - 1) _ _ _ _).mono ?_; rintro e w' ⟨rfl, rfl⟩)
  have b0 : BlkIs ((((w.alloc (.cells Try.zeroCells186 186)).alloc (.cells #[.pointer (some ⟨w.heap.size, 0, none⟩)] 169)).alloc (.cells #[.int .u32 4294967295] 45)).alloc (.cells #[.slice A zs.length c] 168)) w.heap.size 186 Try.zeroCells186 := (((BlkIs.new _ _ _).alloc _).alloc _).alloc _
  have b1 : BlkIs ((((w.alloc (.cells Try.zeroCells186 186)).alloc (.cells #[.pointer (some ⟨w.heap.size, 0, none⟩)] 169)).alloc (.cells #[.int .u32 4294967295] 45)).alloc (.cells #[.slice A zs.length c] 168)) (w.heap.size + 1) 169 #[.pointer (some ⟨w.heap.size, 0, none⟩)] := by
    have := ((BlkIs.new (w.alloc (.cells Try.zeroCells186 186)) 169 #[.pointer (some ⟨w.heap.size, 0, none⟩)]).alloc (.cells #[.int .u32 4294967295] 45)).alloc (.cells #[.slice A zs.length c] 168)
    rwa [World.size_alloc] at this
  have b2 : BlkIs ((((w.alloc (.cells Try.zeroCells186 186)).alloc (.cells #[.pointer (some ⟨w.heap.size, 0, none⟩)] 169)).alloc (.cells #[.int .u32 4294967295] 45)).alloc (.cells #[.slice A zs.length c] 168)) (w.heap.size + 1 + 1) 45 #[.int .u32 4294967295] := by
    have := (BlkIs.new ((w.alloc (.cells Try.zeroCells186 186)).alloc (.cells #[.pointer (some ⟨w.heap.size, 0, none⟩)] 169)) 45 #[.int .u32 4294967295]).alloc (.cells #[.slice A zs.length c] 168)
    rwa [World.size_alloc, World.size_alloc] at this
  have b3 : ((((w.alloc (.cells Try.zeroCells186 186)).alloc (.cells #[.pointer (some ⟨w.heap.size, 0, none⟩)] 169)).alloc (.cells #[.int .u32 4294967295] 45)).alloc (.cells #[.slice A zs.length c] 168)).cell? ⟨w.heap.size + 1 + 1 + 1, 0, none⟩ = some (.slice A zs.length c) := by
    have := new_cell (((w.alloc (.cells Try.zeroCells186 186)).alloc (.cells #[.pointer (some ⟨w.heap.size, 0, none⟩)] 169)).alloc (.cells #[.int .u32 4294967295] 45)) (.slice A zs.length c) 168
    rwa [World.size_alloc, World.size_alloc, World.size_alloc] at this
  have hB0 : Below w.heap.size w ((((w.alloc (.cells Try.zeroCells186 186)).alloc (.cells #[.pointer (some ⟨w.heap.size, 0, none⟩)] 169)).alloc (.cells #[.int .u32 4294967295] 45)).alloc (.cells #[.slice A zs.length c] 168)) :=
    ((((Below.refl _ w).alloc (Nat.le_refl _) _).alloc (by simp) _).alloc (by simp; omega) _).alloc (by simp; omega) _
  have hsz : ((((w.alloc (.cells Try.zeroCells186 186)).alloc (.cells #[.pointer (some ⟨w.heap.size, 0, none⟩)] 169)).alloc (.cells #[.int .u32 4294967295] 45)).alloc (.cells #[.slice A zs.length c] 168)).heap.size = w.heap.size + 4 := by simp
  generalize hW0 : ((((w.alloc (.cells Try.zeroCells186 186)).alloc (.cells #[.pointer (some ⟨w.heap.size, 0, none⟩)] 169)).alloc (.cells #[.int .u32 4294967295] 45)).alloc (.cells #[.slice A zs.length c] 168)) = W0 at *
  clear hW0
  refine wpIn_rangeFunc_ownG rfl h1 (gf := 163) (lb := #[.pointer (some ⟨w.heap.size + 1 + 1 + 1, 0, none⟩)]) rfl trivial (enters_of Try.func163 (by kernel_rfl) rfl)
    (values_stops (n - 1) (by omega) (w.heap.size + 1 + 1 + 1) A c zs hI W0 hB0 (by omega) (by omega) b3) belowK_t (belowK_b (by omega)) (Below.refl _ _) (fun _ => rfl)
    (fun pre W => ((∃ d cs, BlkIs W w.heap.size 186 cs ∧ TabOk d cs) ∧ BlkIs W (w.heap.size + 1) 169 #[.pointer (some ⟨w.heap.size, 0, none⟩)] ∧ BlkIs W (w.heap.size + 1 + 1) 45 #[.int .u32 (sumS 4294967295 (pre.map Piece.l).flatten : Int)]) ∧ Below w.heap.size w W)
    (fun _ _ _ => False)
    (OwnFrom.and (Own.from (fun s A B row hs hg hr => ⟨by obtain ⟨d, cs, h1, h2⟩ := hs.1; exact ⟨d, cs, h1.kept hg hr, h2⟩, hs.2.1.kept hg hr, hs.2.2.kept hg hr⟩) _) (ownFrom_below (Nat.le_refl _) (by omega)))
    (fun _ _ _ _ _ hs _ _ => hs)
    ⟨⟨⟨0, _, b0, tab_zero⟩, b1, b2⟩, hB0⟩
    (fun x => { tmps := #[.slice A zs.length c, undef, .int .u32 0, .pointer (some ⟨w.heap.size + 1, 0, none⟩), .pointer (some ⟨w.heap.size + 1 + 1, 0, none⟩), .slice x.1.1.1 x.1.2.length x.1.1.2, undef, undef, .agg Try.zeroCells186, .pointer (some ⟨w.heap.size, 0, none⟩), .slice A zs.length c, .func (.func 163) #[] #[.pointer (some ⟨w.heap.size + 1 + 1 + 1, 0, none⟩)], .slice x.1.1.1 x.1.2.length x.1.1.2, undef, undef, undef, undef, undef, undef, undef, undef, undef, undef, undef, undef, undef], defers := [] }) ?assign ?body ?done ?stop
  case assign =>
    intro l x W K hK
    have hv : x.val = .slice x.1.1.1 x.1.2.length x.1.1.2 := rfl
    dsimp only [hv]
    gi_wp2
    exact hK
  case body =>
    rintro l pre x W ⟨⟨⟨d, cs, hT, hOk⟩, hP, hS⟩, hB⟩ _
    have hx := x.2
    have hxl := hx.le
    have hxm := hx.max
    have h11 : 1 ≤ n - 1 - 1 := by omega
    have hF : (pre ++ [x]).map Piece.l = pre.map Piece.l ++ [x.1.2] := by simp [Piece.l]
    have hFl : sumS 4294967295 ((pre ++ [x]).map Piece.l).flatten = sumS (sumS 4294967295 (pre.map Piece.l).flatten) x.1.2 := by
      rw [hF, List.flatten_append, sumS_append]; simp
    have hs32 := sumS_lt (s := 4294967295) (by omega) (pre.map Piece.l).flatten
    have HF := Lib.hid hFl
    clear hF hFl
    generalize sumS 4294967295 (pre.map Piece.l).flatten = s0 at *
    have hz := hsz
    gi_wp2_with fail
    gi_loopw [15] (fun i wr => ∃ k : Nat, k ≤ x.1.2.length ∧ i = .int .i64 k ∧ (∃ d cs, BlkIs wr w.heap.size 186 cs ∧ TabOk d cs) ∧ BlkIs wr (w.heap.size + 1) 169 #[.pointer (some ⟨w.heap.size, 0, none⟩)] ∧ BlkIs wr (w.heap.size + 1 + 1) 45 #[.int .u32 (sumS s0 (x.1.2.take k) : Int)] ∧ Below w.heap.size W wr ∧ KeepsOthers W wr)
      (fun i _ => x.1.2.length - (intOf i).toNat)
    case atStart => exact ⟨0, by omega, rfl, ⟨d, cs, hT, hOk⟩, hP, hS, Below.refl _ _, KeepsOthers.refl _⟩
    case round =>
      obtain ⟨k, hk, rfl, ⟨d, cs, hT, hOk⟩, hP, hS, hBW, hKO⟩ := hrel
      by_cases hlt : k < x.1.2.length
      · obtain ⟨g, o, hA, hg, hc⟩ := hx.lies (by omega)
        have hck : wr.cell? ⟨g, o + k, none⟩ = some (.int .u8 (x.1.2[k].toNat : Int)) := ((hB.trans hBW).cell (p := ⟨g, o + k, none⟩) hg).trans (hc k hlt)
        have hsk := sumS_lt hs32 (x.1.2.take k)
        have hnext : sumS s0 (x.1.2.take (k + 1)) = stepC (sumS s0 (x.1.2.take k)) x.1.2[k] := by
          rw [List.take_succ_eq_append_getElem hlt, sumS_append]; rfl
        have HN := Lib.hid hnext
        clear hnext hc hs32
        generalize sumS s0 (x.1.2.take k) = sk at *
        have hcP := hP.boxed
        have hcS := hS.boxed
        rw [hA]
        have HA := Lib.hid hA
        clear hA
        gi_wp2_with (refine ⟨trivial, ?_⟩; gi_at_call 100; refine (CallsIn.inRound l (callsIn_wide.2 (step_gives w.heap.size d cs sk x.1.2[k] hsk _ hT hOk))).mono ?_; rintro e w' ⟨rfl, ⟨cs1, hb1, h1⟩, hg1⟩; have hS1 := hS.grown hg1 (by simp; omega); have hP1 := hP.grown hg1 (by simp); have hcS1 := hS1.boxed; have hfS1 := hS1.free 0)
        have hBw : Below w.heap.size wr w' := (Below.refl _ _).grown hg1 (by have := hT.lt; omega) (fun k hk => by cases hk; exact Nat.le_refl _)
        refine ⟨⟨k + 1, by omega, by go_num, ⟨1, cs1, hb1.other (by simp; omega) _, h1⟩, hP1.other (by simp) _, ?_, (hBW.trans hBw).setCell (p := ⟨w.heap.size + 1 + 1, 0, none⟩) (by simp; omega) _, (hKO.trans (hT.others hg1)).trans (KeepsOthers.setCell _ _ _)⟩, by simp [intOf]; omega⟩
        rw [HN.out]
        exact hS1.set 0 _
      · obtain rfl : k = x.1.2.length := by omega
        gi_wp2_with fail
        rw [List.take_length] at hS
        refine ⟨hKO.from _, hBW, ⟨⟨⟨d, cs, hT, hOk⟩, hP, ?_⟩, hB.trans hBW⟩⟩
        rw [HF.out]
        exact hS
  case done =>
    rintro D ys W hD rfl ⟨⟨hT, hP, hS⟩, hB⟩ hK
    have hcS := hS.boxed
    have hs32 := sumS_lt (s := 4294967295) (by omega) (ys.map Piece.l).flatten
    have hinv := xor_inv hs32
    gi_wp2
    refine ⟨by simp, .inl ⟨_, _, rfl, run_takeDeferred hK, ?_⟩⟩
    exact ⟨_, results_tmp rfl _ _ _, rfl, hB.trans (belowK_b (w := w) (Nat.le_refl _) W D _ _ (by omega) hK rfl rfl)⟩
  case stop =>
    rintro D c pre W _ _ h _
    exact h.elim

/-- octet.Sum, whatever lists of bytes. -/
theorem sum_gives (w : World) (A : Option Addr) (c : Nat) (zs : List (Piece w w.heap.size)) (hI : InLL w w.heap.size A c zs) :
    Calls Try.prog 29 #[.slice A zs.length c] w fun e W' => e = .returned (.int .u32 (sumL (zs.map Piece.l).flatten : Int)) ∧ Below w.heap.size w W' :=
  callsIn_wide.1 (sum_in 4 (Nat.le_refl _) w A c zs hI)

/-- .. of none, of one, of two, in a block just laid. -/
theorem sum0_gives (w : World) : Calls Try.prog 29 #[.slice none 0 0] w fun e W' => e = .returned (.int .u32 (sumL [] : Int)) ∧ Below w.heap.size w W' :=
  sum_gives w none 0 [] ⟨by simp, by omega, fun h => by simp at h⟩
theorem sum1_gives (W : World) (A : Option Addr) (c : Nat) (l : List UInt8) (hin : InB W W.heap.size A c l) :
    Calls Try.prog 29 #[.slice (some ⟨W.heap.size, 0, none⟩) 1 1] (W.alloc (.cells #[.slice A l.length c] 30)) fun e W' => e = .returned (.int .u32 (sumL l : Int)) ∧ Below W.heap.size W W' := by
  have hb : Below W.heap.size W (W.alloc (.cells #[.slice A l.length c] 30)) := (Below.refl _ _).alloc (Nat.le_refl _) _
  have h1 : InB (W.alloc (.cells #[.slice A l.length c] 30)) (W.alloc (.cells #[.slice A l.length c] 30)).heap.size A c l := (hin.below hb).more (by simp)
  have H := sum_gives (W.alloc (.cells #[.slice A l.length c] 30)) (some ⟨W.heap.size, 0, none⟩) 1 [⟨((A, c), l), h1⟩] ⟨by simp, by omega, fun _ => ⟨W.heap.size, 0, rfl, by simp, fun j hj => by
    obtain rfl : j = 0 := by simpa using hj
    exact new_cell _ _ _⟩⟩
  refine H.mono ?_
  rintro e W' ⟨rfl, hB⟩
  exact ⟨by simp [Piece.l], hb.trans (hB.mono (by simp))⟩
theorem sum2_gives (W : World) (A A2 : Option Addr) (c c2 : Nat) (l l2 : List UInt8) (hin : InB W W.heap.size A c l) (hin2 : InB W W.heap.size A2 c2 l2) :
    Calls Try.prog 29 #[.slice (some ⟨W.heap.size, 0, none⟩) 2 2] (W.alloc (.cells #[.slice A l.length c, .slice A2 l2.length c2] 30)) fun e W' => e = .returned (.int .u32 (sumL (l ++ l2) : Int)) ∧ Below W.heap.size W W' := by
  have hb : Below W.heap.size W (W.alloc (.cells #[.slice A l.length c, .slice A2 l2.length c2] 30)) := (Below.refl _ _).alloc (Nat.le_refl _) _
  have h1 : InB (W.alloc (.cells #[.slice A l.length c, .slice A2 l2.length c2] 30)) (W.alloc (.cells #[.slice A l.length c, .slice A2 l2.length c2] 30)).heap.size A c l := (hin.below hb).more (by simp)
  have h2 : InB (W.alloc (.cells #[.slice A l.length c, .slice A2 l2.length c2] 30)) (W.alloc (.cells #[.slice A l.length c, .slice A2 l2.length c2] 30)).heap.size A2 c2 l2 := (hin2.below hb).more (by simp)
  have hbk := BlkIs.new W 30 #[.slice A l.length c, .slice A2 l2.length c2]
  have H := sum_gives (W.alloc (.cells #[.slice A l.length c, .slice A2 l2.length c2] 30)) (some ⟨W.heap.size, 0, none⟩) 2 [⟨((A, c), l), h1⟩, ⟨((A2, c2), l2), h2⟩] ⟨by simp, by omega, fun _ => ⟨W.heap.size, 0, rfl, by simp, fun j hj => by
    rw [hbk.cell]
    rcases (show j = 0 ∨ j = 1 from by simp at hj; omega) with rfl | rfl
    · rfl
    · rfl⟩⟩
  refine H.mono ?_
  rintro e W' ⟨rfl, hB⟩
  exact ⟨by simp [Piece.l], hb.trans (hB.mono (by simp))⟩
end Go.Proofs.Ytlelckdcmlpmdaa
/- copy of bytes into a block of the call's own. -/
namespace Go.Proofs.Ytlelckdcmlpmdaa
open Go Go.RowKit Lou

theorem BlkIs.setRow {w : World} {g : Nat} {t : TypeId} {cs : Array Value} (h : BlkIs w g t cs) (cs' : Array Value) : BlkIs (w.setRow g cs') g t cs' := setRow_heap w g cs cs' t (0, 0) h
theorem BlkIs.setRow_ne {w : World} {g k : Nat} {t : TypeId} {cs : Array Value} (h : BlkIs w g t cs) (hk : g ≠ k) (cs' : Array Value) : BlkIs (w.setRow k cs') g t cs := (setRow_other w k g cs' hk).trans h
theorem below_setRow {B : Nat} {w0 w : World} (hb : Below B w0 w) {g : Nat} (hg : B ≤ g) (cs : Array Value) : Below B w0 (w.setRow g cs) :=
  hb.trans ⟨rfl, rfl, rfl, by simp [World.setRow], fun k hk => setRow_other w g k cs (by omega)⟩

/-- What stands after a copy. -/
def spliceB (l : List UInt8) (o n : Nat) (src : List UInt8) : List UInt8 := l.take o ++ src.take n ++ l.drop (o + min src.length n)
theorem copyB_run {w : World} {g o : Nat} {l src : List UInt8} {A : Option Addr} {c B dLen dCap : Nat} (ty : TypeId) {T : TypeId} (hb : BlkIs w g T (l.map b8).toArray) (hin : InB w B A c src) (hfit : o + dLen ≤ l.length) :
    (Builtin.copy_ #[30, 30] ty #[.slice (some ⟨g, o, none⟩) dLen dCap, .slice A src.length c]).run Try.prog w = .ok (.int .i64 ((min src.length dLen : Nat) : Int)) (w.setRow g ((spliceB l o dLen src).map b8).toArray) := by
  obtain ⟨i0, hi, hz0, hz1, hz2⟩ := info_parts inf_u8
  have hs : (Try.prog.info? 5).map (·.size) = some 1 := by rw [hi]; simp [hz1]
  rcases Nat.eq_zero_or_pos src.length with h0 | h0
  · obtain rfl := List.eq_nil_of_length_eq_zero h0
    have e : spliceB l o dLen [] = l := by simp [spliceB]
    rw [e, setRow_self w g _ _ _ hb]
    rcases A with _ | ad
    · obtain rfl := hin.nil rfl
      have := run_copy_nil (P := Try.prog) w 30 30 ty 5 ⟨g, o, none⟩ dLen dCap Try.underlying30 (by rw [hi]; rfl)
      simpa [goInt] using this
    · have := run_copy_row (P := Try.prog) w 30 30 ty 5 g o dLen dCap ad 0 c _ _ [] Try.underlying30 hs hb (by simp) (by simp) (by simp; omega) (by simp)
      have e2 : ((l.map b8).toArray.toList.take o ++ [] ++ (l.map b8).toArray.toList.drop (o + ([] : List Value).length)).toArray = (l.map b8).toArray := by simp
      rw [e2, setRow_self w g _ _ _ hb] at this
      simpa [goInt] using this
  · obtain ⟨g2, o2, rfl, hg2, hc⟩ := hin.lies h0
    have := run_copy_row (P := Try.prog) w 30 30 ty 5 g o dLen dCap ⟨g2, o2, none⟩ src.length c _ _ ((src.take dLen).map b8) Try.underlying30 hs hb (by simp [Nat.min_comm]) ?_ (by simp; omega) (fun v hv => by obtain ⟨x, _, rfl⟩ := List.mem_map.1 hv; rfl)
    · rw [this]
      simp [goInt, spliceB, Nat.min_comm, List.map_take, List.map_drop]
    · intro j v hj
      have hj2 : j < (src.take dLen).length := by
        have := (List.getElem?_eq_some_iff.1 hj).1
        simpa using this
      have hjs : j < src.length := by simp at hj2; omega
      have ea : (⟨g2, o2, none⟩ : Addr).add j = ⟨g2, o2 + j, none⟩ := by cases j <;> simp [Addr.add]
      rw [ea, hc j hjs]
      rw [List.getElem?_map, List.getElem?_eq_getElem hj2, List.getElem_take] at hj
      simpa [b8] using hj

section
variable {w : World} {ops : Array Oper} {rest : List Oper} {o : Oper} {a : Act} {Q : Exit → Act → World → Prop}
theorem oper_copyB {K : Act → World → Prop} (d s : Operand) (ho : o.op = .call { callee := .builtin .copy, args := #[d, s], argTypes := #[30, 30] })
    (g off : Nat) (l src : List UInt8) (A : Option Addr) (c B dLen dCap : Nat) (hd : a.eval d = .slice (some ⟨g, off, none⟩) dLen dCap) (hs : a.eval s = .slice A src.length c)
    {T : TypeId} (hb : BlkIs w g T (l.map b8).toArray) (hin : InB w B A c src) (hfit : off + dLen ≤ l.length)
    (h : K (a.put o.dst (.int .i64 ((min src.length dLen : Nat) : Int))) (w.setRow g ((spliceB l off dLen src).map b8).toArray)) : o.wp Try.prog a w K Q := by
  have hr := copyB_run (dCap := dCap) o.type hb hin hfit
  unfold Oper.wp execOp
  simp only [ho, resolve, invoke, builtin, Sem.run_bind, Sem.run_pure, Result.andThen_ok, List.map_toArray, List.map_cons, List.map_nil, hd, hs, hr]
  exact h
theorem wp_copyB (hgd : o.guard = none) (d s : Operand) (ho : o.op = .call { callee := .builtin .copy, args := #[d, s], argTypes := #[30, 30] })
    (g off : Nat) (l src : List UInt8) (A : Option Addr) (c B dLen dCap : Nat) (hd : a.eval d = .slice (some ⟨g, off, none⟩) dLen dCap) (hs : a.eval s = .slice A src.length c)
    {T : TypeId} (hb : BlkIs w g T (l.map b8).toArray) (hin : InB w B A c src) (hfit : off + dLen ≤ l.length)
    (h : wpList Try.prog ops Q rest (a.put o.dst (.int .i64 ((min src.length dLen : Nat) : Int))) (w.setRow g ((spliceB l off dLen src).map b8).toArray)) : wpList Try.prog ops Q (o :: rest) a w :=
  wpList_plain hgd fun _ hK => oper_copyB d s ho g off l src A c B dLen dCap hd hs hb hin hfit (hK _ _ h)
end
/-- An own row without spare room, as a block. -/
theorem OwnB.blk {w : World} {base g : Nat} {l : List UInt8} (h : OwnB w base (.slice (some ⟨g, 0, none⟩) l.length l.length) l) : BlkIs w g 5 (l.map b8).toArray ∧ base ≤ g := by
  rcases h.2 with ⟨h1, _⟩ | ⟨g', cap, cur, hv, hb, hg, hle, _, hs, ht⟩
  · cases h1
  · injection hv with e1 e2 e3
    injection e1 with e1
    injection e1 with e1 _ _
    subst e1 e3
    refine ⟨?_, hb⟩
    have e : cur.toList = l.map b8 := by
      rw [← ht, List.take_of_length_le]
      simp; omega
    have e' : cur = (l.map b8).toArray := by rw [← e]
    unfold BlkIs
    rw [hg, e']
end Go.Proofs.Ytlelckdcmlpmdaa
/- Structs and arrays that lie whole in a block: load, store, results. -/
namespace Go.Proofs.Ytlelckdcmlpmdaa
open Go Go.RowKit Lou

theorem BlkIs.range {w : World} {g : Nat} {t : TypeId} {cs : Array Value} (h : BlkIs w g t cs) : w.rangeAt g 0 cs.toList := fun j v hj => by
  rw [Nat.zero_add, h.cell]
  simpa using hj
/-- A type whose values lie in n cells of a block of their own. -/
structure RowTy (P : Program) (T : TypeId) (n : Nat) : Prop where
  desc : ∃ d, P.underlying T = some d ∧ d.isRow = true
  size : (P.info? T).map (·.size) = some n
theorem run_loadW {P : Program} {w : World} {g : Nat} {T t : TypeId} {cs : Array Value} (hT : RowTy P T cs.size) (hb : BlkIs w g t cs) : (loadVar T ⟨g, 0, none⟩).run P w = .ok (.agg cs) w := by
  obtain ⟨d, hu, hd⟩ := hT.desc
  have := run_loadVar_mid (P := P) w g 0 T cs.toList d hb.range hu hd (by simpa using hT.size)
  simpa using this
theorem run_storeW {P : Program} {w : World} {g : Nat} {T t : TypeId} {cs cs' : Array Value} (hT : RowTy P T cs.size) (hb : BlkIs w g t cs) (hs : cs'.size = cs.size) (h1 : ∀ v ∈ cs'.toList, v.oneCell' = true) : (storeVar T ⟨g, 0, none⟩ (.agg cs')).run P w = .ok () (w.setRow g cs') := by
  have h := run_storeCells_at (P := P) g 0 t cs'.toList 0 cs w hb (by simp; omega) h1
  have e : (cs.toList.take (0 + 0) ++ cs'.toList ++ cs.toList.drop (0 + 0 + cs'.toList.length)).toArray = cs' := by
    simp [List.drop_of_length_le, hs]
  rw [e] at h
  have hi := hT.size
  cases hq : P.info? T with
  | none => simp [hq] at hi
  | some i =>
    have hs2 : cs'.size = i.size := by simp [hq] at hi; omega
    simp [storeVar, sizeOf, typeInfo, hq, Value.cells, hs2, h]
section
variable {P : Program} {w : World} {ops : Array Oper} {rest : List Oper} {o : Oper} {a : Act} {Q : Exit → Act → World → Prop}
theorem oper_loadW {K : Act → World → Prop} (T : TypeId) (x : Operand) (ho : o.op = .load T x) (g : Nat) {t : TypeId} {cs : Array Value} (hx : a.eval x = .pointer (some ⟨g, 0, none⟩)) {n : Nat} (hT : RowTy P T n) (hb : BlkIs w g t cs) (hn : cs.size = n)
    (h : K (a.put o.dst (.agg cs)) w) : o.wp P a w K Q := by
  unfold Oper.wp execOp
  simp only [ho, hx, Instr.loadAt, Instr.sureAddr, Sem.run_bind, Sem.run_pure, Result.andThen_ok, run_loadW (hn ▸ hT) hb]
  exact h
theorem oper_storeW {K : Act → World → Prop} (T : TypeId) (x y : Operand) (ho : o.op = .store T x y) (g : Nat) {t : TypeId} {cs cs' : Array Value} (hx : a.eval x = .pointer (some ⟨g, 0, none⟩)) (hy : a.eval y = .agg cs') {n : Nat} (hT : RowTy P T n) (hb : BlkIs w g t cs) (hn : cs.size = n)
    (hs : cs'.size = cs.size) (h1 : ∀ v ∈ cs'.toList, v.oneCell' = true) (h : K (a.put o.dst undef) (w.setRow g cs')) : o.wp P a w K Q := by
  unfold Oper.wp execOp
  simp only [ho, hx, hy, Instr.storeAt, Instr.sureAddr, Sem.run_bind, Sem.run_pure, Result.andThen_ok, run_storeW (hn ▸ hT) hb hs h1]
  exact h
theorem wp_loadW (hgd : o.guard = none) (T : TypeId) (x : Operand) (ho : o.op = .load T x) (g : Nat) {t : TypeId} {cs : Array Value} (hx : a.eval x = .pointer (some ⟨g, 0, none⟩)) {n : Nat} (hT : RowTy P T n) (hb : BlkIs w g t cs) (hn : cs.size = n)
    (h : wpList P ops Q rest (a.put o.dst (.agg cs)) w) : wpList P ops Q (o :: rest) a w :=
  wpList_plain hgd fun _ hK => oper_loadW T x ho g hx hT hb hn (hK _ _ h)
theorem wp_storeW (hgd : o.guard = none) (T : TypeId) (x y : Operand) (ho : o.op = .store T x y) (g : Nat) {t : TypeId} {cs cs' : Array Value} (hx : a.eval x = .pointer (some ⟨g, 0, none⟩)) (hy : a.eval y = .agg cs') {n : Nat} (hT : RowTy P T n) (hb : BlkIs w g t cs) (hn : cs.size = n)
    (hs : cs'.size = cs.size) (h1 : ∀ v ∈ cs'.toList, v.oneCell' = true) (h : wpList P ops Q rest (a.put o.dst undef) (w.setRow g cs')) : wpList P ops Q (o :: rest) a w :=
  wpList_plain hgd fun _ hK => oper_storeW T x y ho g hx hy hT hb hn hs h1 (hK _ _ h)
end
theorem results_cellW {fn : Func} {P : Program} {a : Act} {w : World} {g : Nat} {T t : TypeId} {cs : Array Value} (k : Tmp) (h : fn.results = #[.cell k T]) (hk : a.eval (.tmp k) = .pointer (some ⟨g, 0, none⟩)) {n : Nat} (hT : RowTy P T n) (hb : BlkIs w g t cs) (hn : cs.size = n) :
    (results fn a.tmps).run P w = .ok (.agg cs) w := by
  have e : a.tmps.getD k undef = .pointer (some ⟨g, 0, none⟩) := hk
  unfold results
  simp only [h]
  simp [← Array.getD_eq_getD_getElem?, e, asAddr, run_loadW (hn ▸ hT) hb, Result.andThen]
theorem results_cellW_tmp {fn : Func} {P : Program} {a : Act} {w : World} {g : Nat} {T t : TypeId} {cs : Array Value} {v : Value} (k m : Tmp) (h : fn.results = #[.cell k T, .tmp m]) (hk : a.eval (.tmp k) = .pointer (some ⟨g, 0, none⟩)) (hm : a.eval (.tmp m) = v) {n : Nat} (hT : RowTy P T n) (hb : BlkIs w g t cs) (hn : cs.size = n) :
    (results fn a.tmps).run P w = .ok (.tuple #[.agg cs, v]) w := by
  have e : a.tmps.getD k undef = .pointer (some ⟨g, 0, none⟩) := hk
  have e2 : a.tmps.getD m undef = v := hm
  unfold results
  simp only [h]
  simp [← Array.getD_eq_getD_getElem?, e, e2, asAddr, run_loadW (hn ▸ hT) hb, Result.andThen]
theorem b8_one (l : List UInt8) : ∀ v ∈ (l.map b8).toArray.toList, v.oneCell' = true := by
  intro v hv
  simp at hv
  obtain ⟨x, _, rfl⟩ := hv
  rfl
/-- The types of frames' sectors and heads. -/
theorem rowSector : RowTy Try.prog 236 64 := ⟨⟨_, Try.underlying236, rfl⟩, by kernel_rfl⟩
theorem rowHead : RowTy Try.prog 109 4 := ⟨⟨_, Try.underlying109, rfl⟩, by kernel_rfl⟩
end Go.Proofs.Ytlelckdcmlpmdaa
/- Maps that lie in a block: made, written, read. -/
namespace Go.Proofs.Ytlelckdcmlpmdaa
open Go Go.RowKit Lou

/-- The map's entries. -/
def MapIs (w : World) (r : Nat) (es : Array MapEntry) (clock : Nat) : Prop := w.heap[r]? = some (.map es clock)
theorem MapIs.lt {w : World} {r : Nat} {es : Array MapEntry} {clock : Nat} (h : MapIs w r es clock) : r < w.heap.size := (Array.getElem?_eq_some_iff.1 h).1
theorem MapIs.below {w w' : World} {B r : Nat} {es : Array MapEntry} {clock : Nat} (h : MapIs w r es clock) (hB : Below B w w') (hr : r < B) : MapIs w' r es clock := (hB.block r hr).trans h
theorem MapIs.grown {w w' : World} {r : Nat} {es : Array MapEntry} {clock : Nat} {row : Option Nat} (h : MapIs w r es clock) (hg : w.grownBy w' row) (hr : some r ≠ row) : MapIs w' r es clock := (hg.block r h.lt hr).trans h
/-- Another map in its place. -/
def setMap (w : World) (r : Nat) (es : Array MapEntry) (clock : Nat) : World := { w with heap := w.heap.setIfInBounds r (.map es clock) }
theorem MapIs.set {w : World} {r : Nat} {es : Array MapEntry} {clock : Nat} (h : MapIs w r es clock) (es' : Array MapEntry) (clock' : Nat) : MapIs (setMap w r es' clock') r es' clock' := (MapKept.heap_set (o' := .map es' clock') h).1
theorem setMap_grown {w : World} {r : Nat} {es : Array MapEntry} {clock : Nat} (h : MapIs w r es clock) (es' : Array MapEntry) (clock' : Nat) : w.grownBy (setMap w r es' clock') (some r) :=
  ⟨rfl, rfl, rfl, by simp [setMap], fun k _ hk => (MapKept.heap_set (o' := .map es' clock') h).2 k (fun e => hk (by rw [e]))⟩
theorem setMap_size (w : World) (r : Nat) (es : Array MapEntry) (clock : Nat) : (setMap w r es clock).heap.size = w.heap.size := by simp [setMap]
theorem setMap_below {w : World} {B r : Nat} {es : Array MapEntry} {clock : Nat} (h : MapIs w r es clock) (hB : B ≤ r) (es' : Array MapEntry) (clock' : Nat) : Below B w (setMap w r es' clock') :=
  ⟨rfl, rfl, rfl, by simp [setMap], fun k hk => (MapKept.heap_set (o' := .map es' clock') h).2 k (by omega)⟩
theorem MapIs.setOther {w : World} {r q : Nat} {es es0 : Array MapEntry} {clock clock0 : Nat} (h : MapIs w r es clock) (h0 : MapIs w q es0 clock0) (hq : r ≠ q) (es' : Array MapEntry) (clock' : Nat) : MapIs (setMap w q es' clock') r es clock := ((MapKept.heap_set (o' := .map es' clock') h0).2 r hq).trans h
theorem BlkIs.setMap {w : World} {g q : Nat} {t : TypeId} {cs : Array Value} {es0 : Array MapEntry} {clock0 : Nat} (h : BlkIs w g t cs) (h0 : MapIs w q es0 clock0) (es' : Array MapEntry) (clock' : Nat) : BlkIs (setMap w q es' clock') g t cs := by
  have hne : g ≠ q := by
    intro e
    subst e
    have h' : w.heap[g]? = some (.cells cs t (0, 0)) := h
    rw [show w.heap[g]? = some (.map es0 clock0) from h0] at h'
    cases h'
  exact ((MapKept.heap_set (o' := .map es' clock') h0).2 g hne).trans h

section
variable {P : Program} {w : World} {mty kt et : TypeId} {d : TypeDesc} {r clock : Nat} {es : Array MapEntry} {key val : Value}
theorem run_put_new (hm : P.underlying mty = some (.map kt et)) (hd : P.underlying kt = some d) (hk : MapKept.IsKey d key) (hb : MapIs w r es clock) (hf : Instr.findNow d key es.toList 0 = some none) :
    (Instr.mapUpdate mty (.map (some r)) key val).run P w = .ok () (setMap w r (es.push { key := key, val := val, born := clock }) (clock + 1)) := by
  have hc : (Instr.checkKey false 10000 kt key).run P w = .ok () w := MapKept.run_checkKey hd hk false 9999
  simp [Instr.mapUpdate, run_underlying hm, MapKept.run_getObj_map hb, hc, MapKept.run_findKey hd hf, MapKept.run_setObj_map _ hb, Result.andThen, setMap]
theorem run_get (hm : P.underlying mty = some (.map kt et)) (hd : P.underlying kt = some d) (hk : MapKept.IsKey d key) (hb : MapIs w r es clock) {i : Nat} {v : Value} (hf : Instr.findNow d key es.toList 0 = some (some (i, v))) :
    (Instr.lookup mty (.map (some r)) key false).run P w = .ok v w := by
  have hc : (Instr.checkKey es.isEmpty 10000 kt key).run P w = .ok () w := MapKept.run_checkKey hd hk _ 9999
  simp [Instr.lookup, run_underlying hm, MapKept.run_getObj_map hb, hc, MapKept.run_findKey hd hf, Result.andThen]
end
section
variable {P : Program} {w : World} {ops : Array Oper} {rest : List Oper} {o : Oper} {a : Act} {Q : Exit → Act → World → Prop} {mty kt et : TypeId} {d : TypeDesc} {r clock : Nat} {es : Array MapEntry} {key val : Value}
theorem wp_makeMap (hg : o.guard = none) (ho : o.op = .makeMap mty none) (h : MapIs (w.alloc (.map #[] 0)) w.heap.size #[] 0 → wpList P ops Q rest (a.put o.dst (.map (some w.heap.size))) (w.alloc (.map #[] 0))) : wpList P ops Q (o :: rest) a w :=
  wpList_plain hg fun _ hK => by
    unfold Oper.wp execOp
    simp only [ho, Option.map_none, run_makeMap, Sem.run_bind, Result.andThen_ok, Sem.run_pure]
    exact hK _ _ (h (heap_alloc_new w _))
theorem wp_put_new (hg : o.guard = none) (m x y : Operand) (ho : o.op = .insert mty m x y ∨ o.op = .mapUpdate mty m x y) (hm : P.underlying mty = some (.map kt et)) (hd : P.underlying kt = some d) (hk : MapKept.IsKey d key) (e1 : a.eval m = .map (some r)) (e2 : a.eval x = key) (e3 : a.eval y = val)
    (hb : MapIs w r es clock) (hf : Instr.findNow d key es.toList 0 = some none)
    (h : ∀ w', MapIs w' r (es.push { key := key, val := val, born := clock }) (clock + 1) → w.grownBy w' (some r) → wpList P ops Q rest (a.put o.dst undef) w') : wpList P ops Q (o :: rest) a w :=
  wpList_plain hg fun _ hK => by
    unfold Oper.wp execOp
    rcases ho with ho | ho <;> simp only [ho, e1, e2, e3, run_put_new hm hd hk hb hf, Sem.run_bind, Result.andThen_ok, Sem.run_pure] <;> exact hK _ _ (h _ (hb.set _ _) (setMap_grown hb _ _))
theorem BlkIs.grownMap {w w' : World} {g r : Nat} {t : TypeId} {cs : Array Value} {es : Array MapEntry} {clock : Nat} (h : BlkIs w g t cs) (hm : MapIs w r es clock) (hg : w.grownBy w' (some r)) : BlkIs w' g t cs := by
  refine h.grown hg (fun e => ?_)
  injection e with e
  subst e
  have h' : w.heap[g]? = some (.cells cs t (0, 0)) := h
  rw [show w.heap[g]? = some (.map es clock) from hm] at h'
  cases h'
end
end Go.Proofs.Ytlelckdcmlpmdaa
/- octet.ReadNumber: it reads the number with whose bytes these begin. -/
namespace Go.Proofs.Ytlelckdcmlpmdaa
open Go Go.RowKit Lou

/-- What a number's reading answers. -/
def rdV (l : List UInt8) : Value :=
  match rd l with
  | some (n, k) => .tuple #[.int .u64 (n : Int), .int .i64 (k : Int), .int .i64 0]
  | none => .tuple #[.int .u64 0, .int .i64 0, .int .i64 130]
theorem rdV_some {l : List UInt8} {n k : Nat} (h : rd l = some (n, k)) : rdV l = .tuple #[.int .u64 (n : Int), .int .i64 (k : Int), .int .i64 0] := by unfold rdV; rw [h]
theorem rdV_none {l : List UInt8} (h : rd l = none) : rdV l = .tuple #[.int .u64 0, .int .i64 0, .int .i64 130] := by unfold rdV; rw [h]

/-- k bytes are read. -/
def RdAt (l : List UInt8) (acc k : Nat) : Prop := rdF (10 - k) k acc (l.drop k) = rd l ∧ acc < 128 ^ k ∧ k ≤ 10
theorem RdAt.start (l : List UInt8) : RdAt l 0 0 := ⟨rfl, by simp, by omega⟩
theorem RdAt.unfold {l : List UInt8} {acc k : Nat} (h : RdAt l acc k) (hk : k < l.length) (h10 : k < 10) :
    rd l = if k = 9 ∧ 1 < l[k].toNat then none else if 128 ≤ l[k].toNat then rdF (10 - (k + 1)) (k + 1) (acc + l[k].toNat % 128 * 128 ^ k) (l.drop (k + 1))
      else if l[k].toNat = 0 ∧ 0 < k then none else some (acc + l[k].toNat % 128 * 128 ^ k, k + 1) := by
  rw [← h.1, List.drop_eq_getElem_cons hk, show 10 - k = (10 - (k + 1)) + 1 from by omega]
  rfl
theorem RdAt.out {l : List UInt8} {acc k : Nat} (h : RdAt l acc k) (hk : l.length ≤ k ∨ 10 ≤ k) : rd l = none := by
  rw [← h.1]
  rcases hk with hk | hk
  · rw [List.drop_eq_nil_of_le hk]
    cases 10 - k <;> rfl
  · rw [show 10 - k = 0 from by omega]
    rfl
theorem RdAt.next {l : List UInt8} {acc k : Nat} (h : RdAt l acc k) (hk : k < l.length) (h9 : k < 9) (hc : 128 ≤ l[k].toNat) : RdAt l (acc + l[k].toNat % 128 * 128 ^ k) (k + 1) := by
  refine ⟨?_, ?_, by omega⟩
  · rw [h.unfold hk (by omega), if_neg (by omega), if_pos hc]
  · have h1 : l[k].toNat % 128 ≤ 127 := by omega
    have h2 : l[k].toNat % 128 * 128 ^ k ≤ 127 * 128 ^ k := Nat.mul_le_mul_right _ h1
    have h3 : 128 ^ (k + 1) = 128 ^ k * 128 := Nat.pow_succ ..
    have := h.2.1
    omega

/-- One byte laid on: what the program's or makes. -/
theorem rd_or {acc c k : Nat} (hc : c < 256) (hk : k < 10) (h9 : k = 9 → c ≤ 1) (ha : acc < 128 ^ k) :
    bits .or .u64 (acc : Int) (IntKind.u64.wrap (IntKind.u64.wrap (bits .andNot .u8 (c : Int) 128) * 2 ^ (7 * k))) = ((acc + c % 128 * 128 ^ k : Nat) : Int) := by
  have e1 : bits .andNot .u8 (c : Int) 128 = ((c % 128 : Nat) : Int) := by
    have := u8_andNot_nat c 128 hc (by omega)
    have h2 : (((128 : Nat)) : Int) = 128 := rfl
    rw [h2] at this
    rw [this, show 255 - 128 = 2 ^ 7 - 1 from rfl, Nat.and_two_pow_sub_one_eq_mod]
  have h128 : (128 : Nat) ^ k = 2 ^ (7 * k) := by rw [Nat.pow_mul]
  have hp : 128 ^ k ≤ 128 ^ 9 := Nat.pow_le_pow_right (by omega) (by omega)
  have hb : c % 128 * 128 ^ k < 18446744073709551616 := by
    by_cases e9 : k = 9
    · have : c % 128 * 128 ^ k ≤ 1 * 128 ^ 9 := by subst e9; exact Nat.mul_le_mul_right _ (by have := h9 rfl; omega)
      simp at this
      omega
    · have h8 : 128 ^ k ≤ 128 ^ 8 := Nat.pow_le_pow_right (by omega) (by omega)
      have : c % 128 * 128 ^ k ≤ 127 * 128 ^ 8 := Nat.mul_le_mul (by omega) h8
      simp at this
      omega
  have e2 : IntKind.u64.wrap ((c % 128 : Nat) : Int) = ((c % 128 : Nat) : Int) := by
    rw [IntKind.wrap_u64]; omega
  have e3 : (((c % 128 : Nat) : Int)) * 2 ^ (7 * k) = ((c % 128 * 128 ^ k : Nat) : Int) := by
    rw [h128]; push_cast; rfl
  have e4 : IntKind.u64.wrap ((c % 128 * 128 ^ k : Nat) : Int) = ((c % 128 * 128 ^ k : Nat) : Int) := by
    rw [IntKind.wrap_u64]; omega
  rw [e1, e2, e3, e4, u64_or_nat _ _ (by simp at hp; omega) hb]
  congr 1
  rw [Nat.or_comm, nat_join (7 * k) _ _ (by rw [h128]; exact Nat.mul_mod_left _ _) (by rw [← h128]; exact ha)]
  omega

/-- Behind a jump to the label: the frame is whatever it is. -/
def RdNone (l : List UInt8) (a : Act) : Prop := rd l = none ∧ ∃ u0 u1 u2 u3 u4 u5 u6 u7 u8 u9 u10 u11 u12 u13 u14 u15 u16 u17 u18 u19 u20 u21 u22 u23 u24 u25 u26 u27 u28 u29 u30 u31 u32 u33 u34 u35 u36 u37 u38 u39 u40 u41 u42 u43 : Value, a = { tmps := #[u0, u1, u2, u3, u4, u5, u6, u7, u8, u9, u10, u11, u12, u13, u14, u15, u16, u17, u18, u19, u20, u21, u22, u23, u24, u25, u26, u27, u28, u29, u30, u31, u32, u33, u34, u35, u36, u37, u38, u39, u40, u41, u42, u43], defers := [] }

set_option maxRecDepth 100000 in
set_option maxHeartbeats 4000000 in
theorem readNumber_some (w : World) (g o c : Nat) (l : List UInt8) (hl : 0 < l.length) (hc : l.length ≤ c) (hm : c ≤ 9223372036854775807) (hcell : ∀ j (h : j < l.length), w.cell? ⟨g, o + j, none⟩ = some (.int .u8 (l[j].toNat : Int))) :
    Calls Try.prog 38 #[.slice (some ⟨g, o, none⟩) l.length c] w fun e w' => e = .returned (rdV l) ∧ w = w' := by
  go_enter Try.func38, Try.ntmps38
  go_wp2_with fail
  refine wp_scope_jumps (rest := ?rest) 0 (fun a w' => RdNone l a ∧ w = w') (fun _ _ => 0) ?hf ?first ?pass
  case hf => exact rfl
  case pass =>
    rintro a w' ⟨⟨hn, u0, u1, u2, u3, u4, u5, u6, u7, u8, u9, u10, u11, u12, u13, u14, u15, u16, u17, u18, u19, u20, u21, u22, u23, u24, u25, u26, u27, u28, u29, u30, u31, u32, u33, u34, u35, u36, u37, u38, u39, u40, u41, u42, u43, rfl⟩, rfl⟩
    have hN := Lib.hid (rdV_none hn)
    clear hn
    go_wp2
    simp only [Exit.jump]
    go_wp2
    go_ret3
    exact ⟨by rw [hN.out]; rfl, rfl⟩
  case first =>
    go_wp2_with fail
    all_goals
      go_loop [2, 13] (fun a i => ∃ (acc k : Nat), i = .int .i64 k ∧ k ≤ l.length ∧ k ≤ 10 ∧ a = .int .u64 acc ∧ Hid (RdAt l acc k)) (fun _ i => l.length - (intOf i).toNat)
      case atStart => exact ⟨0, 0, rfl, by omega, by omega, rfl, Lib.hid (RdAt.start l)⟩
      case round =>
        obtain ⟨acc, k, rfl, hk, hk10, rfl, hR⟩ := hrel
        by_cases hlt : k < l.length ∧ k < 10
        · obtain ⟨h1, h2⟩ := hlt
          have hck := hcell k h1
          clear hcell
          have hbd := (l[k]).toNat_lt
          have hu := Lib.hid (hR.out.unfold h1 h2)
          by_cases hA : k = 9 ∧ 1 < l[k].toNat
          · have hn : Hid (rd l = none) := by have := hu.out; rw [if_pos hA] at this; exact Lib.hid this
            clear hu hR
            obtain ⟨h9, hA⟩ := hA
            subst h9
            go_wp2_with fail
            go_step3
            exact ⟨rfl, ⟨hn.out, by repeat (first | exact rfl | apply Exists.intro)⟩, rfl⟩
          · by_cases hB : 128 ≤ l[k].toNat
            · have hnext := Lib.hid (hR.out.next h1 (by omega) hB)
              have hor := rd_or hbd h2 (by omega) hR.out.2.1
              clear hu hR
              have h9 : ¬ (k : Int) = 9 := by omega
              clear hA
              go_wp2_with fail
              refine ⟨⟨_, k + 1, by go_num, by omega, by omega, rfl, hnext⟩, by simp [intOf]; omega⟩
            · by_cases hC : l[k].toNat = 0 ∧ 0 < k
              · have hn : Hid (rd l = none) := by have := hu.out; rw [if_neg hA, if_neg hB, if_pos hC] at this; exact Lib.hid this
                clear hu hR
                obtain ⟨h0, hk0⟩ := hC
                have h9 : (k : Int) < 9 ∨ (k : Int) = 9 := by omega
                clear hA
                rcases h9 with h9 | h9
                · go_wp2_with fail
                  go_step3
                  exact ⟨rfl, ⟨hn.out, by repeat (first | exact rfl | apply Exists.intro)⟩, rfl⟩
                · obtain rfl : k = 9 := by omega
                  go_wp2_with fail
                  go_step3
                  exact ⟨rfl, ⟨hn.out, by repeat (first | exact rfl | apply Exists.intro)⟩, rfl⟩
              · have hn : Hid (rd l = some (acc + l[k].toNat % 128 * 128 ^ k, k + 1)) := by have := hu.out; rw [if_neg hA, if_neg hB, if_neg hC] at this; exact Lib.hid this
                have hor := rd_or hbd h2 (by omega) hR.out.2.1
                have hA9 : k = 9 → l[k].toNat ≤ 1 := by omega
                clear hu hR
                have hv := Lib.hid (rdV_some hn.out)
                clear hn
                have hE : ∀ x : Value, x = rdV l → Ending.returned x = Ending.returned (rdV l) := fun x hx => by rw [hx]
                have hE2 := Lib.hid hE
                have hC' : l[k].toNat < 1 → k ≤ 0 := by omega
                clear hE hA hC
                by_cases h9 : k < 9
                · clear hA9
                  by_cases h0 : l[k].toNat < 1
                  · have hk0 : k ≤ 0 := hC' h0
                    have hb0 : ((l[k].toNat : Int) == 0) = true := by rw [beq_iff_eq]; omega
                    clear hC' h0
                    go_wp2_with fail
                    all_goals
                      simp only [Exit.jump]
                      go_wp2
                      go_ret3
                      exact ⟨hE2.out _ (by rw [hv.out]; rfl), rfl⟩
                  · clear hC'
                    go_wp2_with fail
                    all_goals
                      simp only [Exit.jump]
                      go_wp2
                      go_ret3
                      exact ⟨hE2.out _ (by rw [hv.out]; rfl), rfl⟩
                · have hc1 : l[k].toNat ≤ 1 := hA9 (by omega)
                  have hc2 : 1 ≤ l[k].toNat := by
                    rcases Nat.lt_or_ge l[k].toNat 1 with h | h
                    · have := hC' h; omega
                    · exact h
                  have hb9 : ((k : Int) == 9) = true := by rw [beq_iff_eq]; omega
                  clear hC' hA9
                  go_wp2_with fail
                  all_goals
                    simp only [Exit.jump]
                    go_wp2
                    go_ret3
                    exact ⟨hE2.out _ (by rw [hv.out]; rfl), rfl⟩
        · have hn := Lib.hid (rdV_none (hR.out.out (by omega)))
          clear hcell hR
          go_wp2_with fail
          go_step3
          go_wp2_with fail
          simp only [Exit.jump]
          go_wp2
          go_ret3
          exact ⟨by rw [hn.out]; rfl, rfl⟩

set_option maxRecDepth 100000 in
set_option maxHeartbeats 1000000 in
theorem readNumber_empty (w : World) (A : Option Addr) (c : Nat) :
    Calls Try.prog 38 #[.slice A 0 c] w fun e w' => e = .returned (rdV []) ∧ w = w' := by
  go_enter Try.func38, Try.ntmps38
  go_wp2_with fail
  refine wp_scope_straight ?_
  go_wp2_with fail
  refine wp_loop_rounds 1 ?_
  rw [rounds_succ]
  go_wp2_with fail
  go_step3
  go_wp2_with fail
  rw [Exit.noGoto_ret]
  go_wp2
  go_ret3
  exact ⟨rfl, rfl⟩

/-- octet.ReadNumber, whatever bytes. -/
theorem readNumber_gives (w : World) (B : Nat) (A : Option Addr) (c : Nat) (l : List UInt8) (h : InB w B A c l) :
    Calls Try.prog 38 #[.slice A l.length c] w fun e w' => e = .returned (rdV l) ∧ w = w' := by
  rcases Nat.eq_zero_or_pos l.length with h0 | h0
  · obtain rfl := List.eq_nil_of_length_eq_zero h0
    exact readNumber_empty w A c
  · obtain ⟨g, o, rfl, _, hc⟩ := h.lies h0
    exact readNumber_some w g o c l h0 h.le h.max hc

end Go.Proofs.Ytlelckdcmlpmdaa
/- louperef03.Number, ReadNumber: the same bytes, the same reading. -/
namespace Go.Proofs.Ytlelckdcmlpmdaa
open Go Go.RowKit Lou

set_option maxRecDepth 100000 in
set_option maxHeartbeats 1000000 in
theorem refNumber_gives (n0 : Nat) (hn : n0 < 2^64) (w : World) : Calls Try.prog 42 #[.int .u64 n0] w (GivesB w (num n0)) := by
  obtain ⟨i0, hi, hz0, hz1, hz2⟩ := info_parts inf_u8
  have hs := Lib.hid (NumAt.start hn)
  clear hn
  go_enter Try.func42, Try.ntmps42
  go_wp2_with fail
  go_loopw [0, 3] (fun a v wr => ∃ (n f : Nat) (pre : List UInt8), Hid (NumAt n0 n f pre) ∧ pre.length ≤ 10 ∧ a = .int .u64 n ∧ OwnB wr w.heap.size v pre ∧ Below w.heap.size w wr)
    (fun a _ _ => (intOf a).toNat)
  case atStart => exact ⟨n0, 10, [], hs, by simp, rfl, OwnB.nil _ _, Below.refl _ _⟩
  case round =>
    obtain ⟨n, f, pre, hN, hl, rfl, hown, hB⟩ := hrel
    have hBs := hB.size
    by_cases hlt : n < 128
    · go_wp2_with (at_builtin; refine wpList_append_own _ rfl _ _ 30 rfl w.heap.size 5 i0 (.int .u8 0) 1 1 Try.underlying30 hi hz0 hz1 hz2 rfl (by decide) _ _ _ rfl (World.ownsRow.alloc hown _) ⟨wr.heap.size, 0, none⟩ 1 1 _ rfl rfl (cell_one_new _ _ _) (by simp [Value.oneCell']) (by unfold maxLen; omega) (by omega) (by simp; omega) ?_; intro v' w1 hown' hgrow _)
      go_ret
      have e1 := hN.out.last hlt
      refine ⟨v', rfl, ?_, (hB.alloc hBs _).grown hgrow (by simp; omega) (fun k hk => (World.ownsRow.lt hown k hk).1)⟩
      rw [map_snoc_b8 pre n (by omega), e1] at hown'
      unfold OwnB
      rw [show (num n0).length = pre.length + 1 from by rw [← e1]; simp]
      exact hown'
    · have hq : IntKind.u64.wrap ((n : Int) / 128) = (n : Int) / 128 := by
        have h64 := hN.out.lt
        rw [IntKind.wrap_u64]
        omega
      go_wp2_with (at_builtin; refine wpList_append_own _ rfl _ _ 30 rfl w.heap.size 5 i0 (.int .u8 0) 1 1 Try.underlying30 hi hz0 hz1 hz2 rfl (by decide) _ _ _ rfl (World.ownsRow.alloc hown _) ⟨wr.heap.size, 0, none⟩ 1 1 _ rfl rfl (cell_one_new _ _ _) (by simp [Value.oneCell']) (by unfold maxLen; omega) (by omega) (by simp; omega) ?_; intro v' w1 hown' hgrow _)
      have hNx := hN.out.next (by omega)
      refine ⟨⟨n / 128, f - 1, pre ++ [UInt8.ofNat (n % 128 + 128)], Lib.hid hNx, ?_, by go_num, ?_, ?_⟩, by simp [intOf]; omega⟩
      · have := hNx.2.2.2; omega
      · rw [show ((n : Int) % 128 + 128) = ((n % 128 + 128 : Nat) : Int) from by omega, map_snoc_b8 pre _ (by omega)] at hown'
        unfold OwnB
        simpa using hown'
      · exact (hB.alloc hBs _).grown hgrow (by simp; omega) (fun k hk => (World.ownsRow.lt hown k hk).1)

def unitAt (k : Nat) : Nat := 128 ^ (min k 9)

theorem p63 : (128 : Nat) ^ 9 = 9223372036854775808 := by decide
theorem ref_add {acc c k un : Nat} (hc : c < 256) (hk : k < 10) (h9 : k = 9 → c ≤ 1) (ha : acc < 128 ^ k) (hu : un = unitAt k) :
    IntKind.u64.wrap ((acc : Int) + IntKind.u64.wrap (((c : Int) % 128) * (un : Int))) = ((acc + c % 128 * 128 ^ k : Nat) : Int) := by
  have e0 : un = 128 ^ k := by rw [hu, unitAt, show min k 9 = k from by omega]
  have hp : 128 ^ k ≤ 128 ^ 9 := Nat.pow_le_pow_right (by omega) (by omega)
  rw [p63] at hp
  have hb : acc + c % 128 * 128 ^ k < 18446744073709551616 := by
    by_cases e9 : k = 9
    · have h1 : c % 128 * 128 ^ k ≤ 1 * 128 ^ 9 := by subst e9; exact Nat.mul_le_mul_right _ (by have := h9 rfl; omega)
      rw [p63] at h1
      omega
    · have h8 : 128 ^ k ≤ 128 ^ 8 := Nat.pow_le_pow_right (by omega) (by omega)
      have h1 : c % 128 * 128 ^ k ≤ 127 * 128 ^ 8 := Nat.mul_le_mul (by omega) h8
      simp at h1 h8
      omega
  have e1 : ((c : Int) % 128) * (un : Int) = ((c % 128 * 128 ^ k : Nat) : Int) := by rw [e0]; push_cast; rfl
  rw [e1, IntKind.wrap_u64, IntKind.wrap_u64]
  omega

theorem ref_unit {k un : Nat} (hk : k < 9) (hu : un = unitAt k) : IntKind.u64.wrap ((un : Int) * 128) = ((unitAt (k + 1) : Nat) : Int) := by
  have e0 : un = 128 ^ k := by rw [hu, unitAt, show min k 9 = k from by omega]
  have e1 : unitAt (k + 1) = 128 ^ k * 128 := by rw [unitAt, show min (k + 1) 9 = k + 1 from by omega, Nat.pow_succ]
  have hp : 128 ^ (k + 1) ≤ 128 ^ 9 := Nat.pow_le_pow_right (by omega) (by omega)
  rw [p63, Nat.pow_succ] at hp
  rw [e1, e0, IntKind.wrap_u64]
  omega

set_option maxRecDepth 100000 in
set_option maxHeartbeats 4000000 in
theorem refReadNumber_some (w : World) (g o c : Nat) (l : List UInt8) (hl : 0 < l.length) (hc : l.length ≤ c) (hm : c ≤ 9223372036854775807) (hcell : ∀ j (h : j < l.length), w.cell? ⟨g, o + j, none⟩ = some (.int .u8 (l[j].toNat : Int))) :
    Calls Try.prog 31 #[.slice (some ⟨g, o, none⟩) l.length c] w fun e w' => e = .returned (rdV l) ∧ w = w' := by
  go_enter Try.func31, Try.ntmps31
  go_wp2_with fail
  go_loop [5, 6, 7] (fun a u i => ∃ (acc un k : Nat), i = .int .i64 k ∧ k ≤ l.length ∧ k ≤ 10 ∧ a = .int .u64 acc ∧ u = .int .u64 un ∧ Hid (RdAt l acc k ∧ un = unitAt k)) (fun _ _ i => l.length - (intOf i).toNat)
  case atStart => exact ⟨0, 1, 0, rfl, by omega, by omega, rfl, rfl, Lib.hid ⟨RdAt.start l, rfl⟩⟩
  case round =>
    obtain ⟨acc, un, k, rfl, hk, hk10, rfl, rfl, hR⟩ := hrel
    by_cases hlt : k < l.length ∧ k < 10
    · obtain ⟨h1, h2⟩ := hlt
      have hck := hcell k h1
      clear hcell
      have hbd := (l[k]).toNat_lt
      have hu := Lib.hid (hR.out.1.unfold h1 h2)
      by_cases hA : k = 9 ∧ 1 < l[k].toNat
      · have hn := Lib.hid (rdV_none (by have := hu.out; rwa [if_pos hA] at this))
        clear hu hR
        have hb9 : ((k : Int) == 9) = true := by rw [beq_iff_eq]; omega
        have hc1 := hA.2
        clear hA
        go_wp2_with fail
        go_ret3
        exact ⟨by rw [hn.out]; rfl, rfl⟩
      · have hadd := ref_add hbd h2 (by omega) hR.out.1.2.1 hR.out.2
        by_cases hB : 128 ≤ l[k].toNat
        · have h9 : k < 9 := by omega
          have hnext := Lib.hid (hR.out.1.next h1 h9 hB)
          have hun := ref_unit h9 hR.out.2
          clear hu hR hA
          go_wp2_with fail
          refine ⟨⟨_, _, k + 1, by go_num, by omega, by omega, rfl, rfl, Lib.hid ⟨hnext.out, rfl⟩⟩, by simp [intOf]; omega⟩
        · by_cases hC : l[k].toNat = 0 ∧ 0 < k
          · have hn := Lib.hid (rdV_none (by have := hu.out; rwa [if_neg hA, if_neg hB, if_pos hC] at this))
            obtain ⟨h0, hk0⟩ := hC
            have hc1 : l[k].toNat < 1 := by omega
            have hb0 : (((l[k].toNat : Int) % 128) == 0) = true := by rw [beq_iff_eq]; omega
            clear hu hR hA h0
            by_cases h9 : k < 9
            · go_wp2_with fail
              go_ret3
              exact ⟨by rw [hn.out]; rfl, rfl⟩
            · have hb9 : ((k : Int) == 9) = true := by rw [beq_iff_eq]; omega
              go_wp2_with fail
              go_ret3
              exact ⟨by rw [hn.out]; rfl, rfl⟩
          · have hv := Lib.hid (rdV_some (n := acc + l[k].toNat % 128 * 128 ^ k) (k := k + 1) (by have := hu.out; rwa [if_neg hA, if_neg hB, if_neg hC] at this))
            have hA9 : k = 9 → l[k].toNat ≤ 1 := by omega
            have hC' : l[k].toNat < 1 → k ≤ 0 := by omega
            clear hu hR hA hC
            by_cases h9 : k < 9
            · clear hA9
              by_cases h0 : l[k].toNat < 1
              · have hk0 : k ≤ 0 := hC' h0
                have hb0 : (((l[k].toNat : Int) % 128) == 0) = true := by rw [beq_iff_eq]; omega
                clear hC' h0
                go_wp2_with fail
                go_ret3
                exact ⟨by rw [hv.out]; rfl, rfl⟩
              · have hb0 : (((l[k].toNat : Int) % 128) == 0) = false := by rw [beq_eq_false_iff_ne]; omega
                clear hC'
                go_wp2_with fail
                go_ret3
                exact ⟨by rw [hv.out]; rfl, rfl⟩
            · have hc1 : l[k].toNat ≤ 1 := hA9 (by omega)
              have hc2 : 1 ≤ l[k].toNat := by
                rcases Nat.lt_or_ge l[k].toNat 1 with h | h
                · have := hC' h; omega
                · exact h
              have hb9 : ((k : Int) == 9) = true := by rw [beq_iff_eq]; omega
              have hb0 : (((l[k].toNat : Int) % 128) == 0) = false := by rw [beq_eq_false_iff_ne]; omega
              clear hC' hA9
              go_wp2_with fail
              go_ret3
              exact ⟨by rw [hv.out]; rfl, rfl⟩
    · have hn := Lib.hid (rdV_none (hR.out.1.out (by omega)))
      clear hcell hR
      by_cases hlt2 : k < l.length
      · go_wp2_with fail
        go_ret3
        exact ⟨by rw [hn.out]; rfl, rfl⟩
      · go_wp2_with fail
        go_ret3
        exact ⟨by rw [hn.out]; rfl, rfl⟩

set_option maxRecDepth 100000 in
set_option maxHeartbeats 1000000 in
theorem refReadNumber_empty (w : World) (A : Option Addr) (c : Nat) :
    Calls Try.prog 31 #[.slice A 0 c] w fun e w' => e = .returned (rdV []) ∧ w = w' := by
  go_enter Try.func31, Try.ntmps31
  go_wp2_with fail
  refine wp_loop_rounds 1 ?_
  rw [rounds_succ]
  go_wp2_with fail
  go_ret3
  exact ⟨rfl, rfl⟩

/-- louperef03.ReadNumber, whatever bytes. -/
theorem refReadNumber_gives (w : World) (B : Nat) (A : Option Addr) (c : Nat) (l : List UInt8) (h : InB w B A c l) :
    Calls Try.prog 31 #[.slice A l.length c] w fun e w' => e = .returned (rdV l) ∧ w = w' := by
  rcases Nat.eq_zero_or_pos l.length with h0 | h0
  · obtain rfl := List.eq_nil_of_length_eq_zero h0
    exact refReadNumber_empty w A c
  · obtain ⟨g, o, rfl, _, hc⟩ := h.lies h0
    exact refReadNumber_some w g o c l h0 h.le h.max hc
end Go.Proofs.Ytlelckdcmlpmdaa
/- octet.ReadFour, ReadEight and what they call; louperef03.ReadFixed. -/
namespace Go.Proofs.Ytlelckdcmlpmdaa
open Go Go.RowKit Lou

/-- A reader: its one field, in a block of the call's own. -/
theorem has_gives (w : World) (g o : Nat) (A : Option Addr) (len c n : Nat) (hlen : len ≤ 9223372036854775807) (hc : w.cell? ⟨g, o, none⟩ = some (.slice A len c)) :
    Calls Try.prog 102 #[.pointer (some ⟨g, o, none⟩), .int .u64 n] w fun e w' => e = .returned (.bool (decide (n ≤ len))) ∧ w = w' := by
  go_enter Try.func102, Try.ntmps102
  go_wp2
  go_ret
  exact ⟨rfl, rfl⟩

theorem take_gives (w : World) (g o : Nat) (A : Option Addr) (len c n : Nat) (hlen : len ≤ c) (hcc : c ≤ 9223372036854775807) (hn : n ≤ len) (hc : w.cell? ⟨g, o, none⟩ = some (.slice A len c)) (hf : w.frozen? ⟨g, o, none⟩ = false) :
    Calls Try.prog 103 #[.pointer (some ⟨g, o, none⟩), .int .i64 n] w fun e w' => e = .returned (.slice A n n) ∧ w.setCell ⟨g, o, none⟩ (.slice (cutA A c n) (len - n) (c - n)) = w' := by
  by_cases hcn : c = n
  · obtain rfl : len = c := by omega
    subst hcn
    go_enter Try.func103, Try.ntmps103
    go_wp2
    go_ret
    refine ⟨rfl, ?_⟩
    simp [cutA]
  · go_enter Try.func103, Try.ntmps103
    go_wp2
    go_ret
    refine ⟨rfl, ?_⟩
    simp [cutA, hcn]

theorem rfix_snoc (l : List UInt8) (c : UInt8) : rfix (l ++ [c]) = 256 * rfix l + c.toNat := by simp [rfix]
theorem rfix_take_succ {l : List UInt8} {k : Nat} (hk : k < l.length) : rfix (l.take (k + 1)) = 256 * rfix (l.take k) + l[k].toNat := by
  rw [List.take_succ_eq_append_getElem hk, rfix_snoc]
theorem rfix_take_lt {l : List UInt8} {k m : Nat} (hk : k ≤ m) (hm : m ≤ 8) : rfix (l.take k) < 18446744073709551616 := by
  have h1 := rfix_lt (l.take k)
  have h2 : 256 ^ (l.take k).length ≤ 256 ^ 8 := Nat.pow_le_pow_right (by omega) (by simp; omega)
  have h3 : (256 : Nat) ^ 8 = 18446744073709551616 := by decide
  omega
theorem rfix_mul {l : List UInt8} {k m : Nat} (hk : k < m) (hm : m ≤ 8) : IntKind.u64.wrap (256 * (rfix (l.take k) : Int)) = 256 * (rfix (l.take k) : Int) := by
  have h1 := rfix_lt (l.take k)
  have h2 : 256 ^ (l.take k).length ≤ 256 ^ 7 := Nat.pow_le_pow_right (by omega) (by simp; omega)
  have h3 : (256 : Nat) ^ 7 = 72057594037927936 := by decide
  rw [IntKind.wrap_u64]
  omega
theorem rfix_add {l : List UInt8} {k m : Nat} (hl : k < l.length) (hk : k < m) (hm : m ≤ 8) : IntKind.u64.wrap (256 * (rfix (l.take k) : Int) + (l[k].toNat : Int)) = (rfix (l.take (k + 1)) : Int) := by
  rw [rfix_take_succ hl, IntKind.wrap_u64]
  have h1 := rfix_take_lt (l := l) (show k + 1 ≤ m from hk) hm
  rw [rfix_take_succ hl] at h1
  omega
theorem rfix_or {l : List UInt8} {k m : Nat} (hl : k < l.length) (hk : k < m) (hm : m ≤ 8) : bits .or .u64 (IntKind.u64.wrap ((rfix (l.take k) : Int) * 256)) (l[k].toNat : Int) = (rfix (l.take (k + 1)) : Int) := by
  have h0 := rfix_mul (l := l) hk hm
  rw [Int.mul_comm, h0]
  have hc := l[k].toNat_lt
  have h1 := rfix_take_lt (l := l) (show k + 1 ≤ m from hk) hm
  rw [rfix_take_succ hl] at h1
  have h2 := u64_or_nat (256 * rfix (l.take k)) l[k].toNat (by omega) (by omega)
  rw [show 256 * (rfix (l.take k) : Int) = ((256 * rfix (l.take k) : Nat) : Int) from by omega, h2, rfix_take_succ hl]
  congr 1
  exact nat_join 8 _ _ (by omega) (by omega)

def fixV (m : Nat) (l : List UInt8) : Value := if l.length < m then .tuple #[.int .u64 0, .int .i64 130] else .tuple #[.int .u64 (rfix (l.take m) : Int), .int .i64 0]

set_option maxRecDepth 100000 in
set_option maxHeartbeats 1000000 in
theorem refReadFixed_gives (w : World) (B : Nat) (A : Option Addr) (c : Nat) (l : List UInt8) (m : Nat) (hm : m ≤ 8) (h : InB w B A c l) :
    Calls Try.prog 41 #[.slice A l.length c, .int .i64 m] w fun e w' => e = .returned (fixV m l) ∧ w = w' := by
  have hle := h.le
  have hmax := h.max
  unfold fixV
  by_cases hs : l.length < m
  · rw [if_pos hs]
    go_enter Try.func41, Try.ntmps41
    go_wp2_with fail
    go_ret2
    exact ⟨rfl, rfl⟩
  · rw [if_neg hs]
    go_enter Try.func41, Try.ntmps41
    go_wp2_with fail
    go_loop [6, 7] (fun s i => ∃ k : Nat, k ≤ m ∧ i = .int .i64 k ∧ s = .int .u64 (rfix (l.take k) : Int)) (fun _ i => m - (intOf i).toNat)
    case atStart => exact ⟨0, by omega, rfl, rfl⟩
    case round =>
      obtain ⟨k, hk, rfl, rfl⟩ := hrel
      by_cases hlt : k < m
      · have hkl : k < l.length := by omega
        obtain ⟨g, o, rfl, _, hc⟩ := h.lies (by omega)
        have hck := hc k hkl
        clear hc
        have hbd := (l[k]).toNat_lt
        have h1 := rfix_mul (l := l) hlt hm
        have h2 := rfix_add hkl hlt hm
        go_wp2_with fail
        refine ⟨⟨k + 1, by omega, by go_num, rfl⟩, by simp [intOf]; omega⟩
      · obtain rfl : k = m := by omega
        go_wp2_with fail
        go_ret2
        exact ⟨rfl, rfl⟩

set_option maxRecDepth 100000 in
set_option maxHeartbeats 1000000 in
theorem rnumber_gives (w : World) (g B : Nat) (A : Option Addr) (c : Nat) (l : List UInt8) (m : Nat) (hm : m ≤ 8) (hB : B ≤ g) (h : InB w B A c l) (hc : w.cell? ⟨g, 0, none⟩ = some (.slice A l.length c)) (hf : w.frozen? ⟨g, 0, none⟩ = false) :
    Calls Try.prog 104 #[.pointer (some ⟨g, 0, none⟩), .int .i64 m] w fun e w' => e = .returned (fixV m l) ∧ Below g w w' := by
  have hle := h.le
  have hmax := h.max
  unfold fixV
  by_cases hs : l.length < m
  · rw [if_pos hs]
    have hd : decide (m ≤ l.length) = false := by simp; omega
    go_enter Try.func104, Try.ntmps104
    go_wp2_with (first | (go_at_call 102; refine (has_gives _ g 0 A l.length c m (by omega) hc).mono ?_; rintro e w' ⟨rfl, rfl⟩))
    go_ret2
    exact ⟨rfl, Below.refl _ _⟩
  · rw [if_neg hs]
    have hd : decide (m ≤ l.length) = true := by simp; omega
    have hin : InB (w.setCell ⟨g, 0, none⟩ (.slice (cutA A c m) (l.length - m) (c - m))) B A c l := h.keep fun p hp => World.cell?_setCell_other w _ p _ (fun e => by subst e; simp at hp; omega)
    go_enter Try.func104, Try.ntmps104
    go_wp2_with (first | (go_at_call 102; refine (has_gives _ g 0 A l.length c m (by omega) hc).mono ?_; rintro e w' ⟨rfl, rfl⟩) | (go_at_call 103; refine (take_gives _ g 0 A l.length c m (by omega) (by omega) (by omega) hc hf).mono ?_; rintro e w' ⟨rfl, rfl⟩))
    clear hc
    have hb : Below g w (w.setCell ⟨g, 0, none⟩ (.slice (cutA A c m) (l.length - m) (c - m))) := (Below.refl g w).setCell (p := ⟨g, 0, none⟩) (Nat.le_refl g) _
    generalize w.setCell ⟨g, 0, none⟩ (.slice (cutA A c m) (l.length - m) (c - m)) = W at *
    go_loop [4, 21] (fun s i => ∃ k : Nat, k ≤ m ∧ i = .int .i64 k ∧ s = .int .u64 (rfix (l.take k) : Int)) (fun _ i => m - (intOf i).toNat)
    case atStart => exact ⟨0, by omega, rfl, rfl⟩
    case round =>
      obtain ⟨k, hk, rfl, rfl⟩ := hrel
      by_cases hlt : k < m
      · have hkl : k < l.length := by omega
        obtain ⟨g', o, rfl, _, hc⟩ := hin.lies (by omega)
        have hck := hc k hkl
        clear hc
        have hbd := (l[k]).toNat_lt
        have h1 := rfix_or hkl hlt hm
        go_wp2_with fail
        refine ⟨⟨k + 1, by omega, by go_num, rfl⟩, by simp [intOf]; omega⟩
      · obtain rfl : k = m := by omega
        go_wp2_with fail
        go_ret2
        exact ⟨rfl, hb⟩

def fixV32 (l : List UInt8) : Value := if l.length < 4 then .tuple #[.int .u32 0, .int .i64 130] else .tuple #[.int .u32 (rfix (l.take 4) : Int), .int .i64 0]

theorem fixV_lt {m : Nat} {l : List UInt8} (h : l.length < m) : fixV m l = .tuple #[.int .u64 0, .int .i64 130] := by unfold fixV; rw [if_pos h]
theorem fixV_ge {m : Nat} {l : List UInt8} (h : ¬ l.length < m) : fixV m l = .tuple #[.int .u64 (rfix (l.take m) : Int), .int .i64 0] := by unfold fixV; rw [if_neg h]
theorem fixV32_lt {l : List UInt8} (h : l.length < 4) : fixV32 l = .tuple #[.int .u32 0, .int .i64 130] := by unfold fixV32; rw [if_pos h]
theorem fixV32_ge {l : List UInt8} (h : ¬ l.length < 4) : fixV32 l = .tuple #[.int .u32 (rfix (l.take 4) : Int), .int .i64 0] := by unfold fixV32; rw [if_neg h]

set_option maxRecDepth 100000 in
theorem readEight_gives (w : World) (A : Option Addr) (c : Nat) (l : List UInt8) (h : InB w w.heap.size A c l) :
    Calls Try.prog 40 #[.slice A l.length c] w fun e w' => e = .returned (fixV 8 l) ∧ Below w.heap.size w w' := by
  have hb : Below w.heap.size w (w.alloc (Obj.cells #[Value.slice A l.length c] 196)) := (Below.refl _ _).alloc (Nat.le_refl _) _
  have H := rnumber_gives (w.alloc (Obj.cells #[Value.slice A l.length c] 196)) w.heap.size w.heap.size A c l 8 (by omega) (Nat.le_refl _) (h.below hb) (new_cell _ _ _) (new_free _ _ _ _)
  by_cases hs : l.length < 8
  · rw [fixV_lt hs] at H ⊢
    go_enter Try.func40, Try.ntmps40
    go_wp2_with (go_at_call 104; refine H.mono ?_; rintro e w' ⟨rfl, hb2⟩)
    go_ret2
    exact ⟨rfl, hb.trans hb2⟩
  · rw [fixV_ge hs] at H ⊢
    go_enter Try.func40, Try.ntmps40
    go_wp2_with (go_at_call 104; refine H.mono ?_; rintro e w' ⟨rfl, hb2⟩)
    go_ret2
    exact ⟨rfl, hb.trans hb2⟩

set_option maxRecDepth 100000 in
theorem readFour_gives (w : World) (A : Option Addr) (c : Nat) (l : List UInt8) (h : InB w w.heap.size A c l) :
    Calls Try.prog 39 #[.slice A l.length c] w fun e w' => e = .returned (fixV32 l) ∧ Below w.heap.size w w' := by
  have hb : Below w.heap.size w (w.alloc (Obj.cells #[Value.slice A l.length c] 196)) := (Below.refl _ _).alloc (Nat.le_refl _) _
  have H := rnumber_gives (w.alloc (Obj.cells #[Value.slice A l.length c] 196)) w.heap.size w.heap.size A c l 4 (by omega) (Nat.le_refl _) (h.below hb) (new_cell _ _ _) (new_free _ _ _ _)
  by_cases hs : l.length < 4
  · rw [fixV_lt hs] at H
    rw [fixV32_lt hs]
    go_enter Try.func39, Try.ntmps39
    go_wp2_with (go_at_call 104; refine H.mono ?_; rintro e w' ⟨rfl, hb2⟩)
    go_ret2
    exact ⟨rfl, hb.trans hb2⟩
  · rw [fixV_ge hs] at H
    rw [fixV32_ge hs]
    have h4 : rfix (l.take 4) < 4294967296 := by
      have h1 := rfix_lt (l.take 4)
      have h2 : 256 ^ (l.take 4).length ≤ 256 ^ 4 := Nat.pow_le_pow_right (by omega) (by simp; omega)
      have h3 : (256 : Nat) ^ 4 = 4294967296 := by decide
      omega
    go_enter Try.func39, Try.ntmps39
    go_wp2_with (go_at_call 104; refine H.mono ?_; rintro e w' ⟨rfl, hb2⟩)
    go_ret2
    exact ⟨rfl, hb.trans hb2⟩
end Go.Proofs.Ytlelckdcmlpmdaa
/- octet.String, ReadString; louperef03.String, ReadString. -/
namespace Go.Proofs.Ytlelckdcmlpmdaa
open Go Go.RowKit Lou

/-- A string's bytes. -/
def strL (l : List UInt8) : List UInt8 := num l.length ++ l

theorem OwnB.below {w0 w w' : World} {v : Value} {l : List UInt8} (h : OwnB w w0.heap.size v l) (hb : Below w0.heap.size w0 w) (hg : w.grownBy w' v.ownBlock) : Below w0.heap.size w0 w' :=
  hb.grown hg hb.size (fun k hk => (World.ownsRow.lt h k hk).1)

set_option maxRecDepth 100000 in
theorem string_gives (l : List UInt8) (hl : l.length ≤ 1000000000) (w : World) : Calls Try.prog 32 #[.string (str l)] w (GivesB w (strL l)) := by
  have hsz := str_size l
  have hn := num_length l.length
  go_enter Try.func32, Try.ntmps32
  go_wp2_with fail
  refine (number_gives l.length (by omega) _).mono ?_
  rintro e w1 ⟨v, rfl, hown, hB⟩
  go_wp2_with (at_builtin; refine wp_appS rfl _ _ rfl w.heap.size v (num l.length) rfl hown (str l) rfl (by omega) hB.size ?_; intro v' w' hown' hgrow)
  go_ret
  exact ⟨v', rfl, hown', hown.below hB hgrow⟩

set_option maxRecDepth 100000 in
theorem refString_gives (l : List UInt8) (hl : l.length ≤ 1000000000) (w : World) : Calls Try.prog 35 #[.string (str l)] w (GivesB w (strL l)) := by
  have hsz := str_size l
  have hn := num_length l.length
  go_enter Try.func35, Try.ntmps35
  go_wp2_with fail
  refine (refNumber_gives l.length (by omega) _).mono ?_
  rintro e w1 ⟨v, rfl, hown, hB⟩
  go_wp2_with (at_builtin; refine wp_appS rfl _ _ rfl w.heap.size v (num l.length) rfl hown (str l) rfl (by omega) hB.size ?_; intro v' w' hown' hgrow)
  go_ret
  exact ⟨v', rfl, hown', hown.below hB hgrow⟩

/-- What a string's reading answers. -/
def rdS (l : List UInt8) : Option (List UInt8 × Nat) :=
  match rd l with
  | some (n, k) => if n ≤ l.length - k then some ((l.drop k).take n, k + n) else none
  | none => none
def rdSV (l : List UInt8) : Value :=
  match rdS l with
  | some (s, k) => .tuple #[.string (str s), .int .i64 (k : Int), .int .i64 0]
  | none => .tuple #[.string (str []), .int .i64 0, .int .i64 130]
theorem rdSV_a {l : List UInt8} (h : rd l = none) : rdSV l = .tuple #[.string (str []), .int .i64 0, .int .i64 130] := by unfold rdSV rdS; rw [h]
theorem rdSV_b {l : List UInt8} {n k : Nat} (h : rd l = some (n, k)) (hn : ¬ n ≤ l.length - k) : rdSV l = .tuple #[.string (str []), .int .i64 0, .int .i64 130] := by unfold rdSV rdS; rw [h]; simp only [if_neg hn]
theorem rdSV_c {l : List UInt8} {n k : Nat} (h : rd l = some (n, k)) (hn : n ≤ l.length - k) : rdSV l = .tuple #[.string (str ((l.drop k).take n)), .int .i64 ((k : Int) + (n : Int)), .int .i64 0] := by unfold rdSV rdS; rw [h]; simp only [if_pos hn]; rfl

set_option maxRecDepth 100000 in
set_option maxHeartbeats 1000000 in
theorem readString_gives (w : World) (A : Option Addr) (c : Nat) (l : List UInt8) (h : InB w w.heap.size A c l) :
    Calls Try.prog 33 #[.slice A l.length c] w fun e w' => e = .returned (rdSV l) ∧ Below w.heap.size w w' := by
  have hle := h.le
  have hmax := h.max
  have H := readNumber_gives w _ A c l h
  have hb0 : ∀ u, Below w.heap.size w (w.alloc (Obj.cells #[u] 196)) := fun u => (Below.refl _ _).alloc (Nat.le_refl _) _
  rcases hr : rd l with _ | ⟨n, k⟩
  · rw [rdV_none hr] at H
    have hS := Lib.hid (rdSV_a hr)
    clear hr
    go_enter Try.func33, Try.ntmps33
    go_wp2_with (first | (go_at_call 38; refine H.mono ?_; clear H; rintro e w' ⟨rfl, rfl⟩))
    go_ret3
    exact ⟨by rw [hS.out]; rfl, hb0 _⟩
  · rw [rdV_some hr] at H
    obtain ⟨hn64, hk1, hkl⟩ := rd_bound hr
    have hcut : (if c = k then A else Option.map (fun x => x.add k) A) = cutA A c k := rfl
    have hin : InB w w.heap.size (cutA A c k) (c - k) (l.drop k) := h.drop k hkl
    have hlen : (l.drop k).length = l.length - k := by simp
    have hN := Lib.hid hn64
    clear hn64
    by_cases hs : n ≤ l.length - k
    · have hS := Lib.hid (rdSV_c hr hs)
      have hd : decide (n ≤ l.length - k) = true := by simp [hs]
      have hin2 := hin.take n n (by omega) (Nat.le_refl _) (by omega)
      have hstr : ∀ W, Below w.heap.size w W → (convert 30 9 (.slice (cutA A c k) n n)).run Try.prog W = .ok (.string (str ((l.drop k).take n))) W := by
        intro W hW
        have := (hin2.below hW).string
        rwa [List.length_take, hlen, Nat.min_eq_left hs] at this
      clear hr hin hin2
      go_enter Try.func33, Try.ntmps33
      go_wp2_with (first
        | (go_at_call 38; refine H.mono ?_; clear H; rintro e w' ⟨rfl, rfl⟩)
        | (go_at_call 102; refine (has_gives _ w.heap.size 0 (cutA A c k) (l.length - k) (c - k) n (by omega) (new_cell _ _ _)).mono ?_; rintro e w' ⟨rfl, rfl⟩)
        | (go_at_call 103; refine (take_gives _ w.heap.size 0 (cutA A c k) (l.length - k) (c - k) n (by omega) (by omega) (by omega) (new_cell _ _ _) (new_free _ _ _ _)).mono ?_; rintro e w' ⟨rfl, rfl⟩))
      go_ret3
      exact ⟨by rw [hS.out]; rfl, by first | exact hb0 _ | exact (hb0 _).setCell (p := ⟨w.heap.size, 0, none⟩) (Nat.le_refl _) _⟩
    · have hS := Lib.hid (rdSV_b hr hs)
      have hd : decide (n ≤ l.length - k) = false := by simp; omega
      clear hr hin
      go_enter Try.func33, Try.ntmps33
      go_wp2_with (first
        | (go_at_call 38; refine H.mono ?_; clear H; rintro e w' ⟨rfl, rfl⟩)
        | (go_at_call 102; refine (has_gives _ w.heap.size 0 (cutA A c k) (l.length - k) (c - k) n (by omega) (new_cell _ _ _)).mono ?_; rintro e w' ⟨rfl, rfl⟩))
      go_ret3
      exact ⟨by rw [hS.out]; rfl, hb0 _⟩

set_option maxRecDepth 100000 in
set_option maxHeartbeats 1000000 in
theorem refReadString_gives (w : World) (A : Option Addr) (c : Nat) (l : List UInt8) (h : InB w w.heap.size A c l) :
    Calls Try.prog 34 #[.slice A l.length c] w fun e w' => e = .returned (rdSV l) ∧ w = w' := by
  have hle := h.le
  have hmax := h.max
  have H := refReadNumber_gives w _ A c l h
  rcases hr : rd l with _ | ⟨n, k⟩
  · rw [rdV_none hr] at H
    have hS := Lib.hid (rdSV_a hr)
    clear hr
    go_enter Try.func34, Try.ntmps34
    go_wp2_with (first | (go_at_call 31; refine H.mono ?_; clear H; rintro e w' ⟨rfl, rfl⟩))
    go_ret3
    exact ⟨by rw [hS.out]; rfl, rfl⟩
  · rw [rdV_some hr] at H
    obtain ⟨hn64, hk1, hkl⟩ := rd_bound hr
    have hcut : (if c = k then A else Option.map (fun x => x.add k) A) = cutA A c k := rfl
    have hin : InB w w.heap.size (cutA A c k) (c - k) (l.drop k) := h.drop k hkl
    have hlen : (l.drop k).length = l.length - k := by simp
    have hN := Lib.hid hn64
    clear hn64
    by_cases hs : n ≤ l.length - k
    · have hS := Lib.hid (rdSV_c hr hs)
      have hin2 := hin.take n (c - k) (by omega) (by omega) (by omega)
      have hstr : (convert 30 9 (.slice (cutA A c k) n (c - k))).run Try.prog w = .ok (.string (str ((l.drop k).take n))) w := by
        have := hin2.string
        rwa [List.length_take, hlen, Nat.min_eq_left hs] at this
      clear hr hin hin2
      go_enter Try.func34, Try.ntmps34
      go_wp2_with (first | (go_at_call 31; refine H.mono ?_; clear H; rintro e w' ⟨rfl, rfl⟩))
      go_ret3
      exact ⟨by rw [hS.out]; rfl, rfl⟩
    · have hS := Lib.hid (rdSV_b hr hs)
      clear hr hin
      go_enter Try.func34, Try.ntmps34
      go_wp2_with (first | (go_at_call 31; refine H.mono ?_; clear H; rintro e w' ⟨rfl, rfl⟩))
      go_ret3
      exact ⟨by rw [hS.out]; rfl, rfl⟩
end Go.Proofs.Ytlelckdcmlpmdaa
/- frame: within (slices.ContainsFunc over ints), Check, place, Sectors, FrameAt, PageAt. -/
namespace Go.Proofs.Ytlelckdcmlpmdaa
open Go Go.RowKit Lou

/-- Numbers that lie in a row. -/
structure InN (w : World) (A : Option Addr) (xs : List Int) : Prop where
  lies : 0 < xs.length → ∃ g o, A = some ⟨g, o, none⟩ ∧ ∀ j (h : j < xs.length), w.cell? ⟨g, o + j, none⟩ = some (.int .i64 xs[j])

theorem wrap_i64_fr (n : Int) (h0 : -9223372036854775808 ≤ n) (h1 : n < 9223372036854775808) : IntKind.i64.wrap n = n := by
  simp [IntKind.wrap, IntKind.bits, IntKind.signed]
  split <;> omega

set_option maxRecDepth 100000 in
set_option maxHeartbeats 1000000 in
theorem indexFunc_gives (w : World) (A : Option Addr) (c : Nat) (xs : List Int) (h : InN w A xs) (hmax : xs.length ≤ 9223372036854775807) (p : Int → Bool) (f : FuncId) (lb : Array Value) (ef : ∀ args w, (callFunc f args).run Try.prog w = .ok (.enter f args) w)
    (hf : ∀ x, Calls Try.prog f (#[.int .i64 x] ++ lb) w fun e w' => e = .returned (.bool (p x)) ∧ w = w') :
    Calls Try.prog 201 #[.slice A xs.length c, .func (.func f) #[] lb] w fun e w' => (∃ k : Int, e = .returned (.int .i64 k) ∧ decide (0 ≤ k) = xs.any p) ∧ w = w' := by
  go_enter Try.func201, Try.ntmps201
  go_wp2_with fail
  go_loop [8] (fun i => ∃ k : Nat, k ≤ xs.length ∧ i = .int .i64 k ∧ Hid ((xs.take k).any p = false)) (fun i => xs.length - (intOf i).toNat)
  case atStart => exact ⟨0, Nat.zero_le _, rfl, Lib.hid (by simp)⟩
  case round =>
    obtain ⟨k, hk, rfl, hno⟩ := hrel
    by_cases hlt : k < xs.length
    · obtain ⟨g, o, rfl, hc⟩ := h.lies (by omega)
      have hck := hc k hlt
      have H := hf xs[k]
      clear hc hf
      have hk1 : IntKind.i64.wrap ((k : Int) + 1) = (k : Int) + 1 := wrap_i64_fr _ (by omega) (by omega)
      have hnext : p xs[k] = false → (xs.take (k + 1)).any p = false := by
        intro hp
        rw [List.take_succ_eq_append_getElem hlt, List.any_append, hno.out]
        simp [hp]
      have hyes : p xs[k] = true → xs.any p = true := fun hp => List.any_eq_true.2 ⟨xs[k], List.getElem_mem hlt, hp⟩
      cases hp : p xs[k] with
      | true =>
        have hy := hyes hp
        rw [hp] at H
        go_wp2_with fail
        refine H.mono ?_
        clear H
        rintro e w' ⟨rfl, rfl⟩
        go_wp2
        go_ret
        exact ⟨⟨(k : Int), rfl, by rw [hy]; simp⟩, rfl⟩
      | false =>
        have hn := Lib.hid (hnext hp)
        rw [hp] at H
        clear hnext hyes
        go_wp2_with fail
        refine H.mono ?_
        clear H
        rintro e w' ⟨rfl, rfl⟩
        go_wp2
        refine ⟨⟨k + 1, by omega, by go_num, hn⟩, by simp [intOf]; omega⟩
    · obtain rfl : k = xs.length := by omega
      have hn := hno.out
      rw [List.take_length] at hn
      have hN := Lib.hid hn
      clear hn hno hf
      go_wp2
      go_ret
      exact ⟨⟨-1, rfl, by rw [hN.out]; simp⟩, rfl⟩

set_option maxRecDepth 100000 in
set_option maxHeartbeats 1000000 in
theorem within1_gives (w : World) (a b : Addr) (lo hi x : Int) (ha : w.cell? a = some (.int .i64 lo)) (hb : w.cell? b = some (.int .i64 hi)) :
    Calls Try.prog 174 (#[.int .i64 x] ++ #[.pointer (some a), .pointer (some b)]) w fun e w' => e = .returned (.bool (decide (x < lo) || decide (hi < x))) ∧ w = w' := by
  by_cases h1 : x < lo
  · go_enter Try.func174, Try.ntmps174
    go_wp2
    go_ret
    exact ⟨by simp [h1], rfl⟩
  · go_enter Try.func174, Try.ntmps174
    go_wp2
    go_ret
    have h2 : decide (x < lo) = false := decide_eq_false (by omega)
    exact ⟨by rw [h2, Bool.false_or]; rfl, rfl⟩

def isIn (lo hi : Int) (xs : List Int) : Bool := !xs.any (fun x => decide (x < lo) || decide (hi < x))
theorem isIn_one (lo hi x : Int) : isIn lo hi [x] = decide (lo ≤ x ∧ x ≤ hi) := by
  simp only [isIn, List.any_cons, List.any_nil, Bool.or_false]
  by_cases h1 : x < lo <;> by_cases h2 : hi < x <;> simp [h1, h2] <;> omega
theorem isIn_two (lo hi x y : Int) : isIn lo hi [x, y] = (isIn lo hi [x] && isIn lo hi [y]) := by
  simp [isIn, Bool.not_or]

set_option maxRecDepth 100000 in
set_option maxHeartbeats 1000000 in
theorem within_gives (w : World) (A : Option Addr) (c : Nat) (xs : List Int) (h : InN w A xs) (hA : ∀ g o, A = some ⟨g, o, none⟩ → g < w.heap.size) (hmax : xs.length ≤ 9223372036854775807) (lo hi : Int) :
    Calls Try.prog 126 #[.int .i64 lo, .int .i64 hi, .slice A xs.length c] w fun e w' => e = .returned (.bool (isIn lo hi xs)) ∧ Below w.heap.size w w' := by
  have hb : Below w.heap.size w ((w.alloc (.cells #[.int .i64 lo] 3)).alloc (.cells #[.int .i64 hi] 3)) := ((Below.refl _ _).alloc (Nat.le_refl _) _).alloc (by simp) _
  have b0 := (BlkIs.new w 3 #[.int .i64 lo]).alloc (.cells #[.int .i64 hi] 3)
  have b1 := BlkIs.new (w.alloc (.cells #[.int .i64 lo] 3)) 3 #[.int .i64 hi]
  rw [World.size_alloc] at b1
  have hin : InN ((w.alloc (.cells #[.int .i64 lo] 3)).alloc (.cells #[.int .i64 hi] 3)) A xs := ⟨fun hl => by
    obtain ⟨g, o, e, hc⟩ := h.lies hl
    exact ⟨g, o, e, fun j hj => (hb.cell (p := ⟨g, o + j, none⟩) (hA g o e)).trans (hc j hj)⟩⟩
  have H := indexFunc_gives _ A c xs hin hmax (fun x => decide (x < lo) || decide (hi < x)) 174 #[.pointer (some ⟨w.heap.size, 0, none⟩), .pointer (some ⟨w.heap.size + 1, 0, none⟩)] (enters_of Try.func174 (by kernel_rfl) rfl)
    (fun x => within1_gives _ _ _ lo hi x b0.boxed b1.boxed)
  have H2 : Calls Try.prog 173 #[.slice A xs.length c, .func (.func 174) #[] #[.pointer (some ⟨w.heap.size, 0, none⟩), .pointer (some ⟨w.heap.size + 1, 0, none⟩)]] ((w.alloc (.cells #[.int .i64 lo] 3)).alloc (.cells #[.int .i64 hi] 3))
      fun e w' => e = .returned (.bool (xs.any (fun x => decide (x < lo) || decide (hi < x)))) ∧ ((w.alloc (.cells #[.int .i64 lo] 3)).alloc (.cells #[.int .i64 hi] 3)) = w' := by
    go_enter Try.func173, Try.ntmps173
    go_wp2_with fail
    refine H.mono ?_
    rintro e w' ⟨⟨k, rfl, hk⟩, rfl⟩
    have hK := Lib.hid hk
    clear hk
    go_wp2
    go_ret
    exact ⟨congrArg (fun b => Ending.returned (.bool b)) hK.out, rfl⟩
  clear H
  go_enter Try.func126, Try.ntmps126
  go_wp2_with fail
  refine H2.mono ?_
  rintro e w' ⟨rfl, rfl⟩
  go_wp2
  go_ret
  exact ⟨rfl, hb⟩
end Go.Proofs.Ytlelckdcmlpmdaa
/- slices.Grow, Concat, Repeat, Clone over bytes. -/
namespace Go.Proofs.Ytlelckdcmlpmdaa
open Go Go.RowKit Lou

set_option maxRecDepth 100000 in
set_option maxHeartbeats 1000000 in
theorem grow_gives (n : Nat) (hn : n ≤ 140737488355328) (w : World) : Calls Try.prog 184 #[.slice none 0 0, .int .i64 n] w (GivesB w []) := by
  obtain ⟨i0, hi, hz0, hz1, hz2⟩ := info_parts inf_u8
  have e0 : IntKind.i64.wrap ((n : Int) - 0) = (n : Int) := by rw [wrap_i64_fr _ (by omega) (by omega)]; omega
  have e1 : IntKind.i64.wrap (n : Int) = (n : Int) := wrap_i64_fr _ (by omega) (by omega)
  by_cases h0 : 0 < n
  · have hr := Lib.run_append_nil_zeros (P := Try.prog) w 30 3 30 5 i0 (.int .u8 0) .i64 .i64 Try.underlying30 Try.underlying3 hi hz0 n h0 (by omega) (by omega) (by rw [hz2]; omega)
    have hcap := grownCap_le_maxLen w n 0 5 (by unfold maxLen; omega)
    have hcap' : grownCap w n 0 5 ≤ 9223372036854775807 := by unfold maxLen at hcap; omega
    have hge := grownCap_ge w n 0 5
    go_enter Try.func184, Try.ntmps184
    generalize grownCap w n 0 5 = cap at *
    generalize hcur : Builtin.zeroCells (Value.int .u8 0).cells n ++ Builtin.zeroCells (Value.int .u8 0).cells (cap - n) = cur at *
    go_wp2_with (at_builtin; refine Lib.wpList_append_run _ rfl (.tmp 20) (.tmp 21) _ _ rfl _ _ rfl rfl _ _ hr ?_)
    go_ret
    have hB0 : Below w.heap.size w (w.drew.alloc (.cells cur 5)) := ((Below.refl _ w).drew).alloc (Nat.le_refl _) _
    refine ⟨_, rfl, ⟨by simp, .inr ⟨w.heap.size, cap, cur, rfl, Nat.le_refl _, heap_alloc_new w.drew _, Nat.zero_le _, hcap, ?_, by simp⟩⟩, hB0⟩
    rw [← hcur, Array.size_append, size_zeroCells, size_zeroCells]
    simp [Value.cells]
    omega
  · obtain rfl : n = 0 := by omega
    go_enter Try.func184, Try.ntmps184
    go_wp2
    go_ret
    exact ⟨_, rfl, OwnB.nil _ _, Below.refl _ _⟩

theorem take_flat (ls : List (List UInt8)) (k : Nat) (h : k < ls.length) : (ls.take (k + 1)).flatten = (ls.take k).flatten ++ ls[k] := by
  rw [List.take_succ_eq_append_getElem h, List.flatten_append]
  simp
theorem flat_le (ls : List (List UInt8)) (k : Nat) : (ls.take k).flatten.length ≤ ls.flatten.length := by
  have : ls.flatten = (ls.take k).flatten ++ (ls.drop k).flatten := by rw [← List.flatten_append, List.take_append_drop]
  rw [this, List.length_append]
  omega

set_option maxRecDepth 100000 in
set_option maxHeartbeats 2000000 in
theorem concat_gives (w : World) (A : Option Addr) (c : Nat) (zs : List (Piece w w.heap.size)) (hI : InLL w w.heap.size A c zs) (hmax : (zs.map Piece.l).flatten.length ≤ 1000000000) :
    Calls Try.prog 142 #[.slice A zs.length c] w (GivesB w (zs.map Piece.l).flatten) := by
  have hle := hI.le
  have hmx := hI.max
  have hfl := fun k => flat_le (zs.map Piece.l) k
  have hnx : ∀ k (h : k < zs.length), ((zs.map Piece.l).take (k + 1)).flatten = ((zs.map Piece.l).take k).flatten ++ zs[k].1.2 := fun k h => by
    rw [take_flat _ _ (by simpa using h)]
    simp [Piece.l]
  have hall : ((zs.map Piece.l).take zs.length).flatten = (zs.map Piece.l).flatten := by rw [List.take_of_length_le (by simp)]
  generalize zs.map Piece.l = ls at *
  have HX := Lib.hid hnx
  have HA := Lib.hid hall
  clear hnx hall
  have hs0 : (ls.take 0).flatten = [] := by simp
  go_enter Try.func142, Try.ntmps142
  go_wp2_with fail
  go_loop [3, 11] (fun s i => ∃ k t : Nat, k ≤ zs.length ∧ i = .int .i64 k ∧ s = .int .i64 t ∧ t ≤ 1000000000 ∧ Hid (t = (ls.take k).flatten.length)) (fun _ i => zs.length - (intOf i).toNat)
  case atStart => exact ⟨0, 0, Nat.zero_le _, rfl, rfl, by omega, Lib.hid (by simp)⟩
  case round =>
    obtain ⟨k, t, hk, rfl, rfl, ht, hT⟩ := hrel
    by_cases hlt : k < zs.length
    · obtain ⟨g, o, rfl, hg, hc⟩ := hI.lies (by omega)
      have hck := hc k hlt
      have hval : zs[k].val = .slice zs[k].1.1.1 zs[k].1.2.length zs[k].1.1.2 := rfl
      rw [hval] at hck
      have hnext : t + zs[k].1.2.length = (ls.take (k + 1)).flatten.length := by rw [HX.out k hlt, List.length_append, hT.out]
      have hbd := hfl (k + 1)
      have hN := Lib.hid hnext
      have hbd2 : t + zs[k].1.2.length ≤ 1000000000 := by omega
      have hwr : IntKind.i64.wrap ((t : Int) + (zs[k].1.2.length : Int)) = (t : Int) + (zs[k].1.2.length : Int) := wrap_i64_fr _ (by omega) (by omega)
      clear hc hval hnext hbd hfl
      go_wp2_with fail
      exact ⟨⟨k + 1, t + zs[k].1.2.length, by omega, by simp, by simp, hbd2, hN⟩, by simp [intOf]; omega⟩
    · obtain rfl : k = zs.length := by omega
      go_wp2_with fail
      refine (grow_gives t (by omega) _).mono ?_
      rintro e w1 ⟨v, rfl, hown, hB⟩
      go_wp2_with fail
      go_loopw [6, 27] (fun v i wr => ∃ k : Nat, k ≤ zs.length ∧ i = .int .i64 k ∧ OwnB wr w.heap.size v (ls.take k).flatten ∧ Below w.heap.size w wr) (fun _ i _ => zs.length - (intOf i).toNat)
      case atStart => exact ⟨0, Nat.zero_le _, rfl, by simpa using hown, hB⟩
      case round =>
        obtain ⟨k, hk, rfl, hown, hB⟩ := hrel
        have hBs := hB.size
        by_cases hlt : k < zs.length
        · obtain ⟨g, o, rfl, hg, hc⟩ := hI.lies (by omega)
          have hck := (hB.cell (p := ⟨g, o + k, none⟩) hg).trans (hc k hlt)
          have hval : zs[k].val = .slice zs[k].1.1.1 zs[k].1.2.length zs[k].1.1.2 := rfl
          rw [hval] at hck
          have hz := (zs[k].2.below hB).more hBs
          have hbd := hfl (k + 1)
          rw [HX.out k hlt, List.length_append] at hbd
          clear hc hval hfl
          have t1 : (ls.take k).flatten.length + zs[k].1.2.length ≤ 140737488355328 := by omega
          go_wp2_with (at_builtin; refine wp_appB rfl (.tmp 31) (.tmp 32) rfl w.heap.size u6 (ls.take k).flatten (by rfl) hown wr.heap.size zs[k].1.1.1 zs[k].1.1.2 zs[k].1.2 (by rfl) hz t1 hBs ?_; intro v' w2 hown2 hg2; have hB2 := hown.below hB hg2)
          refine ⟨⟨k + 1, by omega, by simp, by rw [HX.out k hlt]; exact hown2, hB2⟩, by simp [intOf]; omega⟩
        · obtain rfl : k = zs.length := by omega
          go_wp2
          go_ret
          rw [HA.out] at hown
          exact ⟨_, rfl, hown, hB⟩
end Go.Proofs.Ytlelckdcmlpmdaa
