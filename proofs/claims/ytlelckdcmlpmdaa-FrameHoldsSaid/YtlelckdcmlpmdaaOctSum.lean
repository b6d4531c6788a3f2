/- slices.Values over lists of bytes; octet.Sum. -/
import Derived.Test.YtlelckdcmlpmdaaOctTab
import Derived.Test.YtlelckdcmlpmdaaRange
namespace Go.Proofs.Ytlelckdcmlpmdaa
open Go Go.RowKit Lou Go.Shelf
attribute [local go_sem] Oper.semAt_some

/-- Bytes that came in, as one value (below n₀ in the world w0). -/
abbrev Piece (w0 : World) (n₀ : Nat) := { x : (Option Addr × Nat) × List UInt8 // InB w0 n₀ x.1.1 x.1.2 x.2 }
def Piece.val {w0 : World} {n₀ : Nat} (p : Piece w0 n₀) : Value := .slice p.1.1.1 p.1.2.length p.1.1.2
def Piece.l {w0 : World} {n₀ : Nat} (p : Piece w0 n₀) : List UInt8 := p.1.2

/-- A list of bytes' lists that came in. -/
structure InLL (w : World) (B : Nat) (A : Option Addr) (c : Nat) (ls : List (Piece w B)) : Prop where
  le : ls.length ≤ c
  max : c ≤ 9223372036854775807
  lies : 0 < ls.length → ∃ g o, A = some ⟨g, o, none⟩ ∧ g < B ∧ ∀ j (h : j < ls.length), w.cell? ⟨g, o + j, none⟩ = some ls[j].val

section
variable {w0 : World} {n₀ : Nat}

set_option maxRecDepth 100000 in
set_option maxHeartbeats 2000000 in
theorem values1_some (n : Nat) (hn1 : 1 ≤ n) (l Bs b off cap : Nat) (zs : List (Piece w0 n₀)) (hmax : zs.length ≤ 9223372036854775807) (hb : b < n₀) (J Jx : List (Piece w0 n₀) → World → Prop)
    (hY : ∀ pre x W, J pre W → pre.length < zs.length → YieldAt Fence.wide (n - 1) Try.prog l #[x.val] W fun e W' =>
      (e = .returned (.bool true) ∧ J (pre ++ [x]) W' ∧ Below n₀ W W') ∨ (e = .returned (.bool false) ∧ Jx (pre ++ [x]) W'))
    (W : World) (hBs : W.cell? ⟨Bs, 0, none⟩ = some (.slice (some ⟨b, off, none⟩) zs.length cap)) (hc : ∀ j (h : j < zs.length), W.cell? ⟨b, off + j, none⟩ = some zs[j].val) (h0 : J [] W) :
    CallsIn Fence.wide n Try.prog 163 #[.func (.yield l) #[] #[], .pointer (some ⟨Bs, 0, none⟩)] W fun e W' => (∃ v, e = .returned v) ∧
      ((∃ ys, ys = zs ∧ J ys W') ∨ (∃ pre, pre <+: zs ∧ Jx pre W')) := by
  refine callsIn_of_wp Try.func163 rfl trivial ?_ rfl
  simp only [Try.ntmps163, List.size_toArray, List.length_cons, List.length_nil, Nat.reduceAdd, Nat.reduceSub, Array.replicate_succ, Array.replicate_zero, List.push_toArray, List.append_toArray, List.nil_append, List.cons_append]
  gi_wp2
  gi_loopw [7] (fun i wr => ∃ k : Nat, k ≤ zs.length ∧ i = .int .i64 k ∧ J (zs.take k) wr ∧ Below n₀ W wr)
    (fun i _ => zs.length - (intOf i).toNat)
  case atStart => exact ⟨0, Nat.zero_le _, rfl, by simpa using h0, Below.refl _ _⟩
  case round =>
    obtain ⟨k, hk, rfl, hJs, hnx⟩ := hrel
    by_cases hlt : k < zs.length
    · have hcx : wr.cell? ⟨b, off + k, none⟩ = some zs[k].val := (hnx.cell (p := ⟨b, off + k, none⟩) hb).trans (hc k hlt)
      obtain ⟨fn, tmps, assign, body, hy, hR⟩ := hY _ zs[k] wr hJs (by simp; omega)
      have htk : zs.take k ++ [zs[k]] = zs.take (k + 1) := (List.take_succ_eq_append_getElem hlt).symm
      have hTk := Lib.hid htk
      clear htk
      have hval : zs[k].val = .slice zs[k].1.1.1 zs[k].1.2.length zs[k].1.1.2 := rfl
      rw [hval] at hcx hy
      clear hval hc
      gi_wp2
      refine hR.mono ?_
      rintro e W3 (⟨rfl, hJ3, hk3⟩ | ⟨rfl, hJx3⟩)
      · gi_wp2
        go_roundw
        case rel => exact ⟨k + 1, by omega, by simp, by rw [← hTk.out]; exact hJ3, hnx.trans hk3⟩
        case measure => simp [intOf]; omega
      · gi_wp2
        refine bodyPost_ret (results_none rfl _ _ _) rfl ?_
        exact ⟨⟨_, rfl⟩, .inr ⟨_, by rw [hTk.out]; exact List.take_prefix _ _, hJx3⟩⟩
    · obtain rfl : k = zs.length := by omega
      gi_wp2
      go_end0
      exact ⟨⟨_, rfl⟩, .inl ⟨_, List.take_length, hJs⟩⟩

set_option maxRecDepth 100000 in
set_option maxHeartbeats 1000000 in
theorem values1_empty (n : Nat) (l Bs : Nat) (A : Option Addr) (cap : Nat) (J : List (Piece w0 n₀) → World → Prop) (W : World) (hBs : W.cell? ⟨Bs, 0, none⟩ = some (.slice A 0 cap)) (h0 : J [] W) :
    CallsIn Fence.wide n Try.prog 163 #[.func (.yield l) #[] #[], .pointer (some ⟨Bs, 0, none⟩)] W fun e W' => (∃ v, e = .returned v) ∧ J [] W' := by
  refine callsIn_of_wp Try.func163 rfl trivial ?_ rfl
  simp only [Try.ntmps163, List.size_toArray, List.length_cons, List.length_nil, Nat.reduceAdd, Nat.reduceSub, Array.replicate_succ, Array.replicate_zero, List.push_toArray, List.append_toArray, List.nil_append, List.cons_append]
  gi_wp2
  gi_loopw [7] (fun i wr => i = .int .i64 0 ∧ J [] wr) (fun _ _ => 0)
  case atStart => exact ⟨rfl, h0⟩
  case round =>
    obtain ⟨rfl, hJs⟩ := hrel
    gi_wp2
    go_end0
    exact ⟨⟨_, rfl⟩, hJs⟩

set_option maxHeartbeats 1000000 in
theorem values_in (n : Nat) (a : Option Addr) (len cap : Nat) (w : World) :
    CallsIn Fence.wide n Try.prog 99 #[.slice a len cap] w fun e w' => e = .returned (.func (.func 163) #[] #[.pointer (some ⟨w.heap.size, 0, none⟩)]) ∧ w.alloc (.cells #[.slice a len cap] 168) = w' := by
  refine callsIn_of_wp Try.func99 rfl trivial ?_ rfl
  simp only [Try.ntmps99, List.size_toArray, List.length_cons, List.length_nil, Nat.reduceAdd, Nat.reduceSub, Array.replicate_succ, Array.replicate_zero, List.push_toArray, List.append_toArray, List.nil_append, List.cons_append]
  gi_wp2
  go_ret
  exact ⟨rfl, rfl⟩

theorem values_stops (n : Nat) (hn1 : 1 ≤ n) (Bs : Nat) (A : Option Addr) (c : Nat) (zs : List (Piece w0 n₀)) (hI : InLL w0 n₀ A c zs) (w : World) (hb0 : Below n₀ w0 w) (hBs : Bs < w.heap.size) (hn₀ : n₀ ≤ w.heap.size)
    (hc : w.cell? ⟨Bs, 0, none⟩ = some (.slice A zs.length c)) :
    SeqStopsK Fence.wide n Try.prog 163 #[.pointer (some ⟨Bs, 0, none⟩)] (fun x : Piece w0 n₀ => #[x.val]) (Below n₀) (fun ys => ys = zs) (fun pre => pre <+: zs) zs.length w := fun l J Jx W hW _ _ hY h0 => by
  have hc' := (hW.cell (p := ⟨Bs, 0, none⟩) hBs).trans hc
  have hle := hI.le
  have hmx := hI.max
  rcases Nat.eq_zero_or_pos zs.length with hz | hz
  · obtain rfl := List.eq_nil_of_length_eq_zero hz
    exact (values1_empty n l Bs A c J W hc' h0).mono fun e W' ⟨he, hj⟩ => ⟨he, .inl ⟨_, rfl, hj⟩⟩
  · obtain ⟨g, o, rfl, hg, hcs⟩ := hI.lies hz
    exact values1_some n hn1 l Bs g o c zs (by omega) hg J Jx hY W hc' (fun j hj => ((hb0.trans (hW.mono hn₀)).cell hg).trans (hcs j hj)) h0
end

theorem tab_zero : TabOk 0 Try.zeroCells186 :=
  ⟨by kernel_rfl, by kernel_rfl, by kernel_rfl, .inl rfl, fun _ => by kernel_rfl, fun h => by omega⟩

set_option maxRecDepth 100000 in
set_option maxHeartbeats 2000000 in
theorem sum_in (n : Nat) (hn : 4 ≤ n) (w : World) (A : Option Addr) (c : Nat) (zs : List (Piece w w.heap.size)) (hI : InLL w w.heap.size A c zs) :
    CallsIn Fence.wide n Try.prog 29 #[.slice A zs.length c] w fun e W' => e = .returned (.int .u32 (sumL (zs.map Piece.l).flatten : Int)) ∧ Below w.heap.size w W' := by
  have h1 : 1 ≤ n := by omega
  refine callsIn_of_wp_marks Try.func29 rfl trivial ?_ rfl
  simp only [Try.ntmps29, List.size_toArray, List.length_cons, List.length_nil, Nat.reduceAdd, Nat.reduceSub, Array.replicate_succ, Array.replicate_zero, List.push_toArray, List.append_toArray, List.nil_append, List.cons_append]
  gi_wp2_with (refine ⟨trivial, ?_⟩; gi_at_call 99; refine (values_in (n - 1) _ _ _ _).mono ?_; rintro e w' ⟨rfl, rfl⟩)
  have b0 : BlkIs ((((w.alloc (.cells Try.zeroCells186 186)).alloc (.cells #[.pointer (some ⟨w.heap.size, 0, none⟩)] 169)).alloc (.cells #[.int .u32 4294967295] 45)).alloc (.cells #[.slice A zs.length c] 168)) w.heap.size 186 Try.zeroCells186 := (((BlkIs.new _ _ _).alloc _).alloc _).alloc _
  have b1 : BlkIs ((((w.alloc (.cells Try.zeroCells186 186)).alloc (.cells #[.pointer (some ⟨w.heap.size, 0, none⟩)] 169)).alloc (.cells #[.int .u32 4294967295] 45)).alloc (.cells #[.slice A zs.length c] 168)) (w.heap.size + 1) 169 #[.pointer (some ⟨w.heap.size, 0, none⟩)] := by
    have := ((BlkIs.new (w.alloc (.cells Try.zeroCells186 186)) 169 #[.pointer (some ⟨w.heap.size, 0, none⟩)]).alloc (.cells #[.int .u32 4294967295] 45)).alloc (.cells #[.slice A zs.length c] 168)
    rwa [World.size_alloc] at this
  have b2 : BlkIs ((((w.alloc (.cells Try.zeroCells186 186)).alloc (.cells #[.pointer (some ⟨w.heap.size, 0, none⟩)] 169)).alloc (.cells #[.int .u32 4294967295] 45)).alloc (.cells #[.slice A zs.length c] 168)) (w.heap.size + 1 + 1) 45 #[.int .u32 4294967295] := by
    have := (BlkIs.new ((w.alloc (.cells Try.zeroCells186 186)).alloc (.cells #[.pointer (some ⟨w.heap.size, 0, none⟩)] 169)) 45 #[.int .u32 4294967295]).alloc (.cells #[.slice A zs.length c] 168)
    rwa [World.size_alloc, World.size_alloc] at this
  have b3 : ((((w.alloc (.cells Try.zeroCells186 186)).alloc (.cells #[.pointer (some ⟨w.heap.size, 0, none⟩)] 169)).alloc (.cells #[.int .u32 4294967295] 45)).alloc (.cells #[.slice A zs.length c] 168)).cell? ⟨w.heap.size + 1 + 1 + 1, 0, none⟩ = some (.slice A zs.length c) := by
    have := new_cell (((w.alloc (.cells Try.zeroCells186 186)).alloc (.cells #[.pointer (some ⟨w.heap.size, 0, none⟩)] 169)).alloc (.cells #[.int .u32 4294967295] 45)) (.slice A zs.length c) 168
    rwa [World.size_alloc, World.size_alloc, World.size_alloc] at this
  have hB0 : Below w.heap.size w ((((w.alloc (.cells Try.zeroCells186 186)).alloc (.cells #[.pointer (some ⟨w.heap.size, 0, none⟩)] 169)).alloc (.cells #[.int .u32 4294967295] 45)).alloc (.cells #[.slice A zs.length c] 168)) :=
    ((((Below.refl _ w).alloc (Nat.le_refl _) _).alloc (by simp) _).alloc (by simp; omega) _).alloc (by simp; omega) _
  have hsz : ((((w.alloc (.cells Try.zeroCells186 186)).alloc (.cells #[.pointer (some ⟨w.heap.size, 0, none⟩)] 169)).alloc (.cells #[.int .u32 4294967295] 45)).alloc (.cells #[.slice A zs.length c] 168)).heap.size = w.heap.size + 4 := by simp
  generalize hW0 : ((((w.alloc (.cells Try.zeroCells186 186)).alloc (.cells #[.pointer (some ⟨w.heap.size, 0, none⟩)] 169)).alloc (.cells #[.int .u32 4294967295] 45)).alloc (.cells #[.slice A zs.length c] 168)) = W0 at *
  clear hW0
  refine wpIn_rangeFunc_ownG rfl h1 (gf := 163) (lb := #[.pointer (some ⟨w.heap.size + 1 + 1 + 1, 0, none⟩)]) rfl trivial (enters_of Try.func163 (by kernel_rfl) rfl)
    (values_stops (n - 1) (by omega) (w.heap.size + 1 + 1 + 1) A c zs hI W0 hB0 (by omega) (by omega) b3) belowK_t (belowK_b (by omega)) (Below.refl _ _) (fun _ => rfl)
    (fun pre W => ((∃ d cs, BlkIs W w.heap.size 186 cs ∧ TabOk d cs) ∧ BlkIs W (w.heap.size + 1) 169 #[.pointer (some ⟨w.heap.size, 0, none⟩)] ∧ BlkIs W (w.heap.size + 1 + 1) 45 #[.int .u32 (sumS 4294967295 (pre.map Piece.l).flatten : Int)]) ∧ Below w.heap.size w W)
    (fun _ _ _ => False)
    (OwnFrom.and (Own.from (fun s A B row hs hg hr => ⟨by obtain ⟨d, cs, h1, h2⟩ := hs.1; exact ⟨d, cs, h1.kept hg hr, h2⟩, hs.2.1.kept hg hr, hs.2.2.kept hg hr⟩) _) (ownFrom_below (Nat.le_refl _) (by omega)))
    (fun _ _ _ _ _ hs _ _ => hs)
    ⟨⟨⟨0, _, b0, tab_zero⟩, b1, b2⟩, hB0⟩
    (fun x => { tmps := #[.slice A zs.length c, undef, .int .u32 0, .pointer (some ⟨w.heap.size + 1, 0, none⟩), .pointer (some ⟨w.heap.size + 1 + 1, 0, none⟩), .slice x.1.1.1 x.1.2.length x.1.1.2, undef, undef, .agg Try.zeroCells186, .pointer (some ⟨w.heap.size, 0, none⟩), .slice A zs.length c, .func (.func 163) #[] #[.pointer (some ⟨w.heap.size + 1 + 1 + 1, 0, none⟩)], .slice x.1.1.1 x.1.2.length x.1.1.2, undef, undef, undef, undef, undef, undef, undef, undef, undef, undef, undef, undef, undef], defers := [] }) ?assign ?body ?done ?stop
  case assign =>
    intro l x W K hK
    have hv : x.val = .slice x.1.1.1 x.1.2.length x.1.1.2 := rfl
    dsimp only [hv]
    gi_wp2
    exact hK
  case body =>
    rintro l pre x W ⟨⟨⟨d, cs, hT, hOk⟩, hP, hS⟩, hB⟩ _
    have hx := x.2
    have hxl := hx.le
    have hxm := hx.max
    have h11 : 1 ≤ n - 1 - 1 := by omega
    have hF : (pre ++ [x]).map Piece.l = pre.map Piece.l ++ [x.1.2] := by simp [Piece.l]
    have hFl : sumS 4294967295 ((pre ++ [x]).map Piece.l).flatten = sumS (sumS 4294967295 (pre.map Piece.l).flatten) x.1.2 := by
      rw [hF, List.flatten_append, sumS_append]; simp
    have hs32 := sumS_lt (s := 4294967295) (by omega) (pre.map Piece.l).flatten
    have HF := Lib.hid hFl
    clear hF hFl
    generalize sumS 4294967295 (pre.map Piece.l).flatten = s0 at *
    have hz := hsz
    gi_wp2_with fail
    gi_loopw [15] (fun i wr => ∃ k : Nat, k ≤ x.1.2.length ∧ i = .int .i64 k ∧ (∃ d cs, BlkIs wr w.heap.size 186 cs ∧ TabOk d cs) ∧ BlkIs wr (w.heap.size + 1) 169 #[.pointer (some ⟨w.heap.size, 0, none⟩)] ∧ BlkIs wr (w.heap.size + 1 + 1) 45 #[.int .u32 (sumS s0 (x.1.2.take k) : Int)] ∧ Below w.heap.size W wr ∧ KeepsOthers W wr)
      (fun i _ => x.1.2.length - (intOf i).toNat)
    case atStart => exact ⟨0, by omega, rfl, ⟨d, cs, hT, hOk⟩, hP, hS, Below.refl _ _, KeepsOthers.refl _⟩
    case round =>
      obtain ⟨k, hk, rfl, ⟨d, cs, hT, hOk⟩, hP, hS, hBW, hKO⟩ := hrel
      by_cases hlt : k < x.1.2.length
      · obtain ⟨g, o, hA, hg, hc⟩ := hx.lies (by omega)
        have hck : wr.cell? ⟨g, o + k, none⟩ = some (.int .u8 (x.1.2[k].toNat : Int)) := ((hB.trans hBW).cell (p := ⟨g, o + k, none⟩) hg).trans (hc k hlt)
        have hsk := sumS_lt hs32 (x.1.2.take k)
        have hnext : sumS s0 (x.1.2.take (k + 1)) = stepC (sumS s0 (x.1.2.take k)) x.1.2[k] := by
          rw [List.take_succ_eq_append_getElem hlt, sumS_append]; rfl
        have HN := Lib.hid hnext
        clear hnext hc hs32
        generalize sumS s0 (x.1.2.take k) = sk at *
        have hcP := hP.boxed
        have hcS := hS.boxed
        rw [hA]
        have HA := Lib.hid hA
        clear hA
        gi_wp2_with (refine ⟨trivial, ?_⟩; gi_at_call 100; refine (CallsIn.inRound l (callsIn_wide.2 (step_gives w.heap.size d cs sk x.1.2[k] hsk _ hT hOk))).mono ?_; rintro e w' ⟨rfl, ⟨cs1, hb1, h1⟩, hg1⟩; have hS1 := hS.grown hg1 (by simp; omega); have hP1 := hP.grown hg1 (by simp); have hcS1 := hS1.boxed; have hfS1 := hS1.free 0)
        have hBw : Below w.heap.size wr w' := (Below.refl _ _).grown hg1 (by have := hT.lt; omega) (fun k hk => by cases hk; exact Nat.le_refl _)
        refine ⟨⟨k + 1, by omega, by go_num, ⟨1, cs1, hb1.other (by simp; omega) _, h1⟩, hP1.other (by simp) _, ?_, (hBW.trans hBw).setCell (p := ⟨w.heap.size + 1 + 1, 0, none⟩) (by simp; omega) _, (hKO.trans (hT.others hg1)).trans (KeepsOthers.setCell _ _ _)⟩, by simp [intOf]; omega⟩
        rw [HN.out]
        exact hS1.set 0 _
      · obtain rfl : k = x.1.2.length := by omega
        gi_wp2_with fail
        rw [List.take_length] at hS
        refine ⟨hKO.from _, hBW, ⟨⟨⟨d, cs, hT, hOk⟩, hP, ?_⟩, hB.trans hBW⟩⟩
        rw [HF.out]
        exact hS
  case done =>
    rintro D ys W hD rfl ⟨⟨hT, hP, hS⟩, hB⟩ hK
    have hcS := hS.boxed
    have hs32 := sumS_lt (s := 4294967295) (by omega) (ys.map Piece.l).flatten
    have hinv := xor_inv hs32
    gi_wp2
    refine ⟨by simp, .inl ⟨_, _, rfl, run_takeDeferred hK, ?_⟩⟩
    exact ⟨_, results_tmp rfl _ _ _, rfl, hB.trans (belowK_b (w := w) (Nat.le_refl _) W D _ _ (by omega) hK rfl rfl)⟩
  case stop =>
    rintro D c pre W _ _ h _
    exact h.elim

/-- octet.Sum, whatever lists of bytes. -/
theorem sum_gives (w : World) (A : Option Addr) (c : Nat) (zs : List (Piece w w.heap.size)) (hI : InLL w w.heap.size A c zs) :
    Calls Try.prog 29 #[.slice A zs.length c] w fun e W' => e = .returned (.int .u32 (sumL (zs.map Piece.l).flatten : Int)) ∧ Below w.heap.size w W' :=
  callsIn_wide.1 (sum_in 4 (Nat.le_refl _) w A c zs hI)

/-- .. of none, of one, of two, in a block just laid. -/
theorem sum0_gives (w : World) : Calls Try.prog 29 #[.slice none 0 0] w fun e W' => e = .returned (.int .u32 (sumL [] : Int)) ∧ Below w.heap.size w W' :=
  sum_gives w none 0 [] ⟨by simp, by omega, fun h => by simp at h⟩
theorem sum1_gives (W : World) (A : Option Addr) (c : Nat) (l : List UInt8) (hin : InB W W.heap.size A c l) :
    Calls Try.prog 29 #[.slice (some ⟨W.heap.size, 0, none⟩) 1 1] (W.alloc (.cells #[.slice A l.length c] 30)) fun e W' => e = .returned (.int .u32 (sumL l : Int)) ∧ Below W.heap.size W W' := by
  have hb : Below W.heap.size W (W.alloc (.cells #[.slice A l.length c] 30)) := (Below.refl _ _).alloc (Nat.le_refl _) _
  have h1 : InB (W.alloc (.cells #[.slice A l.length c] 30)) (W.alloc (.cells #[.slice A l.length c] 30)).heap.size A c l := (hin.below hb).more (by simp)
  have H := sum_gives (W.alloc (.cells #[.slice A l.length c] 30)) (some ⟨W.heap.size, 0, none⟩) 1 [⟨((A, c), l), h1⟩] ⟨by simp, by omega, fun _ => ⟨W.heap.size, 0, rfl, by simp, fun j hj => by
    obtain rfl : j = 0 := by simpa using hj
    exact new_cell _ _ _⟩⟩
  refine H.mono ?_
  rintro e W' ⟨rfl, hB⟩
  exact ⟨by simp [Piece.l], hb.trans (hB.mono (by simp))⟩
theorem sum2_gives (W : World) (A A2 : Option Addr) (c c2 : Nat) (l l2 : List UInt8) (hin : InB W W.heap.size A c l) (hin2 : InB W W.heap.size A2 c2 l2) :
    Calls Try.prog 29 #[.slice (some ⟨W.heap.size, 0, none⟩) 2 2] (W.alloc (.cells #[.slice A l.length c, .slice A2 l2.length c2] 30)) fun e W' => e = .returned (.int .u32 (sumL (l ++ l2) : Int)) ∧ Below W.heap.size W W' := by
  have hb : Below W.heap.size W (W.alloc (.cells #[.slice A l.length c, .slice A2 l2.length c2] 30)) := (Below.refl _ _).alloc (Nat.le_refl _) _
  have h1 : InB (W.alloc (.cells #[.slice A l.length c, .slice A2 l2.length c2] 30)) (W.alloc (.cells #[.slice A l.length c, .slice A2 l2.length c2] 30)).heap.size A c l := (hin.below hb).more (by simp)
  have h2 : InB (W.alloc (.cells #[.slice A l.length c, .slice A2 l2.length c2] 30)) (W.alloc (.cells #[.slice A l.length c, .slice A2 l2.length c2] 30)).heap.size A2 c2 l2 := (hin2.below hb).more (by simp)
  have hbk := BlkIs.new W 30 #[.slice A l.length c, .slice A2 l2.length c2]
  have H := sum_gives (W.alloc (.cells #[.slice A l.length c, .slice A2 l2.length c2] 30)) (some ⟨W.heap.size, 0, none⟩) 2 [⟨((A, c), l), h1⟩, ⟨((A2, c2), l2), h2⟩] ⟨by simp, by omega, fun _ => ⟨W.heap.size, 0, rfl, by simp, fun j hj => by
    rw [hbk.cell]
    rcases (show j = 0 ∨ j = 1 from by simp at hj; omega) with rfl | rfl
    · rfl
    · rfl⟩⟩
  refine H.mono ?_
  rintro e W' ⟨rfl, hB⟩
  exact ⟨by simp [Piece.l], hb.trans (hB.mono (by simp))⟩
end Go.Proofs.Ytlelckdcmlpmdaa
