/- slices.Grow, Concat, Repeat, Clone over bytes. -/
import Derived.Test.YtlelckdcmlpmdaaOctSum
import Derived.Test.YtlelckdcmlpmdaaOctStr
import Derived.Test.YtlelckdcmlpmdaaFrWithin
import Derived.Lib.AppendZeros
namespace Go.Proofs.Ytlelckdcmlpmdaa
open Go Go.RowKit Lou

set_option maxRecDepth 100000 in
set_option maxHeartbeats 1000000 in
theorem grow_gives (n : Nat) (hn : n ≤ 140737488355328) (w : World) : Calls Try.prog 184 #[.slice none 0 0, .int .i64 n] w (GivesB w []) := by
  obtain ⟨i0, hi, hz0, hz1, hz2⟩ := info_parts inf_u8
  have e0 : IntKind.i64.wrap ((n : Int) - 0) = (n : Int) := by rw [wrap_i64_fr _ (by omega) (by omega)]; omega
  have e1 : IntKind.i64.wrap (n : Int) = (n : Int) := wrap_i64_fr _ (by omega) (by omega)
  by_cases h0 : 0 < n
  · have hr := Lib.run_append_nil_zeros (P := Try.prog) w 30 3 30 5 i0 (.int .u8 0) .i64 .i64 Try.underlying30 Try.underlying3 hi hz0 n h0 (by omega) (by omega) (by rw [hz2]; omega)
    have hcap := grownCap_le_maxLen w n 0 5 (by unfold maxLen; omega)
    have hcap' : grownCap w n 0 5 ≤ 9223372036854775807 := by unfold maxLen at hcap; omega
    have hge := grownCap_ge w n 0 5
    go_enter Try.func184, Try.ntmps184
    generalize grownCap w n 0 5 = cap at *
    generalize hcur : Builtin.zeroCells (Value.int .u8 0).cells n ++ Builtin.zeroCells (Value.int .u8 0).cells (cap - n) = cur at *
    go_wp2_with (at_builtin; refine Lib.wpList_append_run _ rfl (.tmp 20) (.tmp 21) _ _ rfl _ _ rfl rfl _ _ hr ?_)
    go_ret
    have hB0 : Below w.heap.size w (w.drew.alloc (.cells cur 5)) := ((Below.refl _ w).drew).alloc (Nat.le_refl _) _
    refine ⟨_, rfl, ⟨by simp, .inr ⟨w.heap.size, cap, cur, rfl, Nat.le_refl _, heap_alloc_new w.drew _, Nat.zero_le _, hcap, ?_, by simp⟩⟩, hB0⟩
    rw [← hcur, Array.size_append, size_zeroCells, size_zeroCells]
    simp [Value.cells]
    omega
  · obtain rfl : n = 0 := by omega
    go_enter Try.func184, Try.ntmps184
    go_wp2
    go_ret
    exact ⟨_, rfl, OwnB.nil _ _, Below.refl _ _⟩

theorem take_flat (ls : List (List UInt8)) (k : Nat) (h : k < ls.length) : (ls.take (k + 1)).flatten = (ls.take k).flatten ++ ls[k] := by
  rw [List.take_succ_eq_append_getElem h, List.flatten_append]
  simp
theorem flat_le (ls : List (List UInt8)) (k : Nat) : (ls.take k).flatten.length ≤ ls.flatten.length := by
  have : ls.flatten = (ls.take k).flatten ++ (ls.drop k).flatten := by rw [← List.flatten_append, List.take_append_drop]
  rw [this, List.length_append]
  omega

set_option maxRecDepth 100000 in
set_option maxHeartbeats 2000000 in
theorem concat_gives (w : World) (A : Option Addr) (c : Nat) (zs : List (Piece w w.heap.size)) (hI : InLL w w.heap.size A c zs) (hmax : (zs.map Piece.l).flatten.length ≤ 1000000000) :
    Calls Try.prog 142 #[.slice A zs.length c] w (GivesB w (zs.map Piece.l).flatten) := by
  have hle := hI.le
  have hmx := hI.max
  have hfl := fun k => flat_le (zs.map Piece.l) k
  have hnx : ∀ k (h : k < zs.length), ((zs.map Piece.l).take (k + 1)).flatten = ((zs.map Piece.l).take k).flatten ++ zs[k].1.2 := fun k h => by
    rw [take_flat _ _ (by simpa using h)]
    simp [Piece.l]
  have hall : ((zs.map Piece.l).take zs.length).flatten = (zs.map Piece.l).flatten := by rw [List.take_of_length_le (by simp)]
  generalize zs.map Piece.l = ls at *
  have HX := Lib.hid hnx
  have HA := Lib.hid hall
  clear hnx hall
  have hs0 : (ls.take 0).flatten = [] := by simp
  go_enter Try.func142, Try.ntmps142
  go_wp2_with fail
  go_loop [3, 11] (fun s i => ∃ k t : Nat, k ≤ zs.length ∧ i = .int .i64 k ∧ s = .int .i64 t ∧ t ≤ 1000000000 ∧ Hid (t = (ls.take k).flatten.length)) (fun _ i => zs.length - (intOf i).toNat)
  case atStart => exact ⟨0, 0, Nat.zero_le _, rfl, rfl, by omega, Lib.hid (by simp)⟩
  case round =>
    obtain ⟨k, t, hk, rfl, rfl, ht, hT⟩ := hrel
    by_cases hlt : k < zs.length
    · obtain ⟨g, o, rfl, hg, hc⟩ := hI.lies (by omega)
      have hck := hc k hlt
      have hval : zs[k].val = .slice zs[k].1.1.1 zs[k].1.2.length zs[k].1.1.2 := rfl
      rw [hval] at hck
      have hnext : t + zs[k].1.2.length = (ls.take (k + 1)).flatten.length := by rw [HX.out k hlt, List.length_append, hT.out]
      have hbd := hfl (k + 1)
      have hN := Lib.hid hnext
      have hbd2 : t + zs[k].1.2.length ≤ 1000000000 := by omega
      have hwr : IntKind.i64.wrap ((t : Int) + (zs[k].1.2.length : Int)) = (t : Int) + (zs[k].1.2.length : Int) := wrap_i64_fr _ (by omega) (by omega)
      clear hc hval hnext hbd hfl
      go_wp2_with fail
      exact ⟨⟨k + 1, t + zs[k].1.2.length, by omega, by simp, by simp, hbd2, hN⟩, by simp [intOf]; omega⟩
    · obtain rfl : k = zs.length := by omega
      go_wp2_with fail
      refine (grow_gives t (by omega) _).mono ?_
      rintro e w1 ⟨v, rfl, hown, hB⟩
      go_wp2_with fail
      go_loopw [6, 27] (fun v i wr => ∃ k : Nat, k ≤ zs.length ∧ i = .int .i64 k ∧ OwnB wr w.heap.size v (ls.take k).flatten ∧ Below w.heap.size w wr) (fun _ i _ => zs.length - (intOf i).toNat)
      case atStart => exact ⟨0, Nat.zero_le _, rfl, by simpa using hown, hB⟩
      case round =>
        obtain ⟨k, hk, rfl, hown, hB⟩ := hrel
        have hBs := hB.size
        by_cases hlt : k < zs.length
        · obtain ⟨g, o, rfl, hg, hc⟩ := hI.lies (by omega)
          have hck := (hB.cell (p := ⟨g, o + k, none⟩) hg).trans (hc k hlt)
          have hval : zs[k].val = .slice zs[k].1.1.1 zs[k].1.2.length zs[k].1.1.2 := rfl
          rw [hval] at hck
          have hz := (zs[k].2.below hB).more hBs
          have hbd := hfl (k + 1)
          rw [HX.out k hlt, List.length_append] at hbd
          clear hc hval hfl
          have t1 : (ls.take k).flatten.length + zs[k].1.2.length ≤ 140737488355328 := by omega
          go_wp2_with (at_builtin; refine wp_appB rfl (.tmp 31) (.tmp 32) rfl w.heap.size u6 (ls.take k).flatten (by rfl) hown wr.heap.size zs[k].1.1.1 zs[k].1.1.2 zs[k].1.2 (by rfl) hz t1 hBs ?_; intro v' w2 hown2 hg2; have hB2 := hown.below hB hg2)
          refine ⟨⟨k + 1, by omega, by simp, by rw [HX.out k hlt]; exact hown2, hB2⟩, by simp [intOf]; omega⟩
        · obtain rfl : k = zs.length := by omega
          go_wp2
          go_ret
          rw [HA.out] at hown
          exact ⟨_, rfl, hown, hB⟩
end Go.Proofs.Ytlelckdcmlpmdaa
