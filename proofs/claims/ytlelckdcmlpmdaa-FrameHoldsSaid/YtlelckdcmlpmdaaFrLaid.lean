/- frame.laid. -/
import Derived.Test.YtlelckdcmlpmdaaFrHead
import Derived.Test.YtlelckdcmlpmdaaFrEnc
namespace Go.Proofs.Ytlelckdcmlpmdaa
open Go Go.RowKit Lou

set_option maxRecDepth 100000 in
set_option maxHeartbeats 4000000 in
theorem laid_gives (w : World) (A : Option Addr) (k : Nat) (y : List UInt8) (ls : List (List UInt8)) (u : Value) (hin : InB w w.heap.size A k y) (hu : Lists ls u w) (hm : ls.length ≤ 1000) (hp : ls.flatten.length = 25) (hy : y.length ≤ 100000) :
    Calls Try.prog 182 #[.slice A y.length k, u] w fun x w' => x = .returned (.agg ((sectB ls.flatten y).map b8).toArray) ∧ Below w.heap.size w w' := by
  have hB1 : Below w.heap.size w (w.alloc (.cells #[.int .u8 0, .int .u8 0, .int .u8 0, .int .u8 0, .int .u8 0, .int .u8 0, .int .u8 0, .int .u8 0, .int .u8 0, .int .u8 0, .int .u8 0, .int .u8 0, .int .u8 0, .int .u8 0, .int .u8 0, .int .u8 0, .int .u8 0, .int .u8 0, .int .u8 0, .int .u8 0, .int .u8 0, .int .u8 0, .int .u8 0, .int .u8 0, .int .u8 0, .int .u8 0, .int .u8 0, .int .u8 0, .int .u8 0, .int .u8 0, .int .u8 0, .int .u8 0, .int .u8 0, .int .u8 0, .int .u8 0, .int .u8 0, .int .u8 0, .int .u8 0, .int .u8 0, .int .u8 0, .int .u8 0, .int .u8 0, .int .u8 0, .int .u8 0, .int .u8 0, .int .u8 0, .int .u8 0, .int .u8 0, .int .u8 0, .int .u8 0, .int .u8 0, .int .u8 0, .int .u8 0, .int .u8 0, .int .u8 0, .int .u8 0, .int .u8 0, .int .u8 0, .int .u8 0, .int .u8 0, .int .u8 0, .int .u8 0, .int .u8 0, .int .u8 0] 236)) := (Below.refl _ w).alloc (Nat.le_refl _) _
  have hb1 : BlkIs (w.alloc (.cells #[.int .u8 0, .int .u8 0, .int .u8 0, .int .u8 0, .int .u8 0, .int .u8 0, .int .u8 0, .int .u8 0, .int .u8 0, .int .u8 0, .int .u8 0, .int .u8 0, .int .u8 0, .int .u8 0, .int .u8 0, .int .u8 0, .int .u8 0, .int .u8 0, .int .u8 0, .int .u8 0, .int .u8 0, .int .u8 0, .int .u8 0, .int .u8 0, .int .u8 0, .int .u8 0, .int .u8 0, .int .u8 0, .int .u8 0, .int .u8 0, .int .u8 0, .int .u8 0, .int .u8 0, .int .u8 0, .int .u8 0, .int .u8 0, .int .u8 0, .int .u8 0, .int .u8 0, .int .u8 0, .int .u8 0, .int .u8 0, .int .u8 0, .int .u8 0, .int .u8 0, .int .u8 0, .int .u8 0, .int .u8 0, .int .u8 0, .int .u8 0, .int .u8 0, .int .u8 0, .int .u8 0, .int .u8 0, .int .u8 0, .int .u8 0, .int .u8 0, .int .u8 0, .int .u8 0, .int .u8 0, .int .u8 0, .int .u8 0, .int .u8 0, .int .u8 0] 236)) w.heap.size 236 ((List.replicate 64 (0 : UInt8)).map b8).toArray := BlkIs.new w 236 #[.int .u8 0, .int .u8 0, .int .u8 0, .int .u8 0, .int .u8 0, .int .u8 0, .int .u8 0, .int .u8 0, .int .u8 0, .int .u8 0, .int .u8 0, .int .u8 0, .int .u8 0, .int .u8 0, .int .u8 0, .int .u8 0, .int .u8 0, .int .u8 0, .int .u8 0, .int .u8 0, .int .u8 0, .int .u8 0, .int .u8 0, .int .u8 0, .int .u8 0, .int .u8 0, .int .u8 0, .int .u8 0, .int .u8 0, .int .u8 0, .int .u8 0, .int .u8 0, .int .u8 0, .int .u8 0, .int .u8 0, .int .u8 0, .int .u8 0, .int .u8 0, .int .u8 0, .int .u8 0, .int .u8 0, .int .u8 0, .int .u8 0, .int .u8 0, .int .u8 0, .int .u8 0, .int .u8 0, .int .u8 0, .int .u8 0, .int .u8 0, .int .u8 0, .int .u8 0, .int .u8 0, .int .u8 0, .int .u8 0, .int .u8 0, .int .u8 0, .int .u8 0, .int .u8 0, .int .u8 0, .int .u8 0, .int .u8 0, .int .u8 0, .int .u8 0]
  have hC := concatL_gives (lists_stable ls u w _ hu hB1) hm (by rw [hp]; omega)
  have hin1 := (hin.below hB1).more hB1.size
  generalize ls.flatten = p at *
  have HP := Lib.hid hp
  clear hp hu hm hin
  go_enter Try.func182, Try.ntmps182
  go_wp2_with fail
  refine hC.mono ?_
  rintro x W2 ⟨v2, rfl, own2, hB⟩
  obtain ⟨A2, c2, rfl, hin2⟩ := own2.inB
  have hB2 := hB1.trans (hB.mono hB1.size)
  have hb2 := hb1.below hB hb1.lt
  have hy2 := (hin1.below hB).more hB.size
  clear hB hB1 hb1 hin1 hC own2
  go_wp2_with fail
  have S2 := sum2_gives W2.drew A2 A c2 k p y hin2.drew hy2.drew
  have s2 := hB2.size
  obtain ⟨S, hS⟩ : ∃ S, sumL (p ++ y) = S := ⟨_, rfl⟩
  rw [hS] at S2
  have HS := Lib.hid hS
  clear hS
  obtain ⟨d, hd⟩ : ∃ d, p ++ fixL 4 S = d := ⟨_, rfl⟩
  have HD := Lib.hid hd
  clear hd
  go_region_held3 (fun _ => True) (trivial) (first
    | (go_at_call 29; refine S2.mono ?_; rintro x W3 ⟨rfl, hB3⟩; have hb3 := hb2.drew.below hB3 hb2.lt; have hp3 := (hin2.drew.below hB3).more hB3.size)
    | (go_at_call 43; refine (four_gives _ _).mono ?_; rintro x W4 ⟨v4, rfl, own4, hB4⟩; have hb4 := hb3.below hB4 hb3.lt; have hp4 := (hp3.below hB4).more hB4.size; obtain ⟨A4, c4, rfl, hin4⟩ := own4.inB; have C5 := concat2_gives W4 A2 A4 c2 c4 p (fixL 4 S) hp4 hin4 (by rw [HP.out, fixL_length]; omega); rw [HD.out] at C5)
    | (go_at_call 142; refine C5.mono ?_; rintro x W5 ⟨v5, rfl, own5, hB5⟩; have hb5 := hb4.below hB5 hb4.lt; obtain ⟨A5, c5, rfl, hin5⟩ := own5.inB)
    | (revert hb5; intro hb5; refine step_copyB (by rfl) (.tmp 8) (.tmp 16) (by rfl) w.heap.size 0 (List.replicate 64 0) d A5 c5 _ 64 64 (by rfl) (by rfl) hb5 hin5 (by simp) ?_))
  have hsp : spliceB (List.replicate 64 0) 0 64 d = sectB p y := by
    have := HP.out
    rw [← HD.out]
    simp only [spliceB, sectB, HS.out, List.take_zero, List.nil_append, Nat.zero_add, List.drop_replicate, List.length_append, fixL_length]
    rw [List.take_of_length_le (by simp [fixL_length]; omega), Nat.min_eq_left (by omega), this]
  rw [hsp]
  have hb6 := hb5.setRow ((sectB p y).map b8).toArray
  have hB5' : Below w.heap.size w W5 := hB2.drew.trans ((hB3.trans ((hB4.trans (hB5.mono hB4.size)).mono hB3.size)).mono s2)
  have hB6 : Below w.heap.size w (W5.setRow w.heap.size ((sectB p y).map b8).toArray) := below_setRow hB5' (Nat.le_refl _) _
  generalize W5.setRow w.heap.size ((sectB p y).map b8).toArray = W6 at *
  clear hb5 hB5 hin5 own5 hsp C5 hB5' hb4 hB4 hp4 own4 hin4 hb3 hB3 hp3
  have h64 : ((sectB p y).map b8).toArray.size = 64 := by
    have := HP.out
    simp [sectB_length]; omega
  have hRow : RowTy Try.prog 236 ((sectB p y).map b8).toArray.size := by rw [h64]; exact rowSector
  clear h64
  go_wp2_with (first
    | (refine wp_loadW rfl 236 (.tmp 4) rfl w.heap.size rfl hRow hb6 rfl ?_)
    | (refine wp_storeW rfl 236 (.tmp 4) (.tmp 18) rfl w.heap.size rfl rfl hRow hb6 rfl rfl (b8_one _) ?_))
  have hself : W6.setRow w.heap.size ((sectB p y).map b8).toArray = W6 := setRow_self W6 _ _ _ _ hb6
  rw [hself]
  exact bodyPost_ret_by (results_cellW 4 rfl rfl hRow hb6 rfl) rfl ⟨rfl, hB6⟩
end Go.Proofs.Ytlelckdcmlpmdaa
