/- frame.flags: a map of two closures. -/
import Derived.Test.YtlelckdcmlpmdaaFrHead
import Derived.Test.YtlelckdcmlpmdaaMapIs
namespace Go.Proofs.Ytlelckdcmlpmdaa
open Go Go.RowKit Lou

set_option maxRecDepth 100000 in
set_option maxHeartbeats 1000000 in
theorem flag1_gives (w : World) (c : UInt8) : Calls Try.prog 206 #[.int .u8 (c.toNat : Int)] w fun x w' => x = .returned (.func (.func 207) #[] #[.pointer (some ⟨w.heap.size, 0, none⟩)]) ∧ w' = w.alloc (.cells #[.int .u8 (c.toNat : Int)] 5) := by
  go_enter Try.func206, Try.ntmps206
  go_wp2
  go_ret
  exact ⟨rfl, rfl⟩
set_option maxRecDepth 100000 in
set_option maxHeartbeats 1000000 in
theorem flag11_gives (w : World) (g : Nat) (c : UInt8) (hb : BlkIs w g 5 #[.int .u8 (c.toNat : Int)]) : Calls Try.prog 207 #[.pointer (some ⟨g, 0, none⟩)] w (GivesB w [c]) := by
  have hc := hb.boxed
  go_enter Try.func207, Try.ntmps207
  go_wp2
  go_ret
  refine ⟨_, rfl, ?_, (Below.refl _ _).alloc (Nat.le_refl _) _⟩
  exact World.ownsRow_lit w #[.int .u8 (c.toNat : Int)] 1 (Nat.le_refl _) (by unfold maxLen; omega) rfl
/-- The two flags' bytes lie behind closures in a map. -/
def FlagsAt (w : World) (v : Value) : Prop := ∃ r g0 g1 clock, v = .map (some r) ∧ MapIs w r #[⟨.bool false, .func (.func 207) #[] #[.pointer (some ⟨g0, 0, none⟩)], 0⟩, ⟨.bool true, .func (.func 207) #[] #[.pointer (some ⟨g1, 0, none⟩)], 1⟩] clock ∧
  BlkIs w g0 5 #[.int .u8 0] ∧ BlkIs w g1 5 #[.int .u8 1]
theorem FlagsAt.below {w w' : World} {v : Value} (h : FlagsAt w v) (hB : Below w.heap.size w w') : FlagsAt w' v := by
  obtain ⟨r, g0, g1, clock, hv, h1, h2, h3⟩ := h
  exact ⟨r, g0, g1, clock, hv, h1.below hB h1.lt, h2.below hB h2.lt, h3.below hB h3.lt⟩
theorem key_bool (b : Bool) : MapKept.IsKey .bool (.bool b) := trivial
set_option maxRecDepth 100000 in
set_option maxHeartbeats 1000000 in
theorem flags_gives (w : World) : Calls Try.prog 183 #[] w fun x w' => ∃ v, x = .returned v ∧ FlagsAt w' v ∧ Below w.heap.size w w' := by
  have F0 : ∀ W, Calls Try.prog 206 #[.int .u8 0] W fun x w' => x = .returned (.func (.func 207) #[] #[.pointer (some ⟨W.heap.size, 0, none⟩)]) ∧ w' = W.alloc (.cells #[.int .u8 0] 5) := fun W => flag1_gives W 0
  have F1 : ∀ W, Calls Try.prog 206 #[.int .u8 1] W fun x w' => x = .returned (.func (.func 207) #[] #[.pointer (some ⟨W.heap.size, 0, none⟩)]) ∧ w' = W.alloc (.cells #[.int .u8 1] 5) := fun W => flag1_gives W 1
  have hu := Try.underlying283
  have hk := Try.underlying4
  go_enter Try.func183, Try.ntmps183
  go_wp2_with (first
    | (refine wp_makeMap rfl rfl ?_; intro hm1; have hB1 : Below w.heap.size w (w.alloc (.map #[] 0)) := (Below.refl _ w).alloc (Nat.le_refl _) _)
    | (go_at_call 206; (with_reducible refine (F0 _).mono ?_); rintro x w2 ⟨rfl, rfl⟩; have hm2 := hm1.below ((Below.refl _ _).alloc (Nat.le_refl _) (.cells #[.int .u8 0] 5)) hm1.lt; have hg2 := BlkIs.new (w.alloc (.map #[] 0)) 5 #[.int .u8 0]; have hB2 := hB1.alloc hB1.size (.cells #[.int .u8 0] 5))
    | (go_at_call 206; (with_reducible refine (F1 _).mono ?_); rintro x w4 ⟨rfl, rfl⟩; have hm4 := hm3.below ((Below.refl _ _).alloc (Nat.le_refl _) (.cells #[.int .u8 1] 5)) hm3.lt; have hg4 := hg3.alloc (.cells #[.int .u8 1] 5); have hq4 := BlkIs.new w3 5 #[.int .u8 1]; have hB4 := hB3.alloc hB3.size (.cells #[.int .u8 1] 5))
    | (revert hm2; intro hm2; refine wp_put_new (by rfl) (.tmp 2) (.const (.bool false)) (.tmp 4) (.inl (by rfl)) hu hk (key_bool false) (by rfl) (by rfl) (by rfl) hm2 (by rfl) ?_; intro w3 hm3 hr3; have hg3 := hg2.grownMap hm2 hr3; have hB3 : Below w.heap.size w w3 := hB2.trans (grown_below hr3 hB2.size (fun r hr => by injection hr with hr; omega)); clear hm1 hm2 hg2)
    | (revert hm4; intro hm4; refine wp_put_new (by rfl) (.tmp 2) (.const (.bool true)) (.tmp 6) (.inl (by rfl)) hu hk (key_bool true) (by rfl) (by rfl) (by rfl) hm4 (by rfl) ?_; intro w5 hm5 hr5; have hg5 := hg4.grownMap hm4 hr5; have hq5 := hq4.grownMap hm4 hr5; have hB5 : Below w.heap.size w w5 := hB4.trans (grown_below hr5 hB4.size (fun r hr => by injection hr with hr; omega))))
  go_ret
  rw [World.size_alloc] at hg5
  exact ⟨_, rfl, ⟨_, _, _, _, rfl, hm5, hg5, hq5⟩, hB5⟩
end Go.Proofs.Ytlelckdcmlpmdaa
