/- math/bits.Mul of small numbers. -/
import Derived.Test.YtlelckdcmlpmdaaKit
namespace Go.Proofs.Ytlelckdcmlpmdaa
open Go Go.RowKit Lou

theorem and_mask (x : Nat) (h : x < 4294967296) : bits .and .u64 (x : Int) 4294967295 = (x : Int) := by
  have h2 := u64_and_nat x 4294967295 (by omega) (by omega)
  have e : x &&& 4294967295 = x % 4294967296 := Nat.and_two_pow_sub_one_eq_mod x 32
  rw [e, Nat.mod_eq_of_lt h] at h2
  exact h2
set_option maxRecDepth 100000 in
set_option maxHeartbeats 1000000 in
theorem mul64_gives (x y : Nat) (hx : x < 65536) (hy : y < 65536) (w : World) : Calls Try.prog 223 #[.int .u64 x, .int .u64 y] w fun e w' => e = .returned (.tuple #[.int .u64 0, .int .u64 ((x * y : Nat) : Int)]) ∧ w = w' := by
  have hxy : x * y < 4294967296 := Nat.mul_lt_mul'' hx hy
  have e1 := and_mask x (by omega)
  have e2 := and_mask y (by omega)
  have e3 := and_mask (x * y) hxy
  have h0 : (x : Int) / 4294967296 = 0 := by omega
  have h1 : (y : Int) / 4294967296 = 0 := by omega
  have h2 : ((x * y : Nat) : Int) / 4294967296 = 0 := by omega
  have h3 : IntKind.u64.wrap ((x * y : Nat) : Int) = ((x * y : Nat) : Int) := by
    show ((x * y : Nat) : Int) % 18446744073709551616 = _
    omega
  have h4 : IntKind.u64.wrap 0 = 0 := by decide
  have hm : ((x * y : Nat) : Int) = (x : Int) * (y : Int) := by simp
  rw [hm] at e3 h2 h3 ⊢
  have h5 : bits .and .u64 0 4294967295 = 0 := and_mask 0 (by omega)
  clear hm hxy hx hy
  go_enter Try.func223, Try.ntmps223
  go_wp2
  refine bodyPost_ret (results_tmp2 rfl _ _ _) rfl ?_
  exact ⟨rfl, rfl⟩
set_option maxRecDepth 100000 in
set_option maxHeartbeats 1000000 in
theorem mul_gives (x y : Nat) (hx : x < 65536) (hy : y < 65536) (w : World) : Calls Try.prog 205 #[.int .u64 x, .int .u64 y] w fun e w' => e = .returned (.tuple #[.int .u64 0, .int .u64 ((x * y : Nat) : Int)]) ∧ w = w' := by
  have H := mul64_gives x y hx hy w
  generalize x * y = z at *
  go_enter Try.func205, Try.ntmps205
  go_wp2_with fail
  refine H.mono ?_
  rintro e w' ⟨rfl, rfl⟩
  go_wp2
  refine bodyPost_ret (results_tmp2 rfl _ _ _) rfl ?_
  exact ⟨rfl, rfl⟩
end Go.Proofs.Ytlelckdcmlpmdaa
