/- frame: within (slices.ContainsFunc over ints), Check, place, Sectors, FrameAt, PageAt. -/
import Derived.Test.YtlelckdcmlpmdaaRange
namespace Go.Proofs.Ytlelckdcmlpmdaa
open Go Go.RowKit Lou

/-- Numbers that lie in a row. -/
structure InN (w : World) (A : Option Addr) (xs : List Int) : Prop where
  lies : 0 < xs.length → ∃ g o, A = some ⟨g, o, none⟩ ∧ ∀ j (h : j < xs.length), w.cell? ⟨g, o + j, none⟩ = some (.int .i64 xs[j])

theorem wrap_i64_fr (n : Int) (h0 : -9223372036854775808 ≤ n) (h1 : n < 9223372036854775808) : IntKind.i64.wrap n = n := by
  simp [IntKind.wrap, IntKind.bits, IntKind.signed]
  split <;> omega

set_option maxRecDepth 100000 in
set_option maxHeartbeats 1000000 in
theorem indexFunc_gives (w : World) (A : Option Addr) (c : Nat) (xs : List Int) (h : InN w A xs) (hmax : xs.length ≤ 9223372036854775807) (p : Int → Bool) (f : FuncId) (lb : Array Value) (ef : ∀ args w, (callFunc f args).run Try.prog w = .ok (.enter f args) w)
    (hf : ∀ x, Calls Try.prog f (#[.int .i64 x] ++ lb) w fun e w' => e = .returned (.bool (p x)) ∧ w = w') :
    Calls Try.prog 201 #[.slice A xs.length c, .func (.func f) #[] lb] w fun e w' => (∃ k : Int, e = .returned (.int .i64 k) ∧ decide (0 ≤ k) = xs.any p) ∧ w = w' := by
  go_enter Try.func201, Try.ntmps201
  go_wp2_with fail
  go_loop [8] (fun i => ∃ k : Nat, k ≤ xs.length ∧ i = .int .i64 k ∧ Hid ((xs.take k).any p = false)) (fun i => xs.length - (intOf i).toNat)
  case atStart => exact ⟨0, Nat.zero_le _, rfl, Lib.hid (by simp)⟩
  case round =>
    obtain ⟨k, hk, rfl, hno⟩ := hrel
    by_cases hlt : k < xs.length
    · obtain ⟨g, o, rfl, hc⟩ := h.lies (by omega)
      have hck := hc k hlt
      have H := hf xs[k]
      clear hc hf
      have hk1 : IntKind.i64.wrap ((k : Int) + 1) = (k : Int) + 1 := wrap_i64_fr _ (by omega) (by omega)
      have hnext : p xs[k] = false → (xs.take (k + 1)).any p = false := by
        intro hp
        rw [List.take_succ_eq_append_getElem hlt, List.any_append, hno.out]
        simp [hp]
      have hyes : p xs[k] = true → xs.any p = true := fun hp => List.any_eq_true.2 ⟨xs[k], List.getElem_mem hlt, hp⟩
      cases hp : p xs[k] with
      | true =>
        have hy := hyes hp
        rw [hp] at H
        go_wp2_with fail
        refine H.mono ?_
        clear H
        rintro e w' ⟨rfl, rfl⟩
        go_wp2
        go_ret
        exact ⟨⟨(k : Int), rfl, by rw [hy]; simp⟩, rfl⟩
      | false =>
        have hn := Lib.hid (hnext hp)
        rw [hp] at H
        clear hnext hyes
        go_wp2_with fail
        refine H.mono ?_
        clear H
        rintro e w' ⟨rfl, rfl⟩
        go_wp2
        refine ⟨⟨k + 1, by omega, by go_num, hn⟩, by simp [intOf]; omega⟩
    · obtain rfl : k = xs.length := by omega
      have hn := hno.out
      rw [List.take_length] at hn
      have hN := Lib.hid hn
      clear hn hno hf
      go_wp2
      go_ret
      exact ⟨⟨-1, rfl, by rw [hN.out]; simp⟩, rfl⟩

set_option maxRecDepth 100000 in
set_option maxHeartbeats 1000000 in
theorem within1_gives (w : World) (a b : Addr) (lo hi x : Int) (ha : w.cell? a = some (.int .i64 lo)) (hb : w.cell? b = some (.int .i64 hi)) :
    Calls Try.prog 174 (#[.int .i64 x] ++ #[.pointer (some a), .pointer (some b)]) w fun e w' => e = .returned (.bool (decide (x < lo) || decide (hi < x))) ∧ w = w' := by
  by_cases h1 : x < lo
  · go_enter Try.func174, Try.ntmps174
    go_wp2
    go_ret
    exact ⟨by simp [h1], rfl⟩
  · go_enter Try.func174, Try.ntmps174
    go_wp2
    go_ret
    have h2 : decide (x < lo) = false := decide_eq_false (by omega)
    exact ⟨by rw [h2, Bool.false_or]; rfl, rfl⟩

def isIn (lo hi : Int) (xs : List Int) : Bool := !xs.any (fun x => decide (x < lo) || decide (hi < x))
theorem isIn_one (lo hi x : Int) : isIn lo hi [x] = decide (lo ≤ x ∧ x ≤ hi) := by
  simp only [isIn, List.any_cons, List.any_nil, Bool.or_false]
  by_cases h1 : x < lo <;> by_cases h2 : hi < x <;> simp [h1, h2] <;> omega
theorem isIn_two (lo hi x y : Int) : isIn lo hi [x, y] = (isIn lo hi [x] && isIn lo hi [y]) := by
  simp [isIn, Bool.not_or]

set_option maxRecDepth 100000 in
set_option maxHeartbeats 1000000 in
theorem within_gives (w : World) (A : Option Addr) (c : Nat) (xs : List Int) (h : InN w A xs) (hA : ∀ g o, A = some ⟨g, o, none⟩ → g < w.heap.size) (hmax : xs.length ≤ 9223372036854775807) (lo hi : Int) :
    Calls Try.prog 126 #[.int .i64 lo, .int .i64 hi, .slice A xs.length c] w fun e w' => e = .returned (.bool (isIn lo hi xs)) ∧ Below w.heap.size w w' := by
  have hb : Below w.heap.size w ((w.alloc (.cells #[.int .i64 lo] 3)).alloc (.cells #[.int .i64 hi] 3)) := ((Below.refl _ _).alloc (Nat.le_refl _) _).alloc (by simp) _
  have b0 := (BlkIs.new w 3 #[.int .i64 lo]).alloc (.cells #[.int .i64 hi] 3)
  have b1 := BlkIs.new (w.alloc (.cells #[.int .i64 lo] 3)) 3 #[.int .i64 hi]
  rw [World.size_alloc] at b1
  have hin : InN ((w.alloc (.cells #[.int .i64 lo] 3)).alloc (.cells #[.int .i64 hi] 3)) A xs := ⟨fun hl => by
    obtain ⟨g, o, e, hc⟩ := h.lies hl
    exact ⟨g, o, e, fun j hj => (hb.cell (p := ⟨g, o + j, none⟩) (hA g o e)).trans (hc j hj)⟩⟩
  have H := indexFunc_gives _ A c xs hin hmax (fun x => decide (x < lo) || decide (hi < x)) 174 #[.pointer (some ⟨w.heap.size, 0, none⟩), .pointer (some ⟨w.heap.size + 1, 0, none⟩)] (enters_of Try.func174 (by kernel_rfl) rfl)
    (fun x => within1_gives _ _ _ lo hi x b0.boxed b1.boxed)
  have H2 : Calls Try.prog 173 #[.slice A xs.length c, .func (.func 174) #[] #[.pointer (some ⟨w.heap.size, 0, none⟩), .pointer (some ⟨w.heap.size + 1, 0, none⟩)]] ((w.alloc (.cells #[.int .i64 lo] 3)).alloc (.cells #[.int .i64 hi] 3))
      fun e w' => e = .returned (.bool (xs.any (fun x => decide (x < lo) || decide (hi < x)))) ∧ ((w.alloc (.cells #[.int .i64 lo] 3)).alloc (.cells #[.int .i64 hi] 3)) = w' := by
    go_enter Try.func173, Try.ntmps173
    go_wp2_with fail
    refine H.mono ?_
    rintro e w' ⟨⟨k, rfl, hk⟩, rfl⟩
    have hK := Lib.hid hk
    clear hk
    go_wp2
    go_ret
    exact ⟨congrArg (fun b => Ending.returned (.bool b)) hK.out, rfl⟩
  clear H
  go_enter Try.func126, Try.ntmps126
  go_wp2_with fail
  refine H2.mono ?_
  rintro e w' ⟨rfl, rfl⟩
  go_wp2
  go_ret
  exact ⟨rfl, hb⟩
end Go.Proofs.Ytlelckdcmlpmdaa
