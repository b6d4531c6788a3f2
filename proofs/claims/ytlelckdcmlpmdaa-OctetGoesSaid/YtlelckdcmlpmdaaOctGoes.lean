/- octet.Numbers: what its function goes through. -/
import Derived.Test.YtlelckdcmlpmdaaOctRead
import Derived.Test.YtlelckdcmlpmdaaOctStr
import Derived.Test.YtlelckdcmlpmdaaOctSum
namespace Lou
/-- The numbers read in order from the start, and where the next would stand. -/
inductive Run (l : List UInt8) : List (Nat × Nat) → Nat → Prop
  | nil : Run l [] 0
  | snoc {pre : List (Nat × Nat)} {p v u : Nat} : Run l pre p → rd (l.drop p) = some (v, u) → Run l (pre ++ [(p, v)]) (p + u)
theorem Run.le {l : List UInt8} {pre : List (Nat × Nat)} {p : Nat} (h : Run l pre p) : pre.length ≤ p ∧ p ≤ l.length := by
  induction h with
  | nil => simp
  | snoc _ hr ih =>
    have := rd_bound hr
    simp at this ⊢
    omega
theorem Run.inv {l : List UInt8} {r : List (Nat × Nat)} {q : Nat} (h : Run l r q) : (r = [] ∧ q = 0) ∨ ∃ pre p v u, r = pre ++ [(p, v)] ∧ q = p + u ∧ Run l pre p ∧ rd (l.drop p) = some (v, u) := by
  cases h with
  | nil => exact .inl ⟨rfl, rfl⟩
  | snoc h hr => exact .inr ⟨_, _, _, _, rfl, rfl, h, hr⟩
theorem Run.det {l : List UInt8} {pre : List (Nat × Nat)} {p : Nat} (h : Run l pre p) : ∀ {q}, Run l pre q → p = q := by
  induction h with
  | nil =>
    intro q hq
    rcases hq.inv with ⟨_, e⟩ | ⟨pre, p, v, u, e, _⟩
    · exact e.symm
    · simp at e
  | snoc h hr ih =>
    intro q hq
    rcases hq.inv with ⟨e, _⟩ | ⟨pre', p', v', u', e, rfl, h', hr'⟩
    · simp at e
    · have e1 := List.append_inj' e rfl
      obtain ⟨rfl, e2⟩ := e1
      simp only [List.cons.injEq, Prod.mk.injEq, and_true] at e2
      obtain ⟨rfl, rfl⟩ := e2
      rw [hr] at hr'
      injection hr' with e3
      injection e3 with _ e4
      rw [e4]
/-- What stands next is the only one that goes on. -/
theorem Run.next {l : List UInt8} {pre : List (Nat × Nat)} {p : Nat} (h : Run l pre p) {x : Nat × Nat} {q : Nat} (h' : Run l (pre ++ [x]) q) : ∃ u, x.1 = p ∧ rd (l.drop p) = some (x.2, u) ∧ q = p + u := by
  rcases h'.inv with ⟨e, _⟩ | ⟨pre', p', v', u', e, rfl, h2, hr'⟩
  · simp at e
  · have e1 := List.append_inj' e rfl
    obtain ⟨rfl, e2⟩ := e1
    simp only [List.cons.injEq, and_true] at e2
    subst e2
    have := h.det h2
    subst this
    exact ⟨u', rfl, hr', rfl⟩
end Lou
namespace Go.Proofs.Ytlelckdcmlpmdaa
open Go Go.RowKit Lou Go.Shelf
attribute [local go_sem] Oper.semAt_some

theorem wrap_i64_id' (n : Int) (h0 : -9223372036854775808 ≤ n) (h1 : n < 9223372036854775808) : IntKind.i64.wrap n = n := by
  simp [IntKind.wrap, IntKind.bits, IntKind.signed]
  split <;> omega
theorem rdV_some' {l : List UInt8} {n k : Nat} (h : rd l = some (n, k)) : rdV l = .tuple #[.int .u64 n, .int .i64 k, .int .i64 0] := rdV_some h
theorem rdV_none' {l : List UInt8} (h : rd l = none) : ∃ e : Int, e ≠ 0 ∧ rdV l = .tuple #[.int .u64 0, .int .i64 0, .int .i64 e] := ⟨130, by decide, rdV_none h⟩

theorem wpIn_scope_wide {P : Program} {n : Nat} {c : Code} {Q : Exit → Act → World → Prop} {a : Act} {w : World} (h : c.wpIn Fence.wide n P (Exit.noGoto Q) a w) : (Code.scope c).wpIn Fence.wide n P Q a w := wpIn_wide.2 (wp_scope_straight (wpIn_wide.1 h))
section
variable {w0 : World} {n₀ : Nat}

set_option maxRecDepth 100000 in
set_option maxHeartbeats 2000000 in
theorem numbers1_in (n : Nat) (hn2 : 2 ≤ n) (l Bs : Nat) (A : Option Addr) (c : Nat) (b : List UInt8) (J Jx : List (Nat × Nat) → World → Prop)
    (hY : ∀ pre x W, J pre W → pre.length < b.length → YieldAt Fence.wide (n - 1) Try.prog l #[.int .i64 (x.1 : Int), .int .u64 (x.2 : Int)] W fun e W' =>
      (e = .returned (.bool true) ∧ J (pre ++ [x]) W' ∧ Below n₀ W W') ∨ (e = .returned (.bool false) ∧ Jx (pre ++ [x]) W'))
    (W : World) (hBn : Bs < n₀) (hBs : W.cell? ⟨Bs, 0, none⟩ = some (.slice A b.length c)) (hin : InB W n₀ A c b) (h0 : J [] W) :
    CallsIn Fence.wide n Try.prog 101 #[.func (.yield l) #[] #[], .pointer (some ⟨Bs, 0, none⟩)] W fun e W' => (∃ v, e = .returned v) ∧
      ((∃ ys, (∃ p, Run b ys p ∧ (p < b.length → rd (b.drop p) = none)) ∧ J ys W') ∨ (∃ pre, (∃ p, Run b pre p) ∧ Jx pre W')) := by
  have hle := hin.le
  have hmax := hin.max
  have h1 : 1 ≤ n := by omega
  refine callsIn_of_wp Try.func101 rfl trivial ?_ rfl
  simp only [Try.ntmps101, List.size_toArray, List.length_cons, List.length_nil, Nat.reduceAdd, Nat.reduceSub, Array.replicate_succ, Array.replicate_zero, List.push_toArray, List.append_toArray, List.nil_append, List.cons_append]
  refine wpIn_scope_wide ?_
  gi_wp2
  refine wpIn_label ?_
  gi_wp2
  gi_loopw [3] (fun i wr => ∃ (p : Nat) (pre : List (Nat × Nat)), p ≤ b.length ∧ i = .int .i64 p ∧ Run b pre p ∧ J pre wr ∧ Below n₀ W wr)
    (fun i _ => b.length - (intOf i).toNat)
  case atStart => exact ⟨0, [], Nat.zero_le _, rfl, .nil, h0, Below.refl _ _⟩
  case round =>
    obtain ⟨p, pre, hp, rfl, hrun, hJs, hnx⟩ := hrel
    have hcx : wr.cell? ⟨Bs, 0, none⟩ = some (.slice A b.length c) := (hnx.cell (p := ⟨Bs, 0, none⟩) hBn).trans hBs
    by_cases hlt : p < b.length
    · have hcm : cutA A c p = Option.map (fun x => x.add p) A := if_neg (by omega)
      have hind := (hin.below hnx).drop p hp
      have hpl := hrun.le.1
      rw [hcm] at hind
      clear hcm
      rcases hrd : rd (b.drop p) with _ | ⟨v, u⟩
      · obtain ⟨e, he, hv⟩ := rdV_none' hrd
        have H := readNumber_gives wr n₀ _ (c - p) (b.drop p) hind
        rw [hv, List.length_drop] at H
        gi_wp2_with (refine ⟨trivial, ?_⟩; gi_at_call 38; refine (callsIn_wide.2 H).mono ?_; rintro e' w' ⟨rfl, rfl⟩)
        refine ⟨fun _ h => (by cases h), ?_⟩
        gi_wp2
        simp only [Exit.noGoto]
        go_end0
        exact ⟨⟨_, rfl⟩, .inl ⟨pre, ⟨p, hrun, fun _ => hrd⟩, hJs⟩⟩
      · have hbd := rd_bound hrd
        have hbl : (b.drop p).length = b.length - p := List.length_drop
        have H := readNumber_gives wr n₀ _ (c - p) (b.drop p) hind
        rw [rdV_some' hrd, List.length_drop] at H
        obtain ⟨fn, tmps, assign, body, hy, hR⟩ := hY pre (p, v) wr hJs (by omega)
        have hwr : IntKind.i64.wrap ((p : Int) + (u : Int)) = (p : Int) + (u : Int) := wrap_i64_id' _ (by omega) (by omega)
        gi_wp2_with (first | (refine ⟨trivial, ?_⟩; gi_at_call 38; refine (callsIn_wide.2 H).mono ?_; rintro e' w' ⟨rfl, rfl⟩))
        refine hR.mono ?_
        rintro e W3 (⟨rfl, hJ3, hk3⟩ | ⟨rfl, hJx3⟩)
        · gi_wp2
          go_roundw
          case rel => exact ⟨p + u, pre ++ [(p, v)], by omega, by simp, .snoc hrun hrd, hJ3, hnx.trans hk3⟩
          case measure => simp [intOf]; omega
        · gi_wp2
          simp only [Exit.noGoto]
          go_end0
          exact ⟨⟨_, rfl⟩, .inr ⟨_, ⟨_, .snoc hrun hrd⟩, hJx3⟩⟩
    · obtain rfl : p = b.length := by omega
      gi_wp2
      simp only [Exit.noGoto]
      go_end0
      exact ⟨⟨_, rfl⟩, .inl ⟨pre, ⟨_, hrun, fun h => by omega⟩, hJs⟩⟩

theorem numbers_stops (n : Nat) (hn2 : 2 ≤ n) (Bs : Nat) (A : Option Addr) (c : Nat) (b : List UInt8) (hin : InB w0 n₀ A c b) (w : World) (hb0 : Below n₀ w0 w) (hBs : Bs < n₀) (hn₀ : n₀ ≤ w.heap.size)
    (hc : w.cell? ⟨Bs, 0, none⟩ = some (.slice A b.length c)) :
    SeqStopsK Fence.wide n Try.prog 101 #[.pointer (some ⟨Bs, 0, none⟩)] (fun x : Nat × Nat => #[.int .i64 (x.1 : Int), .int .u64 (x.2 : Int)]) (Below n₀)
      (fun ys => ∃ p, Run b ys p ∧ (p < b.length → rd (b.drop p) = none)) (fun pre => ∃ p, Run b pre p) b.length w := fun l J Jx W hW _ _ hY h0 =>
  numbers1_in n hn2 l Bs A c b J Jx hY W hBs ((hW.cell (p := ⟨Bs, 0, none⟩) (by simp; omega)).trans hc) (hin.below (hb0.trans (hW.mono hn₀))) h0
end
set_option maxHeartbeats 1000000 in
theorem numbers_in (n : Nat) (a : Option Addr) (len cap : Nat) (w : World) :
    CallsIn Fence.wide n Try.prog 30 #[.slice a len cap] w fun e w' => e = .returned (.func (.func 101) #[] #[.pointer (some ⟨w.heap.size, 0, none⟩)]) ∧ w.alloc (.cells #[.slice a len cap] 30) = w' := by
  refine callsIn_of_wp Try.func30 rfl trivial ?_ rfl
  simp only [Try.ntmps30, List.size_toArray, List.length_cons, List.length_nil, Nat.reduceAdd, Nat.reduceSub, Array.replicate_succ, Array.replicate_zero, List.push_toArray, List.append_toArray, List.nil_append, List.cons_append]
  gi_wp2
  go_ret
  exact ⟨rfl, rfl⟩
theorem wpIn_by_stop {F : Fence} {n : Nat} {P : Program} {C : Code} {Q : Exit → Act → World → Prop} {a0 : Act} {w0 : World} (S : Act → Act → World → Prop) (h1 : ∀ Q', (∀ a w, S a0 a w → Q' .normal a w) → C.wpIn F n P Q' a0 w0) (h2 : ∀ a w, S a0 a w → Q .normal a w) : C.wpIn F n P Q a0 w0 := h1 Q h2
end Go.Proofs.Ytlelckdcmlpmdaa
