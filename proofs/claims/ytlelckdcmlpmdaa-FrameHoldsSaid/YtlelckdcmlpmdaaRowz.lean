/- From a row's own reading of structs and arrays that came in to their parts. -/
import Derived.Test.YtlelckdcmlpmdaaRowy
import Derived.ProofKit
import Derived.OpenShut
import Derived.ShutString
import Derived.ChangeOld
import Derived.Below
namespace Go.Proofs.Ytlelckdcmlpmdaa
open Go Lou Go.ChangeShapes Go.WideShapes Go.ChangeAt Go.RowKit

section
variable {H : Type} {enc : TypeId × Value → H} {W : World} {r : Reach} {b0 b1 : Nat} {spare : Nat → Bool} {held : Bool} {v : Value} {d : DataW H} {p : List MemPlace}
set_option maxRecDepth 100000 in
theorem open_struct {T : TypeId} {fs : Array Field} (hu : Try.prog.underlying T = some (.struct fs)) (hval : Value.okWide Try.prog W r b0 T v) (h : DataW.Trod enc Try.prog W b1 spare held T v d p) :
    ∃ cs : List Value, v = .agg cs.toArray ∧ cs.length = Try.prog.cellsOf T ∧ ∀ (i : Nat) (f : Field), fs[i]? = some f → ∃ n x, DataW.trod enc Try.prog W b1 spare held n f.type ((cs.drop f.offset).take (Try.prog.cellsOf f.type)) = some x := by
  unfold Value.okWide at hval
  rw [hu] at hval
  obtain ⟨cs, rfl, hsz, _⟩ := hval
  obtain ⟨fuel, hf⟩ := h
  obtain ⟨xs, m, _, _, _, hl, hi⟩ := DataW.trod_struct hu hf
  refine ⟨cs.toList, by simp, by simpa using hsz, fun i f hif => ?_⟩
  have e := hi i f hif
  have hlt : i < xs.length := by rw [hl]; exact (Array.getElem?_eq_some_iff.1 hif).1
  rw [List.getElem?_eq_getElem hlt] at e
  exact ⟨m, _, e⟩
set_option maxRecDepth 100000 in
theorem open_arr {T e : TypeId} {n : Nat} (hu : Try.prog.underlying T = some (.array n e)) (hval : Value.okWide Try.prog W r b0 T v) (h : DataW.Trod enc Try.prog W b1 spare held T v d p) :
    ∃ cs : List Value, v = .agg cs.toArray ∧ cs.length = Try.prog.cellsOf T ∧ ∀ i, i < n → ∃ m x, DataW.trod enc Try.prog W b1 spare held m e ((cs.drop (i * Try.prog.cellsOf e)).take (Try.prog.cellsOf e)) = some x := by
  unfold Value.okWide at hval
  rw [hu] at hval
  obtain ⟨cs, rfl, hsz, _⟩ := hval
  obtain ⟨fuel, hf⟩ := h
  obtain ⟨xs, m, _, _, _, hl, hi⟩ := DataW.trod_array hu hf
  refine ⟨cs.toList, by simp, by simpa using hsz, fun i hin => ?_⟩
  have e := hi i hin
  rw [List.getElem?_eq_getElem (by omega)] at e
  exact ⟨m, _, e⟩
set_option maxRecDepth 100000 in
theorem one_int {T : TypeId} {k : IntKind} {n : Nat} {c : Value} {l : List Value} {x : DataW H × List MemPlace} (hu : Try.prog.underlying T = some (.int k)) (hc : Try.prog.cellsOf T = 1) (h : DataW.trod enc Try.prog W b1 spare held n T ((c :: l).take (Try.prog.cellsOf T)) = some x) : ∃ z, c = .int k z ∧ (Lit.int k z).wf = true := by
  rw [hc] at h
  obtain ⟨z, g, _, q⟩ := DataW.trod_int hu h
  simp at g
  exact ⟨z, g, q⟩
set_option maxRecDepth 100000 in
theorem one_bool {T : TypeId} {n : Nat} {c : Value} {l : List Value} {x : DataW H × List MemPlace} (hu : Try.prog.underlying T = some .bool) (hc : Try.prog.cellsOf T = 1) (h : DataW.trod enc Try.prog W b1 spare held n T ((c :: l).take (Try.prog.cellsOf T)) = some x) : ∃ z, c = .bool z := by
  rw [hc] at h
  obtain ⟨z, g, _⟩ := DataW.trod_bool hu h
  simp at g
  exact ⟨z, g⟩
set_option maxRecDepth 100000 in
theorem one_string {T : TypeId} {n : Nat} {c : Value} {l : List Value} {x : DataW H × List MemPlace} (hu : Try.prog.underlying T = some .string) (hc : Try.prog.cellsOf T = 1) (h : DataW.trod enc Try.prog W b1 spare held n T ((c :: l).take (Try.prog.cellsOf T)) = some x) : ∃ s : List UInt8, c = .string (str s) ∧ s.length ≤ maxLen := by
  rw [hc] at h
  obtain ⟨s, g, _, q⟩ := DataW.trod_string hu h
  simp at g
  exact ⟨s.data.toList, by rw [g, ← str_of s], by simpa using q⟩
set_option maxRecDepth 100000 in
theorem one_bytes {n : Nat} {c : Value} {l : List Value} {x : DataW H × List MemPlace} (h : DataW.trod enc Try.prog W b1 (fun _ => true) held n 30 ((c :: l).take (Try.prog.cellsOf 30)) = some x) : ∃ A k, ∃ s : List UInt8, c = .slice A s.length k ∧ InB W W.heap.size A k s := by
  have hc : Try.prog.cellsOf 30 = 1 := by kernel_rfl
  rw [hc] at h
  have key : ∃ a len cap zs, c = .slice a len cap ∧ IsRow .u8 W a len cap zs := by
    rcases open_ints Try.underlying30 Try.underlying5 (by kernel_rfl) h with ⟨hcs, _⟩ | ⟨y, l, k, zs, hcs, _, hl, hm, hz, _, hcell, hwz⟩
    · simp at hcs
      exact ⟨none, 0, 0, [], hcs, .inl ⟨rfl, rfl, rfl, rfl⟩⟩
    · simp at hcs
      exact ⟨some y, l, k, zs, hcs, .inr ⟨_, rfl, hl, hm, by simpa using hz, hcell, hwz⟩⟩
  obtain ⟨a, len, cap, zs, rfl, hr⟩ := key
  obtain ⟨s, rfl, hin⟩ := hr.inB
  exact ⟨a, cap, s, rfl, hin⟩
set_option maxRecDepth 100000 in
theorem bytes_in {A : Option Addr} {n k : Nat} (h : DataW.Trod enc Try.prog W b1 (fun _ => true) held 30 (.slice A n k) d p) : ∃ s : List UInt8, s.length = n ∧ InB W W.heap.size A k s := by
  obtain ⟨fuel, hf⟩ := h
  have hc : Try.prog.cellsOf 30 = 1 := by kernel_rfl
  obtain ⟨A', k', s, e, hin⟩ := one_bytes (c := .slice A n k) (l := []) (by rw [hc]; exact hf)
  injection e with e1 e2 e3
  subst e1 e2 e3
  exact ⟨s, rfl, hin⟩
set_option maxRecDepth 100000 in
theorem open_plan (hval : Value.okWide Try.prog W r b0 90 v) (h : DataW.Trod enc Try.prog W b1 spare held 90 v d p) : ∃ x0 x1 : Int, v = .agg #[.int .i64 x0, .int .i64 x1] := by
  obtain ⟨cs, rfl, hl, hi⟩ := open_struct Try.underlying90 hval h
  have h2 : Try.prog.cellsOf 90 = 2 := by kernel_rfl
  rw [h2] at hl
  match cs, hl with
  | [c0, c1], _ =>
    obtain ⟨_, _, e0⟩ := hi 0 _ rfl
    obtain ⟨_, _, e1⟩ := hi 1 _ rfl
    obtain ⟨x0, rfl, _⟩ := one_int Try.underlying3 (by kernel_rfl) e0
    obtain ⟨x1, rfl, _⟩ := one_int Try.underlying3 (by kernel_rfl) e1
    exact ⟨x0, x1, rfl⟩
set_option maxRecDepth 100000 in
theorem open_head (hval : Value.okWide Try.prog W r b0 109 v) (h : DataW.Trod enc Try.prog W b1 spare held 109 v d p) : ∃ s e : Nat, ∃ z c : Int, v = .agg #[.int .u64 s, .int .u64 e, .int .i64 z, .int .i64 c] ∧ s < 2 ^ 64 ∧ e < 2 ^ 64 := by
  obtain ⟨cs, rfl, hl, hi⟩ := open_struct Try.underlying109 hval h
  have h2 : Try.prog.cellsOf 109 = 4 := by kernel_rfl
  rw [h2] at hl
  match cs, hl with
  | [c0, c1, c2, c3], _ =>
    obtain ⟨_, _, e0⟩ := hi 0 _ rfl
    obtain ⟨_, _, e1⟩ := hi 1 _ rfl
    obtain ⟨_, _, e2⟩ := hi 2 _ rfl
    obtain ⟨_, _, e3⟩ := hi 3 _ rfl
    obtain ⟨x0, rfl, q0⟩ := one_int Try.underlying41 (by kernel_rfl) e0
    obtain ⟨x1, rfl, q1⟩ := one_int Try.underlying41 (by kernel_rfl) e1
    obtain ⟨x2, rfl, _⟩ := one_int Try.underlying3 (by kernel_rfl) e2
    obtain ⟨x3, rfl, _⟩ := one_int Try.underlying3 (by kernel_rfl) e3
    obtain ⟨m0, rfl, hm0⟩ := u64_wf q0
    obtain ⟨m1, rfl, hm1⟩ := u64_wf q1
    exact ⟨m0, m1, x2, x3, rfl, hm0, hm1⟩
set_option maxRecDepth 100000 in
theorem open_two (hval : Value.okWide Try.prog W r b0 132 v) (h : DataW.Trod enc Try.prog W b1 spare held 132 v d p) : ∃ x0 x1 : Int, v = .agg #[.int .i64 x0, .int .i64 x1] := by
  obtain ⟨cs, rfl, hl, hi⟩ := open_arr Try.underlying132 hval h
  have h2 : Try.prog.cellsOf 132 = 2 := by kernel_rfl
  have h1 : Try.prog.cellsOf 3 = 1 := by kernel_rfl
  rw [h2] at hl
  match cs, hl with
  | [c0, c1], _ =>
    obtain ⟨_, _, e0⟩ := hi 0 (by omega)
    obtain ⟨_, _, e1⟩ := hi 1 (by omega)
    rw [h1] at e0 e1
    obtain ⟨x0, g0, _⟩ := DataW.trod_int Try.underlying3 e0
    obtain ⟨x1, g1, _⟩ := DataW.trod_int Try.underlying3 e1
    simp at g0 g1
    subst g0 g1
    exact ⟨x0, x1, rfl⟩
theorem u32_wf {n : Int} (h : (Lit.int .u32 n).wf = true) : ∃ m : Nat, n = m ∧ m < 2 ^ 32 := by
  simp only [Lit.wf, Bool.and_eq_true, decide_eq_true_eq] at h
  have e1 : IntKind.u32.min = 0 := by decide
  have e2 : IntKind.u32.max = 4294967295 := by decide
  exact ⟨n.toNat, by omega, by omega⟩
set_option maxRecDepth 100000 in
theorem open_frame (hval : Value.okWide Try.prog W r b0 120 v) (h : DataW.Trod enc Try.prog W b1 (fun _ => true) held 120 v d p) : ∃ (e : Nat) (i q : Int) (f : Bool) (z : Int) (n : Nat) (A : Option Addr) (k : Nat) (y : List UInt8), v = .agg #[.int .u64 e, .int .i64 i, .int .i64 q, .bool f, .int .i64 z, .int .u32 n, .slice A y.length k] ∧ e < 2 ^ 64 ∧ n < 2 ^ 32 ∧ InB W W.heap.size A k y := by
  obtain ⟨cs, rfl, hl, hi⟩ := open_struct Try.underlying120 hval h
  have h2 : Try.prog.cellsOf 120 = 7 := by kernel_rfl
  rw [h2] at hl
  match cs, hl with
  | [c0, c1, c2, c3, c4, c5, c6], _ =>
    obtain ⟨_, _, e0⟩ := hi 0 _ rfl
    obtain ⟨_, _, e1⟩ := hi 1 _ rfl
    obtain ⟨_, _, e2⟩ := hi 2 _ rfl
    obtain ⟨_, _, e3⟩ := hi 3 _ rfl
    obtain ⟨_, _, e4⟩ := hi 4 _ rfl
    obtain ⟨_, _, e5⟩ := hi 5 _ rfl
    obtain ⟨_, _, e6⟩ := hi 6 _ rfl
    obtain ⟨x0, rfl, q0⟩ := one_int Try.underlying41 (by kernel_rfl) e0
    obtain ⟨x1, rfl, _⟩ := one_int Try.underlying3 (by kernel_rfl) e1
    obtain ⟨x2, rfl, _⟩ := one_int Try.underlying3 (by kernel_rfl) e2
    obtain ⟨x3, rfl⟩ := one_bool Try.underlying4 (by kernel_rfl) e3
    obtain ⟨x4, rfl, _⟩ := one_int Try.underlying3 (by kernel_rfl) e4
    obtain ⟨x5, rfl, q5⟩ := one_int Try.underlying45 (by kernel_rfl) e5
    obtain ⟨A, k, s, rfl, hin⟩ := one_bytes e6
    obtain ⟨m0, rfl, hm0⟩ := u64_wf q0
    obtain ⟨m5, rfl, hm5⟩ := u32_wf q5
    exact ⟨m0, x1, x2, x3, x4, m5, A, k, s, rfl, hm0, hm5, hin⟩
end
end Go.Proofs.Ytlelckdcmlpmdaa
