/- Proved: for every input the law DiskCopies returns true and leaves its arguments as they were. Conditions: none. -/
import Derived.Test.YtlelckdcmlpmdaaRows
import Derived.WalkKit
import Derived.ProofKit
import Derived.SizedLaws
import Derived.OpenShut
import Derived.ShutString
import Derived.ChangeOld
import Derived.Below
import Derived.Test.YtlelckdcmlpmdaaDiskCopiesB14
namespace Go.Proofs.Ytlelckdcmlpmdaa.diskCopies
open Go Lou Go.ChangeShapes Go.WideShapes Go.ChangeAt Go.RowKit
open Go.ChangeMaps (open_string shut_string)
set_option linter.unusedVariables false

theorem own : ownKnob Try.prog.godebug = none := by kernel_rfl
theorem laidOut : laidOutB Try.prog = true := by kernel_rfl
theorem walk (a0 : Int) (xA : Option Addr) (xk : Nat) (xs : List ActV) (y0 y1 : ActV) (w : World) (w0 : (Lit.int .i64 a0).wf = true) (xin : InG w w.heap.size 5 xA xs.length xk (acsC xs)) (xok : ∀ x ∈ xs, ActIn w x) (xl : xs.length * 56 ≤ 140737488351232) (yok0 : ActIn w y0) (yok1 : ActIn w y1) :
    Calls Try.prog 17 #[.int .i64 a0, .slice xA xs.length xk, .agg (actC y0 ++ actC y1).toArray] w fun e w' => e = .returned (.bool true) ∧ Below w.heap.size w w' := by
  exact lawCopies_walk w a0 xs xA xk y0 y1 xin xl (fun x hx => (xok x hx).1) yok0.1 yok1.1 (fun x hx => (xok x hx).2) yok0.2 yok1.2

set_option maxRecDepth 100000 in
theorem lifted (os : Os) (started : os.Started) (H : Type) (enc : TypeId × Value → H) :
    ReturnsInHanded {} Try.checked os 17 .any (Rows.diskCopiesSpec.pre6 enc Try.prog Try.f17 Rows.diskCopiesRow.domain false) (Rows.diskCopiesSpec.post enc Try.prog Try.f17 false true false false) := by
  refine returnsInHanded_of_change_sized (C := Try.checked) own started (by kernel_rfl) Try.func17
    (ChangeSpec.witness6 (enc := enc) (C := Try.checked) false ⟨#[], #[.int .i64 0, .slice none 0 0, .agg #[.int .i64 0, .int .i64 0, .int .i64 0, .int .u8 0, .slice none 0 0, .int .i64 0, .int .i64 0, .int .i64 0, .int .u8 0, .slice none 0 0]], []⟩ 8 (by kernel_rfl) (by kernel_rfl) (by kernel_rfl) (by kernel_rfl)) ?_
  intro W base args ds gs before hval0 hW hcnd hz0 _
  have hval : ∀ (j : Nat) t v, Try.f17.params[j]? = some t → args[j]? = some v → Value.okWide Try.prog W .any base t v := hval0
  have hW' := hW
  obtain ⟨p, q, hA0, hV, rfl, hfz, hnd⟩ := hW
  have hA : DataW.TrodAll enc Try.prog W 0 (fun _ => true) true Try.f17.params.toList args.toList ds p := hA0
  rw [Try.params17] at hA hval
  obtain ⟨v0, vs0, d0, ds0, p0, q0, hargs, rfl, rfl, h0, r0⟩ := trodAll_cons hA
  obtain ⟨v1, vs1, d1, ds1, p1, q1, rfl, rfl, rfl, h1, r1⟩ := trodAll_cons r0
  obtain ⟨v2, vs2, d2, ds2, p2, q2, rfl, rfl, rfl, h2, r2⟩ := trodAll_cons r1
  obtain ⟨rfl, rfl, rfl⟩ := trodAll_nil r2
  obtain rfl : args = #[v0, v1, v2] := by cases args; simp_all
  obtain ⟨rfl, rfl⟩ := trodVars_none hV
  obtain ⟨a0, rfl, rfl, rfl, w0⟩ := open_int Try.underlying3 (hval 0 3 v0 rfl rfl) h0
  have k1 := h1
  have lt1 : ∀ x ∈ p1, x.block < W.heap.size := by obtain ⟨m, hm⟩ := k1; exact DataW.trod_lt m _ _ _ hm
  obtain ⟨xA, xk, xs, rfl, xin, xok, xd⟩ := open_acts (hval 1 134 v1 rfl rfl) h1
  have k2 := h2
  have lt2 : ∀ x ∈ p2, x.block < W.heap.size := by obtain ⟨m, hm⟩ := k2; exact DataW.trod_lt m _ _ _ hm
  obtain ⟨y0, y1, rfl, yok0, yok1⟩ := open_two_acts (hval 2 137 v2 rfl rfl) h2
  have xl : xs.length * 56 ≤ 140737488351232 := by
    rcases xd with rfl | ⟨elems, sp, rfl, hl⟩
    · simp
    · have hbo : Try.checked.prog.bytesOf 136 = 56 := by kernel_rfl
      have hz := sized_slice hz0 (j := 1) (t := 134) (e := 136) (elems := elems) (spare := sp) rfl rfl Try.underlying134
      rw [hbo] at hz
      have hr : reachBytes = 140737488351232 := by decide
      rw [hr] at hz
      rw [← hl]
      have := Nat.mul_le_mul_right 56 (Nat.le_add_right elems.length sp.length)
      omega
  clear hA0 hval0
  refine (walk a0 xA xk xs y0 y1 W w0 xin xok xl yok0 yok1).mono fun e W' ⟨he, bel⟩ => ?_
  subst he
  exact ⟨_, rfl, _, _, _, [], _, [], hW', trodAll_mk1 (shut_bool Try.underlying4 _), (trodAll_cons_mk (shut_int Try.underlying3 w0) (trodAll_cons_mk (Below.trod laidOut (by kernel_rfl) (of_decide_eq_true (by kernel_rfl)) k1 bel lt1) (trodAll_cons_mk (Below.trod laidOut (by kernel_rfl) (of_decide_eq_true (by kernel_rfl)) k2 bel lt2) trodAll_mk0))), rfl, bel.frame _, fun h => by cases h⟩

set_option maxHeartbeats 8000000 in
theorem over : Rows.diskCopiesRow.holds Try.pinned (OpenSpec.ofChange Rows.diskCopiesSpec) :=
  OpenClaim.holds_of_wide 17 Try.f17 rfl rfl rfl rfl rfl rfl rfl ⟨rfl, rfl, rfl, rfl, rfl⟩ rfl rfl rfl rfl rfl (by as_aux_lemma => kernel_rfl) Try.func17 (by as_aux_lemma => kernel_rfl)
    (by as_aux_lemma => exact of_decide_eq_true (by kernel_rfl)) (by unfold Func.isWrapper; first | (rw [if_pos (by decide +kernel)]; kernel_rfl) | (rw [if_neg (by decide +kernel)]; exact ⟨rfl, rfl⟩))
    (fun os started H enc _ => lifted os started H enc)

theorem proved : Rows.DiskCopiesSaid := over
#print axioms proved
end Go.Proofs.Ytlelckdcmlpmdaa.diskCopies
