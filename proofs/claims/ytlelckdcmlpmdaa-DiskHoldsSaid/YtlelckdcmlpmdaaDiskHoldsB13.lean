/- Proved: for every input the law DiskHolds returns true and leaves its arguments as they were. Conditions: none. -/
import Derived.Test.YtlelckdcmlpmdaaRows
import Derived.WalkKit
import Derived.ProofKit
import Derived.OpenShut
import Derived.ShutString
import Derived.ChangeOld
import Derived.Below
import Derived.Test.YtlelckdcmlpmdaaDiskHoldsB12
namespace Go.Proofs.Ytlelckdcmlpmdaa.diskHolds
open Go Lou Go.ChangeShapes Go.WideShapes Go.ChangeAt Go.RowKit
open Go.ChangeMaps (open_string shut_string)
set_option linter.unusedVariables false

theorem own : ownKnob Try.prog.godebug = none := by kernel_rfl
theorem laidOut : laidOutB Try.prog = true := by kernel_rfl
theorem walk (a0 : Int) (xA : Option Addr) (xk : Nat) (xs : List (UInt8 × UInt8)) (yA : Option Addr) (yk : Nat) (ys : List (UInt8 × UInt8)) (zA : Option Addr) (zk : Nat) (zs : List Bool) (w : World) (w0 : (Lit.int .i64 a0).wf = true) (xin : InP w w.heap.size xA xk xs) (yin : InP w w.heap.size yA yk ys) (zin : InG w w.heap.size 1 zA zs.length zk (zs.map Value.bool)) :
    Calls Try.prog 3 #[.int .i64 a0, .agg #[.slice xA xs.length xk, .slice yA ys.length yk], .slice zA zs.length zk] w fun e w' => e = .returned (.bool true) ∧ Below w.heap.size w w' := by
  have go := fun h => lawDisk_out a0 w xA xk xs yA yk ys zA zk zs xin yin zin h
  by_cases g1 : a0 < 1
  · exact go (.inl g1)
  · by_cases g2 : 12 < a0
    · exact go (.inr (.inl ⟨by omega, g2⟩))
    · by_cases g3 : 20 < xs.length
      · exact go (.inr (.inr (.inl ⟨by omega, by omega, g3⟩)))
      · by_cases g4 : 20 < ys.length
        · exact go (.inr (.inr (.inr (.inl ⟨by omega, by omega, by omega, g4⟩))))
        · by_cases g5 : 40 < zs.length
          · exact go (.inr (.inr (.inr (.inr ⟨by omega, by omega, by omega, by omega, g5⟩))))
          · obtain ⟨m, rfl⟩ : ∃ m : Nat, a0 = m := ⟨a0.toNat, by omega⟩
            exact lawDisk_walk m w xA xk xs yA yk ys zA zk zs xin yin zin (by omega) (by omega) (by omega) (by omega) (by omega)

set_option maxRecDepth 100000 in
theorem lifted (os : Os) (started : os.Started) (H : Type) (enc : TypeId × Value → H) :
    ReturnsInHanded {} Try.checked os 3 .any (Rows.diskHoldsSpec.pre6 enc Try.prog Try.f3 Rows.diskHoldsRow.domain false) (Rows.diskHoldsSpec.post enc Try.prog Try.f3 false true false false) := by
  refine returnsInHanded_of_change (C := Try.checked) own started (by kernel_rfl) Try.func3
    (ChangeSpec.witness6 (enc := enc) (C := Try.checked) false ⟨#[], #[.int .i64 0, .agg #[.slice none 0 0, .slice none 0 0], .slice none 0 0], []⟩ 8 (by kernel_rfl) (by kernel_rfl) (by kernel_rfl) (by kernel_rfl)) ?_
  intro W base args ds gs before hval0 hW hcnd _
  have hval : ∀ (j : Nat) t v, Try.f3.params[j]? = some t → args[j]? = some v → Value.okWide Try.prog W .any base t v := hval0
  have hW' := hW
  obtain ⟨p, q, hA0, hV, rfl, hfz, hnd⟩ := hW
  have hA : DataW.TrodAll enc Try.prog W 0 (fun _ => true) true Try.f3.params.toList args.toList ds p := hA0
  rw [Try.params3] at hA hval
  obtain ⟨v0, vs0, d0, ds0, p0, q0, hargs, rfl, rfl, h0, r0⟩ := trodAll_cons hA
  obtain ⟨v1, vs1, d1, ds1, p1, q1, rfl, rfl, rfl, h1, r1⟩ := trodAll_cons r0
  obtain ⟨v2, vs2, d2, ds2, p2, q2, rfl, rfl, rfl, h2, r2⟩ := trodAll_cons r1
  obtain ⟨rfl, rfl, rfl⟩ := trodAll_nil r2
  obtain rfl : args = #[v0, v1, v2] := by cases args; simp_all
  obtain ⟨rfl, rfl⟩ := trodVars_none hV
  obtain ⟨a0, rfl, rfl, rfl, w0⟩ := open_int Try.underlying3 (hval 0 3 v0 rfl rfl) h0
  have k1 := h1
  have lt1 : ∀ x ∈ p1, x.block < W.heap.size := by obtain ⟨m, hm⟩ := k1; exact DataW.trod_lt m _ _ _ hm
  obtain ⟨xA, xk, xs, yA, yk, ys, rfl, xin, yin⟩ := open_lists (hval 1 23 v1 rfl rfl) h1
  have k2 := h2
  have lt2 : ∀ x ∈ p2, x.block < W.heap.size := by obtain ⟨m, hm⟩ := k2; exact DataW.trod_lt m _ _ _ hm
  obtain ⟨zA, zk, zs, rfl, zin⟩ := open_truths (hval 2 24 v2 rfl rfl) h2
  clear hA0 hval0
  refine (walk a0 xA xk xs yA yk ys zA zk zs W w0 xin yin zin).mono fun e W' ⟨he, bel⟩ => ?_
  subst he
  exact ⟨_, rfl, _, _, _, [], _, [], hW', trodAll_mk1 (shut_bool Try.underlying4 _), (trodAll_cons_mk (shut_int Try.underlying3 w0) (trodAll_cons_mk (Below.trod laidOut (by kernel_rfl) (of_decide_eq_true (by kernel_rfl)) k1 bel lt1) (trodAll_cons_mk (Below.trod laidOut (by kernel_rfl) (of_decide_eq_true (by kernel_rfl)) k2 bel lt2) trodAll_mk0))), rfl, bel.frame _, fun h => by cases h⟩

set_option maxHeartbeats 8000000 in
theorem over : Rows.diskHoldsRow.holds Try.pinned (OpenSpec.ofChange Rows.diskHoldsSpec) :=
  OpenClaim.holds_of_wide 3 Try.f3 rfl rfl rfl rfl rfl rfl rfl ⟨rfl, rfl, rfl, rfl, rfl⟩ rfl rfl rfl rfl rfl (by as_aux_lemma => kernel_rfl) Try.func3 (by as_aux_lemma => kernel_rfl)
    (by as_aux_lemma => exact of_decide_eq_true (by kernel_rfl)) (by unfold Func.isWrapper; first | (rw [if_pos (by decide +kernel)]; kernel_rfl) | (rw [if_neg (by decide +kernel)]; exact ⟨rfl, rfl⟩))
    (fun os started H enc _ => lifted os started H enc)

theorem proved : Rows.DiskHoldsSaid := over
#print axioms proved
end Go.Proofs.Ytlelckdcmlpmdaa.diskHolds
