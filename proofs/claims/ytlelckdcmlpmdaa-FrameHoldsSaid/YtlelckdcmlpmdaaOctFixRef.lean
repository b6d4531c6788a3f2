/- louperef03.Fixed: fixed bytes. -/
import Derived.Test.YtlelckdcmlpmdaaOctNum
namespace Go.Proofs.Ytlelckdcmlpmdaa
open Go Go.RowKit Lou

/-- The last bytes are told; k are still noughts. -/
def FxAt (m n0 n k : Nat) (l : List UInt8) : Prop := n = n0 / 256 ^ (m - k) ∧ l = List.replicate k 0 ++ (fixL m n0).drop k
theorem FxAt.start (m n : Nat) : FxAt m n n m (List.replicate m 0) := by
  refine ⟨by simp, ?_⟩
  rw [List.drop_eq_nil_of_le (by rw [fixL_length]; exact Nat.le_refl _), List.append_nil]
theorem FxAt.length {m n0 n k : Nat} {l : List UInt8} (h : FxAt m n0 n k l) (hk : k ≤ m) : l.length = m := by
  rw [h.2]; simp [fixL_length]; omega
theorem FxAt.next {m n0 n k : Nat} {l : List UInt8} (h : FxAt m n0 n (k + 1) l) (hk : k + 1 ≤ m) : FxAt m n0 (n / 256) k (l.set k (UInt8.ofNat (n % 256))) := by
  obtain ⟨h1, h2⟩ := h
  constructor
  · rw [h1, Nat.div_div_eq_div_mul, ← Nat.pow_succ, show m - k = (m - (k + 1)) + 1 from by omega]
  · rw [h2, List.replicate_succ', List.append_assoc, List.set_append_right _ _ (by simp)]
    simp only [List.length_replicate, Nat.sub_self]
    have hl : k < (fixL m n0).length := by rw [fixL_length]; omega
    rw [List.drop_eq_getElem_cons hl]
    congr 1
    show UInt8.ofNat (n % 256) :: _ = _
    congr 1
    have : (fixL m n0)[k] = UInt8.ofNat (n0 / 256 ^ (m - 1 - k)) := by simp [fixL]
    rw [this, h1, show m - (k + 1) = m - 1 - k from by omega]
    apply UInt8.toNat_inj.1
    simp [UInt8.toNat_ofNat']
theorem FxAt.last {m n0 n : Nat} {l : List UInt8} (h : FxAt m n0 n 0 l) : l = fixL m n0 := by simpa using h.2

set_option maxRecDepth 100000 in
set_option maxHeartbeats 1000000 in
theorem refFixed_gives (m n0 : Nat) (hm : m ≤ 8) (h64 : n0 < 2 ^ 64) (w : World) : Calls Try.prog 44 #[.int .u64 n0, .int .i64 m] w (GivesB w (fixL m n0)) := by
  have hN := Lib.hid h64
  clear h64
  go_enter Try.func44, Try.ntmps44
  go_wp2_with (at_make; refine wp_makeB rfl _ _ rfl w.heap.size _ _ m rfl rfl (by omega) (Nat.le_refl _) ?_; intro w1 hown1 hgrow1)
  have hB1 : Below w.heap.size w w1 := (Below.refl _ _).grown hgrow1 (Nat.le_refl _) (fun k hk => by cases hk)
  clear hgrow1
  go_loopw [0, 6] (fun x i wr => ∃ (k n : Nat) (l : List UInt8), k ≤ m ∧ i = .int .i64 ((k : Int) - 1) ∧ x = .int .u64 n ∧ Hid (FxAt m n0 n k l) ∧ OwnB wr w.heap.size (.slice (some ⟨w.heap.size, 0, none⟩) m m) l ∧ Below w.heap.size w wr)
    (fun _ i _ => (intOf i + 1).toNat)
  case atStart => exact ⟨m, n0, _, Nat.le_refl _, rfl, rfl, Lib.hid (FxAt.start m n0), hown1, hB1⟩
  case round =>
    obtain ⟨k, n, l, hk, rfl, rfl, hF, hown, hB⟩ := hrel
    clear hown1 hB1
    rcases k with _ | k
    · have hi0 : ((0 : Nat) : Int) - 1 < 0 := by omega
      go_wp2_with fail
      go_ret
      have e := hF.out.last
      subst e
      exact ⟨_, rfl, hown, hB⟩
    · have e1 : (((k + 1 : Nat) : Int) - 1) = (k : Int) := by omega
      rw [e1]
      clear e1
      have hll : k < l.length := by have := hF.out.length hk; omega
      have hc := hown.cell k hll
      have hf := hown.free k
      have hq : IntKind.u64.wrap ((n : Int) / 256) = (n : Int) / 256 := by
        have h64 := hN.out
        have hn : n ≤ n0 := by rw [hF.out.1]; exact Nat.div_le_self _ _
        rw [IntKind.wrap_u64]
        omega
      have hset := hown.set k (n % 256) (by omega)
      have hNx := Lib.hid (hF.out.next hk)
      have hgw : w.heap.size ≤ w.heap.size := Nat.le_refl _
      rw [show ((n % 256 : Nat) : Int) = (n : Int) % 256 from by omega] at hset
      have hSet := Lib.hid hset
      clear hset
      go_wp2_with fail
      refine ⟨⟨k, n / 256, _, by omega, rfl, by go_num, hNx, hSet.out, hB.setCell (p := ⟨w.heap.size, k, none⟩) hgw _⟩, by simp [intOf]⟩
end Go.Proofs.Ytlelckdcmlpmdaa
