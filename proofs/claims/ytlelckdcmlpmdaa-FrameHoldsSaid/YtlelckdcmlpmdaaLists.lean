/- Blocks of slices of bytes, as facts of slots; Concat of them. -/
import Derived.Test.YtlelckdcmlpmdaaSlices
import Derived.Test.YtlelckdcmlpmdaaActs
namespace Go.Proofs.Ytlelckdcmlpmdaa
open Go Go.RowKit Lou

/-- A row of slices of bytes, in a block. -/
def Lists (ls : List (List UInt8)) (v : Value) (w : World) : Prop :=
  ∃ b, v = .slice (some ⟨b, 0, none⟩) ls.length ls.length ∧ b < w.heap.size ∧ ∀ j (h : j < ls.length), ∃ A c, w.cell? ⟨b, j, none⟩ = some (.slice A ls[j].length c) ∧ InB w w.heap.size A c ls[j]
theorem lists_stable (ls : List (List UInt8)) : ∀ v w w', Lists ls v w → Grow w w' → Lists ls v w' := by
  rintro v w w' ⟨b, hv, hb, h⟩ hg
  refine ⟨b, hv, Nat.lt_of_lt_of_le hb hg.size, fun j hj => ?_⟩
  obtain ⟨A, c, h1, h2⟩ := h j hj
  exact ⟨A, c, (hg.cell (p := ⟨b, j, none⟩) hb).trans h1, (h2.below hg).more hg.size⟩
/-- .. as pieces. -/
theorem Lists.pieces {ls : List (List UInt8)} {v : Value} {w : World} (h : Lists ls v w) (hm : ls.length ≤ 1000) : ∃ b, ∃ zs : List (Piece w w.heap.size), v = .slice (some ⟨b, 0, none⟩) zs.length zs.length ∧ zs.map Piece.l = ls ∧ InLL w w.heap.size (some ⟨b, 0, none⟩) zs.length zs := by
  obtain ⟨b, rfl, hb, h⟩ := h
  have key : ∀ n, n ≤ ls.length → ∃ zs : List (Piece w w.heap.size), zs.length = n ∧ zs.map Piece.l = ls.take n ∧ ∀ j (hj : j < zs.length), w.cell? ⟨b, j, none⟩ = some zs[j].val := by
    intro n
    induction n with
    | zero => exact fun _ => ⟨[], rfl, by simp, fun j hj => by simp at hj⟩
    | succ n ih =>
      intro hn
      obtain ⟨zs, h1, h2, h3⟩ := ih (by omega)
      obtain ⟨A, c, h4, h5⟩ := h n (by omega)
      refine ⟨zs ++ [⟨((A, c), ls[n]), h5⟩], by simp [h1], ?_, fun j hj => ?_⟩
      · rw [List.map_append, h2, List.take_succ_eq_append_getElem (by omega)]
        rfl
      · by_cases e : j < zs.length
        · rw [List.getElem_append_left e]
          exact h3 j e
        · have : j = n := by simp at hj; omega
          subst this
          rw [List.getElem_append_right (by omega)]
          simp only [h1, Nat.sub_self, List.getElem_cons_zero]
          exact h4
  obtain ⟨zs, h1, h2, h3⟩ := key ls.length (Nat.le_refl _)
  refine ⟨b, zs, by rw [h1], by rw [h2, List.take_length], ⟨Nat.le_refl _, by omega, fun _ => ⟨b, 0, rfl, hb, fun j hj => by rw [Nat.zero_add]; exact h3 j hj⟩⟩⟩
theorem concatL_gives {ls : List (List UInt8)} {v : Value} {w : World} (h : Lists ls v w) (hm : ls.length ≤ 1000) (hf : ls.flatten.length ≤ 1000000000) : Calls Try.prog 142 #[v] w (GivesB w ls.flatten) := by
  obtain ⟨b, zs, rfl, hz, hI⟩ := h.pieces hm
  have := concat_gives w (some ⟨b, 0, none⟩) zs.length zs hI (by rw [hz]; exact hf)
  rw [hz] at this
  exact this
theorem sumLs_gives {ls : List (List UInt8)} {v : Value} {w : World} (h : Lists ls v w) (hm : ls.length ≤ 1000) : Calls Try.prog 29 #[v] w fun e W' => e = .returned (.int .u32 (sumL ls.flatten : Int)) ∧ Below w.heap.size w W' := by
  obtain ⟨b, zs, rfl, hz, hI⟩ := h.pieces hm
  have := sum_gives w (some ⟨b, 0, none⟩) zs.length zs hI
  rw [hz] at this
  exact this
/-- The block that a call of the variadic kind lays. -/
theorem Lists.new {w : World} (xs : List ((Option Addr × Nat) × List UInt8)) (h : ∀ x ∈ xs, InB w w.heap.size x.1.1 x.1.2 x.2) :
    Lists (xs.map (·.2)) (.slice (some ⟨w.heap.size, 0, none⟩) xs.length xs.length) (w.alloc (.cells (xs.map fun x => Value.slice x.1.1 x.2.length x.1.2).toArray 30)) := by
  refine ⟨w.heap.size, by simp, by simp, fun j hj => ?_⟩
  have hj' : j < xs.length := by simpa using hj
  refine ⟨xs[j].1.1, xs[j].1.2, ?_, ?_⟩
  · rw [(BlkIs.new w 30 _).cell]
    simp [hj']
  · have := h xs[j] (List.getElem_mem hj')
    rw [List.getElem_map]
    exact (this.below ((Below.refl _ w).alloc (Nat.le_refl _) _)).more (by simp)
theorem OwnB.base {w : World} {b b' : Nat} {v : Value} {l : List UInt8} (h : OwnB w b v l) (hb : b' ≤ b) : OwnB w b' v l := by
  refine ⟨h.1, ?_⟩
  rcases h.2 with h | ⟨g, cap, cur, h1, h2, h3⟩
  · exact .inl h
  · exact .inr ⟨g, cap, cur, h1, by omega, h3⟩
theorem GivesB.from {w w1 : World} {l : List UInt8} {e : Ending} {w' : World} (h : GivesB w1 l e w') (hb : Below w.heap.size w w1) : GivesB w l e w' := by
  obtain ⟨v, he, hown, hB⟩ := h
  exact ⟨v, he, hown.base hb.size, hb.trans (hB.mono hb.size)⟩
/-- Concat of two, in a block just laid; of three. -/
theorem concat2_gives (W : World) (A A2 : Option Addr) (c c2 : Nat) (l l2 : List UInt8) (hin : InB W W.heap.size A c l) (hin2 : InB W W.heap.size A2 c2 l2) (hf : l.length + l2.length ≤ 1000000000) :
    Calls Try.prog 142 #[.slice (some ⟨W.heap.size, 0, none⟩) 2 2] (W.alloc (.cells #[.slice A l.length c, .slice A2 l2.length c2] 30)) (GivesB W (l ++ l2)) := by
  have hN := Lists.new (w := W) [((A, c), l), ((A2, c2), l2)] (by
    intro x hx
    simp only [List.mem_cons, List.not_mem_nil, or_false] at hx
    rcases hx with rfl | rfl
    · exact hin
    · exact hin2)
  have h := concatL_gives hN (by simp) (by simpa using hf)
  refine h.mono fun e w' hg => ?_
  have := hg.from ((Below.refl _ W).alloc (Nat.le_refl _) _)
  simpa using this

namespace Reg
variable {L : List (Nat × Fact)} {ops : Array Oper} {w0 : World} {o : Oper}
theorem l_build4 (t1 t2 t3 t4 : Tmp) (l1 l2 l3 l4 : List UInt8) (ho : o.op = .buildSlice 168 4 #[(0, .tmp t1), (1, .tmp t2), (2, .tmp t3), (3, .tmp t4)])
    (c1 : (o.looksAt ops).contains t1 = true) (c2 : (o.looksAt ops).contains t2 = true) (c3 : (o.looksAt ops).contains t3 = true) (c4 : (o.looksAt ops).contains t4 = true)
    (f1 : factOf L t1 = .res l1) (f2 : factOf L t2 = .res l2) (f3 : factOf L t3 = .res l3) (f4 : factOf L t4 = .res l4) (hd : FD L o.dst = .pred (Lists [l1, l2, l3, l4]) (lists_stable _)) : RunOk Try.prog ops (FSof L) w0 o := by
  intro a w K Q hG hl hK
  have g1 : (factOf L t1).holds (a.eval (.tmp t1)) w := hl t1 c1
  have g2 : (factOf L t2).holds (a.eval (.tmp t2)) w := hl t2 c2
  have g3 : (factOf L t3).holds (a.eval (.tmp t3)) w := hl t3 c3
  have g4 : (factOf L t4).holds (a.eval (.tmp t4)) w := hl t4 c4
  rw [f1] at g1
  rw [f2] at g2
  rw [f3] at g3
  rw [f4] at g4
  obtain ⟨A1, k1, e1, h1⟩ := g1
  obtain ⟨A2, k2, e2, h2⟩ := g2
  obtain ⟨A3, k3, e3, h3⟩ := g3
  obtain ⟨A4, k4, e4, h4⟩ := g4
  have hN := Lists.new (w := w) [((A1, k1), l1), ((A2, k2), l2), ((A3, k3), l3), ((A4, k4), l4)] (by
    intro x hx
    simp only [List.mem_cons, List.not_mem_nil, or_false] at hx
    rcases hx with rfl | rfl | rfl | rfl
    · exact h1
    · exact h2
    · exact h3
    · exact h4)
  have key : ∀ ρ : Operand → Value, ρ (.tmp t1) = .slice A1 l1.length k1 → ρ (.tmp t2) = .slice A2 l2.length k2 → ρ (.tmp t3) = .slice A3 l3.length k3 → ρ (.tmp t4) = .slice A4 l4.length k4 →
      (execOp ρ o).run Try.prog w = .ok (.value (.slice (some ⟨w.heap.size, 0, none⟩) 4 4)) (w.alloc (.cells #[.slice A1 l1.length k1, .slice A2 l2.length k2, .slice A3 l3.length k3, .slice A4 l4.length k4] 30)) :=
    fun ρ h1 h2 h3 h4 => by simp [execOp, ho, h1, h2, h3, h4, go_sem, Result.andThen]
  unfold Oper.wp
  rw [key _ e1 e2 e3 e4]
  exact hK _ _ (Grow.alloc _ _) (fsd hd hN)
end Reg
end Go.Proofs.Ytlelckdcmlpmdaa
