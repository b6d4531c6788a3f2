/- What ranges over functions lean on in this seat: growth that turns no cells; what has come of a list. -/
import Derived.Test.YtlelckdcmlpmdaaKit
import Derived.RangeFuncBox
import Derived.RangeFuncNested
import Derived.RangeFuncBound
import Derived.RangeFuncCalls
import Derived.RangeFuncLeaves
import Derived.Shelf.Abstract
import Derived.Shelf.RegionOpen
import Derived.OwnWalkIn
import Derived.TacticsInMore
import Derived.LoopNIn
import Derived.LoopIn
namespace Go.Proofs.Ytlelckdcmlpmdaa
open Go Go.RowKit Lou

/-- A block of cells is kept where one block that holds none is turned. -/
theorem BlkIs.kept {W W' : World} {row : Option Nat} {g : Nat} {t : TypeId} {cs : Array Value} (h : BlkIs W g t cs) (hg : W.grownBy W' row) (hr : ∀ r, row = some r → ∃ o : Obj, W.heap[r]? = some o ∧ o.isCells = false) : BlkIs W' g t cs :=
  h.grown hg (fun e => by
    obtain ⟨o, ho, hc⟩ := hr g e.symm
    rw [h] at ho
    injection ho with ho
    subst ho
    cases hc)
theorem BlkIs.own (g : Nat) (t : TypeId) {β : Type} (cs : β → Array Value) : Own (fun (s : β) W => BlkIs W g t (cs s)) := fun _ _ _ _ hs hg hr => hs.kept hg hr
theorem BlkIs.boxed {W : World} {g : Nat} {t : TypeId} {v : Value} (h : BlkIs W g t #[v]) : W.cell? ⟨g, 0, none⟩ = some v := by rw [h.cell]; rfl
theorem BlkIs.others {W W' : World} {b : Nat} {t : TypeId} {cs : Array Value} (h : BlkIs W b t cs) (hg : W.grownBy W' (some b)) : KeepsOthers W W' :=
  KeepsOthers.of_grownBy hg (fun j o e ho => by
    injection e with e
    subst e
    rw [h] at ho
    injection ho with ho
    subst ho
    rfl)
end Go.Proofs.Ytlelckdcmlpmdaa
