/- Maps that lie in a block: made, written, read. -/
import Derived.Test.YtlelckdcmlpmdaaWhole
import Derived.MapKept
import Derived.Carry
namespace Go.Proofs.Ytlelckdcmlpmdaa
open Go Go.RowKit Lou

/-- The map's entries. -/
def MapIs (w : World) (r : Nat) (es : Array MapEntry) (clock : Nat) : Prop := w.heap[r]? = some (.map es clock)
theorem MapIs.lt {w : World} {r : Nat} {es : Array MapEntry} {clock : Nat} (h : MapIs w r es clock) : r < w.heap.size := (Array.getElem?_eq_some_iff.1 h).1
theorem MapIs.below {w w' : World} {B r : Nat} {es : Array MapEntry} {clock : Nat} (h : MapIs w r es clock) (hB : Below B w w') (hr : r < B) : MapIs w' r es clock := (hB.block r hr).trans h
theorem MapIs.grown {w w' : World} {r : Nat} {es : Array MapEntry} {clock : Nat} {row : Option Nat} (h : MapIs w r es clock) (hg : w.grownBy w' row) (hr : some r ≠ row) : MapIs w' r es clock := (hg.block r h.lt hr).trans h
/-- Another map in its place. -/
def setMap (w : World) (r : Nat) (es : Array MapEntry) (clock : Nat) : World := { w with heap := w.heap.setIfInBounds r (.map es clock) }
theorem MapIs.set {w : World} {r : Nat} {es : Array MapEntry} {clock : Nat} (h : MapIs w r es clock) (es' : Array MapEntry) (clock' : Nat) : MapIs (setMap w r es' clock') r es' clock' := (MapKept.heap_set (o' := .map es' clock') h).1
theorem setMap_grown {w : World} {r : Nat} {es : Array MapEntry} {clock : Nat} (h : MapIs w r es clock) (es' : Array MapEntry) (clock' : Nat) : w.grownBy (setMap w r es' clock') (some r) :=
  ⟨rfl, rfl, rfl, by simp [setMap], fun k _ hk => (MapKept.heap_set (o' := .map es' clock') h).2 k (fun e => hk (by rw [e]))⟩
theorem setMap_size (w : World) (r : Nat) (es : Array MapEntry) (clock : Nat) : (setMap w r es clock).heap.size = w.heap.size := by simp [setMap]
theorem setMap_below {w : World} {B r : Nat} {es : Array MapEntry} {clock : Nat} (h : MapIs w r es clock) (hB : B ≤ r) (es' : Array MapEntry) (clock' : Nat) : Below B w (setMap w r es' clock') :=
  ⟨rfl, rfl, rfl, by simp [setMap], fun k hk => (MapKept.heap_set (o' := .map es' clock') h).2 k (by omega)⟩
theorem MapIs.setOther {w : World} {r q : Nat} {es es0 : Array MapEntry} {clock clock0 : Nat} (h : MapIs w r es clock) (h0 : MapIs w q es0 clock0) (hq : r ≠ q) (es' : Array MapEntry) (clock' : Nat) : MapIs (setMap w q es' clock') r es clock := ((MapKept.heap_set (o' := .map es' clock') h0).2 r hq).trans h
theorem BlkIs.setMap {w : World} {g q : Nat} {t : TypeId} {cs : Array Value} {es0 : Array MapEntry} {clock0 : Nat} (h : BlkIs w g t cs) (h0 : MapIs w q es0 clock0) (es' : Array MapEntry) (clock' : Nat) : BlkIs (setMap w q es' clock') g t cs := by
  have hne : g ≠ q := by
    intro e
    subst e
    have h' : w.heap[g]? = some (.cells cs t (0, 0)) := h
    rw [show w.heap[g]? = some (.map es0 clock0) from h0] at h'
    cases h'
  exact ((MapKept.heap_set (o' := .map es' clock') h0).2 g hne).trans h

section
variable {P : Program} {w : World} {mty kt et : TypeId} {d : TypeDesc} {r clock : Nat} {es : Array MapEntry} {key val : Value}
theorem run_put_new (hm : P.underlying mty = some (.map kt et)) (hd : P.underlying kt = some d) (hk : MapKept.IsKey d key) (hb : MapIs w r es clock) (hf : Instr.findNow d key es.toList 0 = some none) :
    (Instr.mapUpdate mty (.map (some r)) key val).run P w = .ok () (setMap w r (es.push { key := key, val := val, born := clock }) (clock + 1)) := by
  have hc : (Instr.checkKey false 10000 kt key).run P w = .ok () w := MapKept.run_checkKey hd hk false 9999
  simp [Instr.mapUpdate, run_underlying hm, MapKept.run_getObj_map hb, hc, MapKept.run_findKey hd hf, MapKept.run_setObj_map _ hb, Result.andThen, setMap]
theorem run_get (hm : P.underlying mty = some (.map kt et)) (hd : P.underlying kt = some d) (hk : MapKept.IsKey d key) (hb : MapIs w r es clock) {i : Nat} {v : Value} (hf : Instr.findNow d key es.toList 0 = some (some (i, v))) :
    (Instr.lookup mty (.map (some r)) key false).run P w = .ok v w := by
  have hc : (Instr.checkKey es.isEmpty 10000 kt key).run P w = .ok () w := MapKept.run_checkKey hd hk _ 9999
  simp [Instr.lookup, run_underlying hm, MapKept.run_getObj_map hb, hc, MapKept.run_findKey hd hf, Result.andThen]
end
section
variable {P : Program} {w : World} {ops : Array Oper} {rest : List Oper} {o : Oper} {a : Act} {Q : Exit → Act → World → Prop} {mty kt et : TypeId} {d : TypeDesc} {r clock : Nat} {es : Array MapEntry} {key val : Value}
theorem wp_makeMap (hg : o.guard = none) (ho : o.op = .makeMap mty none) (h : MapIs (w.alloc (.map #[] 0)) w.heap.size #[] 0 → wpList P ops Q rest (a.put o.dst (.map (some w.heap.size))) (w.alloc (.map #[] 0))) : wpList P ops Q (o :: rest) a w :=
  wpList_plain hg fun _ hK => by
    unfold Oper.wp execOp
    simp only [ho, Option.map_none, run_makeMap, Sem.run_bind, Result.andThen_ok, Sem.run_pure]
    exact hK _ _ (h (heap_alloc_new w _))
theorem wp_put_new (hg : o.guard = none) (m x y : Operand) (ho : o.op = .insert mty m x y ∨ o.op = .mapUpdate mty m x y) (hm : P.underlying mty = some (.map kt et)) (hd : P.underlying kt = some d) (hk : MapKept.IsKey d key) (e1 : a.eval m = .map (some r)) (e2 : a.eval x = key) (e3 : a.eval y = val)
    (hb : MapIs w r es clock) (hf : Instr.findNow d key es.toList 0 = some none)
    (h : ∀ w', MapIs w' r (es.push { key := key, val := val, born := clock }) (clock + 1) → w.grownBy w' (some r) → wpList P ops Q rest (a.put o.dst undef) w') : wpList P ops Q (o :: rest) a w :=
  wpList_plain hg fun _ hK => by
    unfold Oper.wp execOp
    rcases ho with ho | ho <;> simp only [ho, e1, e2, e3, run_put_new hm hd hk hb hf, Sem.run_bind, Result.andThen_ok, Sem.run_pure] <;> exact hK _ _ (h _ (hb.set _ _) (setMap_grown hb _ _))
theorem BlkIs.grownMap {w w' : World} {g r : Nat} {t : TypeId} {cs : Array Value} {es : Array MapEntry} {clock : Nat} (h : BlkIs w g t cs) (hm : MapIs w r es clock) (hg : w.grownBy w' (some r)) : BlkIs w' g t cs := by
  refine h.grown hg (fun e => ?_)
  injection e with e
  subst e
  have h' : w.heap[g]? = some (.cells cs t (0, 0)) := h
  rw [show w.heap[g]? = some (.map es clock) from hm] at h'
  cases h'
end
end Go.Proofs.Ytlelckdcmlpmdaa
