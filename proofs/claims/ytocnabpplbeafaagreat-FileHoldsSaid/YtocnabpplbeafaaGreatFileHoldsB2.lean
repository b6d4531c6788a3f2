/- Texts that the proof of FileHolds leans on, part 2. -/
import Derived.MapKept
import Derived.Carry
import Derived.ScopeJumps
import Derived.Lib.AppendZeros
import Derived.Orders
import Derived.RegionTactic
import Derived.Shelf.Abstract
import Derived.Test.YtocnabpplbeafaaGreatFileHoldsB1
/- Rows of elements of whatever type: that came in, that a call owns; append, Clone, an element read. -/
namespace Go.Proofs.YtocnabpplbeafaaGreat
open Go Go.RowKit Lou

/-- n elements of sz cells each lie in a row below B: '.slice A n c'; cs are their cells. -/
structure InG (w : World) (B sz : Nat) (A : Option Addr) (n c : Nat) (cs : List Value) : Prop where
  le : n ≤ c
  max : c ≤ 9223372036854775807
  nil : A = none → c = 0
  len : cs.length = n * sz
  one : ∀ v ∈ cs, v.oneCell' = true
  lies : 0 < n → ∃ g o, A = some ⟨g, o, none⟩ ∧ g < B ∧ w.rangeAt g o cs
theorem InG.keep {w w' : World} {B sz : Nat} {A : Option Addr} {n c : Nat} {cs : List Value} (h : InG w B sz A n c cs) (hk : ∀ p : Addr, p.block < B → w'.cell? p = w.cell? p) : InG w' B sz A n c cs :=
  ⟨h.le, h.max, h.nil, h.len, h.one, fun hl => by
    obtain ⟨g, o, hA, hg, hc⟩ := h.lies hl
    exact ⟨g, o, hA, hg, fun j v hj => (hk _ hg).trans (hc j v hj)⟩⟩
theorem InG.below {w w' : World} {B sz : Nat} {A : Option Addr} {n c : Nat} {cs : List Value} (h : InG w B sz A n c cs) (hb : Below B w w') : InG w' B sz A n c cs := h.keep fun _ hp => hb.cell hp
theorem InG.more {w : World} {B B' sz : Nat} {A : Option Addr} {n c : Nat} {cs : List Value} (h : InG w B sz A n c cs) (hB : B ≤ B') : InG w B' sz A n c cs :=
  ⟨h.le, h.max, h.nil, h.len, h.one, fun hl => by
    obtain ⟨g, o, hA, hg, hc⟩ := h.lies hl
    exact ⟨g, o, hA, by omega, hc⟩⟩
theorem InG.grow {w w' : World} {sz : Nat} {A : Option Addr} {n c : Nat} {cs : List Value} (h : InG w w.heap.size sz A n c cs) (hb : Below w.heap.size w w') : InG w' w'.heap.size sz A n c cs := (h.below hb).more hb.size
theorem InG.mt (w : World) (B sz : Nat) : InG w B sz none 0 0 [] := ⟨Nat.le_refl _, by omega, fun _ => rfl, by simp, (fun v h => by cases h), fun h => by omega⟩
/-- The same row, cut to its first k. -/
theorem InG.take {w : World} {B sz : Nat} {A : Option Addr} {n c : Nat} {cs : List Value} (h : InG w B sz A n c cs) (k c' : Nat) (hk : k ≤ n) (hc : k ≤ c') (hc' : c' ≤ c) : InG w B sz A k c' (cs.take (k * sz)) :=
  ⟨hc, Nat.le_trans hc' h.max, fun e => by have := h.nil e; omega, by rw [List.length_take, h.len]; exact Nat.min_eq_left (Nat.mul_le_mul_right _ hk), fun v hv => h.one v (List.mem_of_mem_take hv), fun h0 => by
    obtain ⟨g, o, e, hg, hr⟩ := h.lies (by omega)
    refine ⟨g, o, e, hg, fun j v hj => hr j v ?_⟩
    rw [List.getElem?_take] at hj
    split at hj
    · exact hj
    · cases hj⟩
/-- An element's cells. -/
theorem InG.elem {w : World} {B sz g o : Nat} {n c : Nat} {cs : List Value} (h : InG w B sz (some ⟨g, o, none⟩) n c cs) (j : Nat) (hj : j < n) : w.rangeAt g (o + j * sz) ((cs.drop (j * sz)).take sz) := by
  obtain ⟨g', o', e, hg, hr⟩ := h.lies (by omega)
  injection e with e
  injection e with e1 e2
  subst e1 e2
  intro i v hi
  rw [List.getElem?_take] at hi
  split at hi
  · rw [List.getElem?_drop] at hi
    rw [Nat.add_assoc]
    exact hr _ v hi
  · cases hi

/-- A row that a call owns, as one that came in. -/
theorem ownG_in {w : World} {base : Nat} {T : TypeId} {sz : Nat} {v : Value} {n : Nat} {cs : List Value} (h : w.ownsRow base T sz v n cs) (h1 : ∀ v ∈ cs, v.oneCell' = true) : ∃ A c, v = .slice A n c ∧ InG w w.heap.size sz A n c cs := by
  rcases h.2 with ⟨e1, e2⟩ | ⟨g, cap, cur, hv, hb, hg, hle, hm, hs, ht⟩
  · subst e2
    exact ⟨none, 0, e1, Nat.le_refl _, by omega, fun _ => rfl, h.1, h1, fun h => by omega⟩
  · refine ⟨_, cap, hv, hle, by unfold maxLen at hm; omega, (fun e => by cases e), h.1, h1, fun _ => ⟨g, 0, rfl, (Array.getElem?_eq_some_iff.1 hg).1, fun j u hj => ?_⟩⟩
    rw [Nat.zero_add, cell_of_row w g j cur _ (0, 0) hg]
    rw [← ht, List.getElem?_take] at hj
    split at hj
    · simpa using hj
    · cases hj
theorem ownG_ge {w : World} {base : Nat} {T : TypeId} {sz : Nat} {v : Value} {n : Nat} {cs : List Value} (h : w.ownsRow base T sz v n cs) : ∀ r, v.ownBlock = some r → base ≤ r := by
  intro r hr
  rcases h.2 with ⟨rfl, _⟩ | ⟨g, cap, cur, rfl, hb, _⟩
  · cases hr
  · injection hr with hr
    subst hr
    exact hb
theorem ownG_lt {w : World} {base : Nat} {T : TypeId} {sz : Nat} {v : Value} {n : Nat} {cs : List Value} (h : w.ownsRow base T sz v n cs) : ∀ r, v.ownBlock = some r → r < w.heap.size := by
  intro r hr
  rcases h.2 with ⟨rfl, _⟩ | ⟨g, cap, cur, rfl, hb, hg, _⟩
  · cases hr
  · injection hr with hr
    subst hr
    exact (Array.getElem?_eq_some_iff.1 hg).1
theorem ownG_later {w w' : World} {base : Nat} {T : TypeId} {sz : Nat} {v : Value} {n : Nat} {cs : List Value} (h : w.ownsRow base T sz v n cs) (hB : ∀ r, v.ownBlock = some r → w'.heap[r]? = w.heap[r]?) : w'.ownsRow base T sz v n cs := by
  refine ⟨h.1, ?_⟩
  rcases h.2 with h | ⟨g, cap, cur, h1, h2, h3, h4⟩
  · exact .inl h
  · exact .inr ⟨g, cap, cur, h1, h2, (hB g (by rw [h1]; rfl)).trans h3, h4⟩
theorem ownG_grow {w w' : World} {base : Nat} {T : TypeId} {sz : Nat} {v : Value} {n : Nat} {cs : List Value} (h : w.ownsRow base T sz v n cs) (hB : Below w.heap.size w w') : w'.ownsRow base T sz v n cs :=
  ownG_later h fun r hr => hB.block r (ownG_lt h r hr)
theorem ownG_base {w : World} {b b' : Nat} {T : TypeId} {sz : Nat} {v : Value} {n : Nat} {cs : List Value} (h : w.ownsRow b T sz v n cs) (hb : b' ≤ b) : w.ownsRow b' T sz v n cs := by
  refine ⟨h.1, ?_⟩
  rcases h.2 with h | ⟨g, cap, cur, h1, h2, h3⟩
  · exact .inl h
  · exact .inr ⟨g, cap, cur, h1, by omega, h3⟩
/-- What is known of an element's type. -/
structure ElT (S T : TypeId) (sz by_ : Nat) (z : Value) : Prop where
  und : Tryz.prog.underlying S = some (.slice T)
  inf : (Tryz.prog.info? T).map (fun i => (i.zero, i.size, i.bytes)) = some (some z, sz, by_)
  zs : z.cells.size = sz
  pos : 0 < sz
section
variable {w : World} {ops : Array Oper} {rest : List Oper} {o : Oper} {a : Act} {Q : Exit → Act → World → Prop}
theorem wp_appG (hg : o.guard = none) {S T : TypeId} {sz by_ : Nat} {z : Value} (hT : ElT S T sz by_ z) (s x : Operand) (ho : o.op = .call { callee := .builtin .append, args := #[s, x], argTypes := #[S, S] })
    (base : Nat) (v : Value) (n : Nat) (cs : List Value) (hs : a.eval s = v) (hown : w.ownsRow base T sz v n cs) (B : Nat) (A : Option Addr) (m c : Nat) (cs2 : List Value) (hx : a.eval x = .slice A m c) (hin : InG w B sz A m c cs2)
    (hm : n + m ≤ maxLen) (hbytes : (n + m) * by_ ≤ 140737488355328) (hbase : base ≤ w.heap.size)
    (h : ∀ v' w', w'.ownsRow base T sz v' (n + m) (cs ++ cs2) → w.grownBy w' v.ownBlock → wpList Tryz.prog ops Q rest (a.put o.dst v') w') : wpList Tryz.prog ops Q (o :: rest) a w := by
  obtain ⟨i0, hi, hz0, hz1, hz2⟩ := info_parts hT.inf
  have hle := hin.le
  rcases A with _ | ad
  · have hc0 := hin.nil rfl
    obtain rfl : m = 0 := by omega
    obtain rfl : cs2 = [] := List.eq_nil_of_length_eq_zero (by rw [hin.len]; omega)
    subst hc0
    refine wpList_append_own_none (w := w) hg s x _ ho base _ i0 sz hT.und hi v n cs hs hown hx ?_
    exact h v w (by rw [List.append_nil]; exact hown) (World.grownBy.refl _ _)
  · have hnews : ∀ j u, cs2[j]? = some u → w.cell? (ad.add j) = some u := by
      intro j u hu
      have hm0 : 0 < m := by
        rcases Nat.eq_zero_or_pos m with h0 | h0
        · subst h0
          have := hin.len
          obtain rfl : cs2 = [] := List.eq_nil_of_length_eq_zero (by omega)
          simp at hu
        · exact h0
      obtain ⟨g, o', hA, _, hr⟩ := hin.lies hm0
      obtain rfl : ad = ⟨g, o', none⟩ := by simpa using hA
      rw [Addr.add_mid]
      exact hr j u hu
    refine wpList_append_own w hg s x _ ho base _ i0 z sz by_ hT.und hi hz0 hz1 hz2 hT.zs hT.pos v n cs hs hown ad m c cs2 hx hin.len hnews hin.one hm hbytes hbase ?_
    intro v' w' hown' hgrow _
    exact h v' w' hown' hgrow
/-- An element, loaded. -/
theorem x_loadM {P : Program} {ρ : Operand → Value} {T : TypeId} {k g off : Nat} {cs : List Value} {x : Operand} (hT : RowTy P T k) (hr : w.rangeAt g off cs) (hk : cs.length = k) (ho : o.op = .load T x) (hx : ρ x = .pointer (some ⟨g, off, none⟩)) : (execOp ρ o).run P w = .ok (.value (.agg cs.toArray)) w := by
  obtain ⟨d, hu, hd⟩ := hT.desc
  have := run_loadVar_mid (P := P) w g off T cs d hr hu hd (by rw [hT.size, hk])
  simp only [execOp, ho, hx, Instr.loadAt, Instr.sureAddr, Sem.run_bind, Sem.run_pure, Result.andThen_ok, this]
end
theorem BlkIs.rangeOf {w : World} {g : Nat} {t : TypeId} {cs : Array Value} (h : BlkIs w g t cs) (k : Nat) {n : Nat} : w.rangeAt g k ((cs.toList.drop k).take n) := fun j v hj => by
  rw [List.getElem?_take] at hj
  split at hj
  · rw [List.getElem?_drop] at hj
    rw [h.cell]
    simpa using hj
  · cases hj

theorem run_appG {w : World} (ty : TypeId) {S T : TypeId} {sz by_ : Nat} {z : Value} (hT : ElT S T sz by_ z) (base : Nat) (v : Value) (n : Nat) (cs : List Value) (hown : w.ownsRow base T sz v n cs) (B : Nat) (A : Option Addr) (m c : Nat) (cs2 : List Value) (hin : InG w B sz A m c cs2)
    (hm : n + m ≤ maxLen) (hbytes : (n + m) * by_ ≤ 140737488355328) (hbase : base ≤ w.heap.size) :
    ∃ v' w', (Builtin.append_ #[S, S] ty #[v, .slice A m c]).run Tryz.prog w = .ok v' w' ∧ w'.ownsRow base T sz v' (n + m) (cs ++ cs2) ∧ w.grownBy w' v.ownBlock := by
  obtain ⟨i0, hi, hz0, hz1, hz2⟩ := info_parts hT.inf
  have hle := hin.le
  rcases A with _ | ad
  · have hc0 := hin.nil rfl
    obtain rfl : m = 0 := by omega
    obtain rfl : cs2 = [] := List.eq_nil_of_length_eq_zero (by rw [hin.len]; omega)
    subst hc0
    have hr := run_append_owned_none (P := Tryz.prog) w base S ty T i0 sz hT.und hi v n cs hown
    exact ⟨v, w, hr, by rw [List.append_nil]; exact hown, World.grownBy.refl _ _⟩
  · have hnews : ∀ j u, cs2[j]? = some u → w.cell? (ad.add j) = some u := by
      intro j u hu
      have hm0 : 0 < m := by
        rcases Nat.eq_zero_or_pos m with h0 | h0
        · subst h0
          have := hin.len
          obtain rfl : cs2 = [] := List.eq_nil_of_length_eq_zero (by omega)
          simp at hu
        · exact h0
      obtain ⟨g, o', hA, _, hr⟩ := hin.lies hm0
      obtain rfl : ad = ⟨g, o', none⟩ := by simpa using hA
      rw [Addr.add_mid]
      exact hr j u hu
    obtain ⟨v', w', hr, h2, h3, _, _⟩ := run_append_own_at (P := Tryz.prog) w base S ty T i0 z sz by_ hT.und hi hz0 hz1 hz2 hT.zs hT.pos v n cs hown ad m c cs2 hin.len hnews hin.one hm hbytes hbase
    exact ⟨v', w', hr, h2, h3⟩
section
variable {w : World} {ops : Array Oper} {o : Oper} {a : Act} {Q : Exit → Act → World → Prop} {K : Act → World → Prop} {E : Prop}
end
end Go.Proofs.YtocnabpplbeafaaGreat
/- Maps that lie in a block: made, written, read. -/
namespace Go.Proofs.YtocnabpplbeafaaGreat
open Go Go.RowKit Lou

/-- The map's entries. -/
def MapIs (w : World) (r : Nat) (es : Array MapEntry) (clock : Nat) : Prop := w.heap[r]? = some (.map es clock)
theorem MapIs.lt {w : World} {r : Nat} {es : Array MapEntry} {clock : Nat} (h : MapIs w r es clock) : r < w.heap.size := (Array.getElem?_eq_some_iff.1 h).1
theorem MapIs.below {w w' : World} {B r : Nat} {es : Array MapEntry} {clock : Nat} (h : MapIs w r es clock) (hB : Below B w w') (hr : r < B) : MapIs w' r es clock := (hB.block r hr).trans h
theorem MapIs.grown {w w' : World} {r : Nat} {es : Array MapEntry} {clock : Nat} {row : Option Nat} (h : MapIs w r es clock) (hg : w.grownBy w' row) (hr : some r ≠ row) : MapIs w' r es clock := (hg.block r h.lt hr).trans h
/-- Another map in its place. -/
def setMap (w : World) (r : Nat) (es : Array MapEntry) (clock : Nat) : World := { w with heap := w.heap.setIfInBounds r (.map es clock) }
theorem MapIs.set {w : World} {r : Nat} {es : Array MapEntry} {clock : Nat} (h : MapIs w r es clock) (es' : Array MapEntry) (clock' : Nat) : MapIs (setMap w r es' clock') r es' clock' := (MapKept.heap_set (o' := .map es' clock') h).1
theorem setMap_grown {w : World} {r : Nat} {es : Array MapEntry} {clock : Nat} (h : MapIs w r es clock) (es' : Array MapEntry) (clock' : Nat) : w.grownBy (setMap w r es' clock') (some r) :=
  ⟨rfl, rfl, rfl, by simp [setMap], fun k _ hk => (MapKept.heap_set (o' := .map es' clock') h).2 k (fun e => hk (by rw [e]))⟩
theorem MapIs.setOther {w : World} {r q : Nat} {es es0 : Array MapEntry} {clock clock0 : Nat} (h : MapIs w r es clock) (h0 : MapIs w q es0 clock0) (hq : r ≠ q) (es' : Array MapEntry) (clock' : Nat) : MapIs (setMap w q es' clock') r es clock := ((MapKept.heap_set (o' := .map es' clock') h0).2 r hq).trans h
theorem BlkIs.setMap {w : World} {g q : Nat} {t : TypeId} {cs : Array Value} {es0 : Array MapEntry} {clock0 : Nat} (h : BlkIs w g t cs) (h0 : MapIs w q es0 clock0) (es' : Array MapEntry) (clock' : Nat) : BlkIs (setMap w q es' clock') g t cs := by
  have hne : g ≠ q := by
    intro e
    subst e
    have h' : w.heap[g]? = some (.cells cs t (0, 0)) := h
    rw [show w.heap[g]? = some (.map es0 clock0) from h0] at h'
    cases h'
  exact ((MapKept.heap_set (o' := .map es' clock') h0).2 g hne).trans h

section
variable {P : Program} {w : World} {mty kt et : TypeId} {d : TypeDesc} {r clock : Nat} {es : Array MapEntry} {key val : Value}
theorem run_put_new (hm : P.underlying mty = some (.map kt et)) (hd : P.underlying kt = some d) (hk : MapKept.IsKey d key) (hb : MapIs w r es clock) (hf : Instr.findNow d key es.toList 0 = some none) :
    (Instr.mapUpdate mty (.map (some r)) key val).run P w = .ok () (setMap w r (es.push { key := key, val := val, born := clock }) (clock + 1)) := by
  have hc : (Instr.checkKey false 10000 kt key).run P w = .ok () w := MapKept.run_checkKey hd hk false 9999
  simp [Instr.mapUpdate, run_underlying hm, MapKept.run_getObj_map hb, hc, MapKept.run_findKey hd hf, MapKept.run_setObj_map _ hb, Result.andThen, setMap]
theorem run_get (hm : P.underlying mty = some (.map kt et)) (hd : P.underlying kt = some d) (hk : MapKept.IsKey d key) (hb : MapIs w r es clock) {i : Nat} {v : Value} (hf : Instr.findNow d key es.toList 0 = some (some (i, v))) :
    (Instr.lookup mty (.map (some r)) key false).run P w = .ok v w := by
  have hc : (Instr.checkKey es.isEmpty 10000 kt key).run P w = .ok () w := MapKept.run_checkKey hd hk _ 9999
  simp [Instr.lookup, run_underlying hm, MapKept.run_getObj_map hb, hc, MapKept.run_findKey hd hf, Result.andThen]
end
section
variable {P : Program} {w : World} {ops : Array Oper} {rest : List Oper} {o : Oper} {a : Act} {Q : Exit → Act → World → Prop} {mty kt et : TypeId} {d : TypeDesc} {r clock : Nat} {es : Array MapEntry} {key val : Value}
theorem wp_makeMap (hg : o.guard = none) (ho : o.op = .makeMap mty none) (h : MapIs (w.alloc (.map #[] 0)) w.heap.size #[] 0 → wpList P ops Q rest (a.put o.dst (.map (some w.heap.size))) (w.alloc (.map #[] 0))) : wpList P ops Q (o :: rest) a w :=
  wpList_plain hg fun _ hK => by
    unfold Oper.wp execOp
    simp only [ho, Option.map_none, run_makeMap, Sem.run_bind, Result.andThen_ok, Sem.run_pure]
    exact hK _ _ (h (heap_alloc_new w _))
theorem wp_put_new (hg : o.guard = none) (m x y : Operand) (ho : o.op = .insert mty m x y ∨ o.op = .mapUpdate mty m x y) (hm : P.underlying mty = some (.map kt et)) (hd : P.underlying kt = some d) (hk : MapKept.IsKey d key) (e1 : a.eval m = .map (some r)) (e2 : a.eval x = key) (e3 : a.eval y = val)
    (hb : MapIs w r es clock) (hf : Instr.findNow d key es.toList 0 = some none)
    (h : ∀ w', MapIs w' r (es.push { key := key, val := val, born := clock }) (clock + 1) → w.grownBy w' (some r) → wpList P ops Q rest (a.put o.dst undef) w') : wpList P ops Q (o :: rest) a w :=
  wpList_plain hg fun _ hK => by
    unfold Oper.wp execOp
    rcases ho with ho | ho <;> simp only [ho, e1, e2, e3, run_put_new hm hd hk hb hf, Sem.run_bind, Result.andThen_ok, Sem.run_pure] <;> exact hK _ _ (h _ (hb.set _ _) (setMap_grown hb _ _))
theorem BlkIs.grownMap {w w' : World} {g r : Nat} {t : TypeId} {cs : Array Value} {es : Array MapEntry} {clock : Nat} (h : BlkIs w g t cs) (hm : MapIs w r es clock) (hg : w.grownBy w' (some r)) : BlkIs w' g t cs := by
  refine h.grown hg (fun e => ?_)
  injection e with e
  subst e
  have h' : w.heap[g]? = some (.cells cs t (0, 0)) := h
  rw [show w.heap[g]? = some (.map es clock) from hm] at h'
  cases h'
end
end Go.Proofs.YtocnabpplbeafaaGreat
/- octet.ReadNumber: it reads the number with whose bytes these begin. -/
namespace Go.Proofs.YtocnabpplbeafaaGreat
open Go Go.RowKit Lou

/-- What a number's reading answers. -/
def rdV (l : List UInt8) : Value :=
  match rd l with
  | some (n, k) => .tuple #[.int .u64 (n : Int), .int .i64 (k : Int), .int .i64 0]
  | none => .tuple #[.int .u64 0, .int .i64 0, .int .i64 130]
/-- k bytes are read. -/
def RdAt (l : List UInt8) (acc k : Nat) : Prop := rdF (10 - k) k acc (l.drop k) = rd l ∧ acc < 128 ^ k ∧ k ≤ 10
theorem RdAt.start (l : List UInt8) : RdAt l 0 0 := ⟨rfl, by simp, by omega⟩
theorem RdAt.unfold {l : List UInt8} {acc k : Nat} (h : RdAt l acc k) (hk : k < l.length) (h10 : k < 10) :
    rd l = if k = 9 ∧ 1 < l[k].toNat then none else if 128 ≤ l[k].toNat then rdF (10 - (k + 1)) (k + 1) (acc + l[k].toNat % 128 * 128 ^ k) (l.drop (k + 1))
      else if l[k].toNat = 0 ∧ 0 < k then none else some (acc + l[k].toNat % 128 * 128 ^ k, k + 1) := by
  rw [← h.1, List.drop_eq_getElem_cons hk, show 10 - k = (10 - (k + 1)) + 1 from by omega]
  rfl
theorem RdAt.out {l : List UInt8} {acc k : Nat} (h : RdAt l acc k) (hk : l.length ≤ k ∨ 10 ≤ k) : rd l = none := by
  rw [← h.1]
  rcases hk with hk | hk
  · rw [List.drop_eq_nil_of_le hk]
    cases 10 - k <;> rfl
  · rw [show 10 - k = 0 from by omega]
    rfl
theorem RdAt.next {l : List UInt8} {acc k : Nat} (h : RdAt l acc k) (hk : k < l.length) (h9 : k < 9) (hc : 128 ≤ l[k].toNat) : RdAt l (acc + l[k].toNat % 128 * 128 ^ k) (k + 1) := by
  refine ⟨?_, ?_, by omega⟩
  · rw [h.unfold hk (by omega), if_neg (by omega), if_pos hc]
  · have h1 : l[k].toNat % 128 ≤ 127 := by omega
    have h2 : l[k].toNat % 128 * 128 ^ k ≤ 127 * 128 ^ k := Nat.mul_le_mul_right _ h1
    have h3 : 128 ^ (k + 1) = 128 ^ k * 128 := Nat.pow_succ ..
    have := h.2.1
    omega

/-- Behind a jump to the label: the frame is whatever it is. -/
def RdNone (l : List UInt8) (a : Act) : Prop := rd l = none ∧ ∃ u0 u1 u2 u3 u4 u5 u6 u7 u8 u9 u10 u11 u12 u13 u14 u15 u16 u17 u18 u19 u20 u21 u22 u23 u24 u25 u26 u27 u28 u29 u30 u31 u32 u33 u34 u35 u36 u37 u38 u39 u40 u41 u42 u43 : Value, a = { tmps := #[u0, u1, u2, u3, u4, u5, u6, u7, u8, u9, u10, u11, u12, u13, u14, u15, u16, u17, u18, u19, u20, u21, u22, u23, u24, u25, u26, u27, u28, u29, u30, u31, u32, u33, u34, u35, u36, u37, u38, u39, u40, u41, u42, u43], defers := [] }

end Go.Proofs.YtocnabpplbeafaaGreat
/- louperef03.Number, ReadNumber: the same bytes, the same reading. -/
namespace Go.Proofs.YtocnabpplbeafaaGreat
open Go Go.RowKit Lou

def unitAt (k : Nat) : Nat := 128 ^ (min k 9)

end Go.Proofs.YtocnabpplbeafaaGreat
/- octet.ReadFour, ReadEight and what they call; louperef03.ReadFixed. -/
namespace Go.Proofs.YtocnabpplbeafaaGreat
open Go Go.RowKit Lou

/-- A reader: its one field, in a block of the call's own. -/
theorem has_gives (w : World) (g o : Nat) (A : Option Addr) (len c n : Nat) (hlen : len ≤ 9223372036854775807) (hc : w.cell? ⟨g, o, none⟩ = some (.slice A len c)) :
    Calls Tryz.prog 146 #[.pointer (some ⟨g, o, none⟩), .int .u64 n] w fun e w' => e = .returned (.bool (decide (n ≤ len))) ∧ w = w' := by
  go_enter Tryz.func146, Tryz.ntmps146
  go_wp2
  go_ret
  exact ⟨rfl, rfl⟩

theorem take_gives (w : World) (g o : Nat) (A : Option Addr) (len c n : Nat) (hlen : len ≤ c) (hcc : c ≤ 9223372036854775807) (hn : n ≤ len) (hc : w.cell? ⟨g, o, none⟩ = some (.slice A len c)) (hf : w.frozen? ⟨g, o, none⟩ = false) :
    Calls Tryz.prog 147 #[.pointer (some ⟨g, o, none⟩), .int .i64 n] w fun e w' => e = .returned (.slice A n n) ∧ w.setCell ⟨g, o, none⟩ (.slice (cutA A c n) (len - n) (c - n)) = w' := by
  by_cases hcn : c = n
  · obtain rfl : len = c := by omega
    subst hcn
    go_enter Tryz.func147, Tryz.ntmps147
    go_wp2
    go_ret
    refine ⟨rfl, ?_⟩
    simp [cutA]
  · go_enter Tryz.func147, Tryz.ntmps147
    go_wp2
    go_ret
    refine ⟨rfl, ?_⟩
    simp [cutA, hcn]

theorem rfix_snoc (l : List UInt8) (c : UInt8) : rfix (l ++ [c]) = 256 * rfix l + c.toNat := by simp [rfix]
theorem rfix_take_succ {l : List UInt8} {k : Nat} (hk : k < l.length) : rfix (l.take (k + 1)) = 256 * rfix (l.take k) + l[k].toNat := by
  rw [List.take_succ_eq_append_getElem hk, rfix_snoc]
theorem rfix_take_lt {l : List UInt8} {k m : Nat} (hk : k ≤ m) (hm : m ≤ 8) : rfix (l.take k) < 18446744073709551616 := by
  have h1 := rfix_lt (l.take k)
  have h2 : 256 ^ (l.take k).length ≤ 256 ^ 8 := Nat.pow_le_pow_right (by omega) (by simp; omega)
  have h3 : (256 : Nat) ^ 8 = 18446744073709551616 := by decide
  omega
theorem rfix_mul {l : List UInt8} {k m : Nat} (hk : k < m) (hm : m ≤ 8) : IntKind.u64.wrap (256 * (rfix (l.take k) : Int)) = 256 * (rfix (l.take k) : Int) := by
  have h1 := rfix_lt (l.take k)
  have h2 : 256 ^ (l.take k).length ≤ 256 ^ 7 := Nat.pow_le_pow_right (by omega) (by simp; omega)
  have h3 : (256 : Nat) ^ 7 = 72057594037927936 := by decide
  rw [IntKind.wrap_u64]
  omega
theorem rfix_or {l : List UInt8} {k m : Nat} (hl : k < l.length) (hk : k < m) (hm : m ≤ 8) : bits .or .u64 (IntKind.u64.wrap ((rfix (l.take k) : Int) * 256)) (l[k].toNat : Int) = (rfix (l.take (k + 1)) : Int) := by
  have h0 := rfix_mul (l := l) hk hm
  rw [Int.mul_comm, h0]
  have hc := l[k].toNat_lt
  have h1 := rfix_take_lt (l := l) (show k + 1 ≤ m from hk) hm
  rw [rfix_take_succ hl] at h1
  have h2 := u64_or_nat (256 * rfix (l.take k)) l[k].toNat (by omega) (by omega)
  rw [show 256 * (rfix (l.take k) : Int) = ((256 * rfix (l.take k) : Nat) : Int) from by omega, h2, rfix_take_succ hl]
  congr 1
  exact nat_join 8 _ _ (by omega) (by omega)

def fixV (m : Nat) (l : List UInt8) : Value := if l.length < m then .tuple #[.int .u64 0, .int .i64 130] else .tuple #[.int .u64 (rfix (l.take m) : Int), .int .i64 0]

set_option maxRecDepth 100000 in
set_option maxHeartbeats 1000000 in
theorem rnumber_gives (w : World) (g B : Nat) (A : Option Addr) (c : Nat) (l : List UInt8) (m : Nat) (hm : m ≤ 8) (hB : B ≤ g) (h : InB w B A c l) (hc : w.cell? ⟨g, 0, none⟩ = some (.slice A l.length c)) (hf : w.frozen? ⟨g, 0, none⟩ = false) :
    Calls Tryz.prog 129 #[.pointer (some ⟨g, 0, none⟩), .int .i64 m] w fun e w' => e = .returned (fixV m l) ∧ Below g w w' := by
  have hle := h.le
  have hmax := h.max
  unfold fixV
  by_cases hs : l.length < m
  · rw [if_pos hs]
    have hd : decide (m ≤ l.length) = false := by simp; omega
    go_enter Tryz.func129, Tryz.ntmps129
    go_wp2_with (first | (go_at_call 146; refine (has_gives _ g 0 A l.length c m (by omega) hc).mono ?_; rintro e w' ⟨rfl, rfl⟩))
    go_ret2
    exact ⟨rfl, Below.refl _ _⟩
  · rw [if_neg hs]
    have hd : decide (m ≤ l.length) = true := by simp; omega
    have hin : InB (w.setCell ⟨g, 0, none⟩ (.slice (cutA A c m) (l.length - m) (c - m))) B A c l := h.keep fun p hp => World.cell?_setCell_other w _ p _ (fun e => by subst e; simp at hp; omega)
    go_enter Tryz.func129, Tryz.ntmps129
    go_wp2_with (first | (go_at_call 146; refine (has_gives _ g 0 A l.length c m (by omega) hc).mono ?_; rintro e w' ⟨rfl, rfl⟩) | (go_at_call 147; refine (take_gives _ g 0 A l.length c m (by omega) (by omega) (by omega) hc hf).mono ?_; rintro e w' ⟨rfl, rfl⟩))
    clear hc
    have hb : Below g w (w.setCell ⟨g, 0, none⟩ (.slice (cutA A c m) (l.length - m) (c - m))) := (Below.refl g w).setCell (p := ⟨g, 0, none⟩) (Nat.le_refl g) _
    generalize w.setCell ⟨g, 0, none⟩ (.slice (cutA A c m) (l.length - m) (c - m)) = W at *
    go_loop [4, 21] (fun s i => ∃ k : Nat, k ≤ m ∧ i = .int .i64 k ∧ s = .int .u64 (rfix (l.take k) : Int)) (fun _ i => m - (intOf i).toNat)
    case atStart => exact ⟨0, by omega, rfl, rfl⟩
    case round =>
      obtain ⟨k, hk, rfl, rfl⟩ := hrel
      by_cases hlt : k < m
      · have hkl : k < l.length := by omega
        obtain ⟨g', o, rfl, _, hc⟩ := hin.lies (by omega)
        have hck := hc k hkl
        clear hc
        have hbd := (l[k]).toNat_lt
        have h1 := rfix_or hkl hlt hm
        go_wp2_with fail
        refine ⟨⟨k + 1, by omega, by go_num, rfl⟩, by simp [intOf]; omega⟩
      · obtain rfl : k = m := by omega
        go_wp2_with fail
        go_ret2
        exact ⟨rfl, hb⟩

def fixV32 (l : List UInt8) : Value := if l.length < 4 then .tuple #[.int .u32 0, .int .i64 130] else .tuple #[.int .u32 (rfix (l.take 4) : Int), .int .i64 0]

theorem fixV_lt {m : Nat} {l : List UInt8} (h : l.length < m) : fixV m l = .tuple #[.int .u64 0, .int .i64 130] := by unfold fixV; rw [if_pos h]
theorem fixV_ge {m : Nat} {l : List UInt8} (h : ¬ l.length < m) : fixV m l = .tuple #[.int .u64 (rfix (l.take m) : Int), .int .i64 0] := by unfold fixV; rw [if_neg h]
theorem fixV32_lt {l : List UInt8} (h : l.length < 4) : fixV32 l = .tuple #[.int .u32 0, .int .i64 130] := by unfold fixV32; rw [if_pos h]
theorem fixV32_ge {l : List UInt8} (h : ¬ l.length < 4) : fixV32 l = .tuple #[.int .u32 (rfix (l.take 4) : Int), .int .i64 0] := by unfold fixV32; rw [if_neg h]

set_option maxRecDepth 100000 in
theorem readEight_gives (w : World) (A : Option Addr) (c : Nat) (l : List UInt8) (h : InB w w.heap.size A c l) :
    Calls Tryz.prog 105 #[.slice A l.length c] w fun e w' => e = .returned (fixV 8 l) ∧ Below w.heap.size w w' := by
  have hb : Below w.heap.size w (w.alloc (Obj.cells #[Value.slice A l.length c] 191)) := (Below.refl _ _).alloc (Nat.le_refl _) _
  have H := rnumber_gives (w.alloc (Obj.cells #[Value.slice A l.length c] 191)) w.heap.size w.heap.size A c l 8 (by omega) (Nat.le_refl _) (h.below hb) (new_cell _ _ _) (new_free _ _ _ _)
  by_cases hs : l.length < 8
  · rw [fixV_lt hs] at H ⊢
    go_enter Tryz.func105, Tryz.ntmps105
    go_wp2_with (go_at_call 129; refine H.mono ?_; rintro e w' ⟨rfl, hb2⟩)
    go_ret2
    exact ⟨rfl, hb.trans hb2⟩
  · rw [fixV_ge hs] at H ⊢
    go_enter Tryz.func105, Tryz.ntmps105
    go_wp2_with (go_at_call 129; refine H.mono ?_; rintro e w' ⟨rfl, hb2⟩)
    go_ret2
    exact ⟨rfl, hb.trans hb2⟩

set_option maxRecDepth 100000 in
theorem readFour_gives (w : World) (A : Option Addr) (c : Nat) (l : List UInt8) (h : InB w w.heap.size A c l) :
    Calls Tryz.prog 107 #[.slice A l.length c] w fun e w' => e = .returned (fixV32 l) ∧ Below w.heap.size w w' := by
  have hb : Below w.heap.size w (w.alloc (Obj.cells #[Value.slice A l.length c] 191)) := (Below.refl _ _).alloc (Nat.le_refl _) _
  have H := rnumber_gives (w.alloc (Obj.cells #[Value.slice A l.length c] 191)) w.heap.size w.heap.size A c l 4 (by omega) (Nat.le_refl _) (h.below hb) (new_cell _ _ _) (new_free _ _ _ _)
  by_cases hs : l.length < 4
  · rw [fixV_lt hs] at H
    rw [fixV32_lt hs]
    go_enter Tryz.func107, Tryz.ntmps107
    go_wp2_with (go_at_call 129; refine H.mono ?_; rintro e w' ⟨rfl, hb2⟩)
    go_ret2
    exact ⟨rfl, hb.trans hb2⟩
  · rw [fixV_ge hs] at H
    rw [fixV32_ge hs]
    have h4 : rfix (l.take 4) < 4294967296 := by
      have h1 := rfix_lt (l.take 4)
      have h2 : 256 ^ (l.take 4).length ≤ 256 ^ 4 := Nat.pow_le_pow_right (by omega) (by simp; omega)
      have h3 : (256 : Nat) ^ 4 = 4294967296 := by decide
      omega
    go_enter Tryz.func107, Tryz.ntmps107
    go_wp2_with (go_at_call 129; refine H.mono ?_; rintro e w' ⟨rfl, hb2⟩)
    go_ret2
    exact ⟨rfl, hb.trans hb2⟩
end Go.Proofs.YtocnabpplbeafaaGreat
/- octet.String, ReadString; louperef03.String, ReadString. -/
namespace Go.Proofs.YtocnabpplbeafaaGreat
open Go Go.RowKit Lou

/-- A string's bytes. -/
def strL (l : List UInt8) : List UInt8 := num l.length ++ l

theorem OwnB.below {w0 w w' : World} {v : Value} {l : List UInt8} (h : OwnB w w0.heap.size v l) (hb : Below w0.heap.size w0 w) (hg : w.grownBy w' v.ownBlock) : Below w0.heap.size w0 w' :=
  hb.grown hg hb.size (fun k hk => (World.ownsRow.lt h k hk).1)

/-- What a string's reading answers. -/
def rdS (l : List UInt8) : Option (List UInt8 × Nat) :=
  match rd l with
  | some (n, k) => if n ≤ l.length - k then some ((l.drop k).take n, k + n) else none
  | none => none
def rdSV (l : List UInt8) : Value :=
  match rdS l with
  | some (s, k) => .tuple #[.string (str s), .int .i64 (k : Int), .int .i64 0]
  | none => .tuple #[.string (str []), .int .i64 0, .int .i64 130]
end Go.Proofs.YtocnabpplbeafaaGreat
/- frame: within (slices.ContainsFunc over ints), Check, place, Sectors, FrameAt, PageAt. -/
namespace Go.Proofs.YtocnabpplbeafaaGreat
open Go Go.RowKit Lou

/-- Numbers that lie in a row. -/
structure InN (w : World) (A : Option Addr) (xs : List Int) : Prop where
  lies : 0 < xs.length → ∃ g o, A = some ⟨g, o, none⟩ ∧ ∀ j (h : j < xs.length), w.cell? ⟨g, o + j, none⟩ = some (.int .i64 xs[j])

theorem wrap_i64_fr (n : Int) (h0 : -9223372036854775808 ≤ n) (h1 : n < 9223372036854775808) : IntKind.i64.wrap n = n := by
  simp [IntKind.wrap, IntKind.bits, IntKind.signed]
  split <;> omega

set_option maxRecDepth 100000 in
set_option maxHeartbeats 1000000 in
theorem indexFunc_gives (w : World) (A : Option Addr) (c : Nat) (xs : List Int) (h : InN w A xs) (hmax : xs.length ≤ 9223372036854775807) (p : Int → Bool) (f : FuncId) (lb : Array Value) (ef : ∀ args w, (callFunc f args).run Tryz.prog w = .ok (.enter f args) w)
    (hf : ∀ x, Calls Tryz.prog f (#[.int .i64 x] ++ lb) w fun e w' => e = .returned (.bool (p x)) ∧ w = w') :
    Calls Tryz.prog 151 #[.slice A xs.length c, .func (.func f) #[] lb] w fun e w' => (∃ k : Int, e = .returned (.int .i64 k) ∧ decide (0 ≤ k) = xs.any p) ∧ w = w' := by
  go_enter Tryz.func151, Tryz.ntmps151
  go_wp2_with fail
  go_loop [8] (fun i => ∃ k : Nat, k ≤ xs.length ∧ i = .int .i64 k ∧ Hid ((xs.take k).any p = false)) (fun i => xs.length - (intOf i).toNat)
  case atStart => exact ⟨0, Nat.zero_le _, rfl, Lib.hid (by simp)⟩
  case round =>
    obtain ⟨k, hk, rfl, hno⟩ := hrel
    by_cases hlt : k < xs.length
    · obtain ⟨g, o, rfl, hc⟩ := h.lies (by omega)
      have hck := hc k hlt
      have H := hf xs[k]
      clear hc hf
      have hk1 : IntKind.i64.wrap ((k : Int) + 1) = (k : Int) + 1 := wrap_i64_fr _ (by omega) (by omega)
      have hnext : p xs[k] = false → (xs.take (k + 1)).any p = false := by
        intro hp
        rw [List.take_succ_eq_append_getElem hlt, List.any_append, hno.out]
        simp [hp]
      have hyes : p xs[k] = true → xs.any p = true := fun hp => List.any_eq_true.2 ⟨xs[k], List.getElem_mem hlt, hp⟩
      cases hp : p xs[k] with
      | true =>
        have hy := hyes hp
        rw [hp] at H
        go_wp2_with fail
        refine H.mono ?_
        clear H
        rintro e w' ⟨rfl, rfl⟩
        go_wp2
        go_ret
        exact ⟨⟨(k : Int), rfl, by rw [hy]; simp⟩, rfl⟩
      | false =>
        have hn := Lib.hid (hnext hp)
        rw [hp] at H
        clear hnext hyes
        go_wp2_with fail
        refine H.mono ?_
        clear H
        rintro e w' ⟨rfl, rfl⟩
        go_wp2
        refine ⟨⟨k + 1, by omega, by go_num, hn⟩, by simp [intOf]; omega⟩
    · obtain rfl : k = xs.length := by omega
      have hn := hno.out
      rw [List.take_length] at hn
      have hN := Lib.hid hn
      clear hn hno hf
      go_wp2
      go_ret
      exact ⟨⟨-1, rfl, by rw [hN.out]; simp⟩, rfl⟩

set_option maxRecDepth 100000 in
set_option maxHeartbeats 1000000 in
theorem within1_gives (w : World) (a b : Addr) (lo hi x : Int) (ha : w.cell? a = some (.int .i64 lo)) (hb : w.cell? b = some (.int .i64 hi)) :
    Calls Tryz.prog 133 (#[.int .i64 x] ++ #[.pointer (some a), .pointer (some b)]) w fun e w' => e = .returned (.bool (decide (x < lo) || decide (hi < x))) ∧ w = w' := by
  by_cases h1 : x < lo
  · go_enter Tryz.func133, Tryz.ntmps133
    go_wp2
    go_ret
    exact ⟨by simp [h1], rfl⟩
  · go_enter Tryz.func133, Tryz.ntmps133
    go_wp2
    go_ret
    have h2 : decide (x < lo) = false := decide_eq_false (by omega)
    exact ⟨by rw [h2, Bool.false_or]; rfl, rfl⟩

def isIn (lo hi : Int) (xs : List Int) : Bool := !xs.any (fun x => decide (x < lo) || decide (hi < x))
theorem isIn_one (lo hi x : Int) : isIn lo hi [x] = decide (lo ≤ x ∧ x ≤ hi) := by
  simp only [isIn, List.any_cons, List.any_nil, Bool.or_false]
  by_cases h1 : x < lo <;> by_cases h2 : hi < x <;> simp [h1, h2] <;> omega
theorem isIn_two (lo hi x y : Int) : isIn lo hi [x, y] = (isIn lo hi [x] && isIn lo hi [y]) := by
  simp [isIn, Bool.not_or]

set_option maxRecDepth 100000 in
set_option maxHeartbeats 1000000 in
theorem within_gives (w : World) (A : Option Addr) (c : Nat) (xs : List Int) (h : InN w A xs) (hA : ∀ g o, A = some ⟨g, o, none⟩ → g < w.heap.size) (hmax : xs.length ≤ 9223372036854775807) (lo hi : Int) :
    Calls Tryz.prog 114 #[.int .i64 lo, .int .i64 hi, .slice A xs.length c] w fun e w' => e = .returned (.bool (isIn lo hi xs)) ∧ Below w.heap.size w w' := by
  have hb : Below w.heap.size w ((w.alloc (.cells #[.int .i64 lo] 3)).alloc (.cells #[.int .i64 hi] 3)) := ((Below.refl _ _).alloc (Nat.le_refl _) _).alloc (by simp) _
  have b0 := (BlkIs.new w 3 #[.int .i64 lo]).alloc (.cells #[.int .i64 hi] 3)
  have b1 := BlkIs.new (w.alloc (.cells #[.int .i64 lo] 3)) 3 #[.int .i64 hi]
  rw [World.size_alloc] at b1
  have hin : InN ((w.alloc (.cells #[.int .i64 lo] 3)).alloc (.cells #[.int .i64 hi] 3)) A xs := ⟨fun hl => by
    obtain ⟨g, o, e, hc⟩ := h.lies hl
    exact ⟨g, o, e, fun j hj => (hb.cell (p := ⟨g, o + j, none⟩) (hA g o e)).trans (hc j hj)⟩⟩
  have H := indexFunc_gives _ A c xs hin hmax (fun x => decide (x < lo) || decide (hi < x)) 133 #[.pointer (some ⟨w.heap.size, 0, none⟩), .pointer (some ⟨w.heap.size + 1, 0, none⟩)] (enters_of Tryz.func133 (by kernel_rfl) rfl)
    (fun x => within1_gives _ _ _ lo hi x b0.boxed b1.boxed)
  have H2 : Calls Tryz.prog 132 #[.slice A xs.length c, .func (.func 133) #[] #[.pointer (some ⟨w.heap.size, 0, none⟩), .pointer (some ⟨w.heap.size + 1, 0, none⟩)]] ((w.alloc (.cells #[.int .i64 lo] 3)).alloc (.cells #[.int .i64 hi] 3))
      fun e w' => e = .returned (.bool (xs.any (fun x => decide (x < lo) || decide (hi < x)))) ∧ ((w.alloc (.cells #[.int .i64 lo] 3)).alloc (.cells #[.int .i64 hi] 3)) = w' := by
    go_enter Tryz.func132, Tryz.ntmps132
    go_wp2_with fail
    refine H.mono ?_
    rintro e w' ⟨⟨k, rfl, hk⟩, rfl⟩
    have hK := Lib.hid hk
    clear hk
    go_wp2
    go_ret
    exact ⟨congrArg (fun b => Ending.returned (.bool b)) hK.out, rfl⟩
  clear H
  go_enter Tryz.func114, Tryz.ntmps114
  go_wp2_with fail
  refine H2.mono ?_
  rintro e w' ⟨rfl, rfl⟩
  go_wp2
  go_ret
  exact ⟨rfl, hb⟩
end Go.Proofs.YtocnabpplbeafaaGreat
/- slices.Grow, Concat, Repeat, Clone over bytes. -/
namespace Go.Proofs.YtocnabpplbeafaaGreat
open Go Go.RowKit Lou

set_option maxRecDepth 100000 in
set_option maxHeartbeats 1000000 in
theorem grow_gives (n : Nat) (hn : n ≤ 140737488355328) (w : World) : Calls Tryz.prog 119 #[.slice none 0 0, .int .i64 n] w (GivesB w []) := by
  obtain ⟨i0, hi, hz0, hz1, hz2⟩ := info_parts inf_u8
  have e0 : IntKind.i64.wrap ((n : Int) - 0) = (n : Int) := by rw [wrap_i64_fr _ (by omega) (by omega)]; omega
  have e1 : IntKind.i64.wrap (n : Int) = (n : Int) := wrap_i64_fr _ (by omega) (by omega)
  by_cases h0 : 0 < n
  · have hr := Lib.run_append_nil_zeros (P := Tryz.prog) w 38 3 38 5 i0 (.int .u8 0) .i64 .i64 Tryz.underlying38 Tryz.underlying3 hi hz0 n h0 (by omega) (by omega) (by rw [hz2]; omega)
    have hcap := grownCap_le_maxLen w n 0 5 (by unfold maxLen; omega)
    have hcap' : grownCap w n 0 5 ≤ 9223372036854775807 := by unfold maxLen at hcap; omega
    have hge := grownCap_ge w n 0 5
    go_enter Tryz.func119, Tryz.ntmps119
    generalize grownCap w n 0 5 = cap at *
    generalize hcur : Builtin.zeroCells (Value.int .u8 0).cells n ++ Builtin.zeroCells (Value.int .u8 0).cells (cap - n) = cur at *
    go_wp2_with (at_builtin; refine Lib.wpList_append_run _ rfl (.tmp 20) (.tmp 21) _ _ rfl _ _ rfl rfl _ _ hr ?_)
    go_ret
    have hB0 : Below w.heap.size w (w.drew.alloc (.cells cur 5)) := ((Below.refl _ w).drew).alloc (Nat.le_refl _) _
    refine ⟨_, rfl, ⟨by simp, .inr ⟨w.heap.size, cap, cur, rfl, Nat.le_refl _, heap_alloc_new w.drew _, Nat.zero_le _, hcap, ?_, by simp⟩⟩, hB0⟩
    rw [← hcur, Array.size_append, size_zeroCells, size_zeroCells]
    simp [Value.cells]
    omega
  · obtain rfl : n = 0 := by omega
    go_enter Tryz.func119, Tryz.ntmps119
    go_wp2
    go_ret
    exact ⟨_, rfl, OwnB.nil _ _, Below.refl _ _⟩

theorem take_flat (ls : List (List UInt8)) (k : Nat) (h : k < ls.length) : (ls.take (k + 1)).flatten = (ls.take k).flatten ++ ls[k] := by
  rw [List.take_succ_eq_append_getElem h, List.flatten_append]
  simp
theorem flat_le (ls : List (List UInt8)) (k : Nat) : (ls.take k).flatten.length ≤ ls.flatten.length := by
  have : ls.flatten = (ls.take k).flatten ++ (ls.drop k).flatten := by rw [← List.flatten_append, List.take_append_drop]
  rw [this, List.length_append]
  omega

set_option maxRecDepth 100000 in
set_option maxHeartbeats 2000000 in
theorem concat_gives (w : World) (A : Option Addr) (c : Nat) (zs : List (Piece w w.heap.size)) (hI : InLL w w.heap.size A c zs) (hmax : (zs.map Piece.l).flatten.length ≤ 1000000000) :
    Calls Tryz.prog 90 #[.slice A zs.length c] w (GivesB w (zs.map Piece.l).flatten) := by
  have hle := hI.le
  have hmx := hI.max
  have hfl := fun k => flat_le (zs.map Piece.l) k
  have hnx : ∀ k (h : k < zs.length), ((zs.map Piece.l).take (k + 1)).flatten = ((zs.map Piece.l).take k).flatten ++ zs[k].1.2 := fun k h => by
    rw [take_flat _ _ (by simpa using h)]
    simp [Piece.l]
  have hall : ((zs.map Piece.l).take zs.length).flatten = (zs.map Piece.l).flatten := by rw [List.take_of_length_le (by simp)]
  generalize zs.map Piece.l = ls at *
  have HX := Lib.hid hnx
  have HA := Lib.hid hall
  clear hnx hall
  have hs0 : (ls.take 0).flatten = [] := by simp
  go_enter Tryz.func90, Tryz.ntmps90
  go_wp2_with fail
  go_loop [3, 11] (fun s i => ∃ k t : Nat, k ≤ zs.length ∧ i = .int .i64 k ∧ s = .int .i64 t ∧ t ≤ 1000000000 ∧ Hid (t = (ls.take k).flatten.length)) (fun _ i => zs.length - (intOf i).toNat)
  case atStart => exact ⟨0, 0, Nat.zero_le _, rfl, rfl, by omega, Lib.hid (by simp)⟩
  case round =>
    obtain ⟨k, t, hk, rfl, rfl, ht, hT⟩ := hrel
    by_cases hlt : k < zs.length
    · obtain ⟨g, o, rfl, hg, hc⟩ := hI.lies (by omega)
      have hck := hc k hlt
      have hval : zs[k].val = .slice zs[k].1.1.1 zs[k].1.2.length zs[k].1.1.2 := rfl
      rw [hval] at hck
      have hnext : t + zs[k].1.2.length = (ls.take (k + 1)).flatten.length := by rw [HX.out k hlt, List.length_append, hT.out]
      have hbd := hfl (k + 1)
      have hN := Lib.hid hnext
      have hbd2 : t + zs[k].1.2.length ≤ 1000000000 := by omega
      have hwr : IntKind.i64.wrap ((t : Int) + (zs[k].1.2.length : Int)) = (t : Int) + (zs[k].1.2.length : Int) := wrap_i64_fr _ (by omega) (by omega)
      clear hc hval hnext hbd hfl
      go_wp2_with fail
      exact ⟨⟨k + 1, t + zs[k].1.2.length, by omega, by simp, by simp, hbd2, hN⟩, by simp [intOf]; omega⟩
    · obtain rfl : k = zs.length := by omega
      go_wp2_with fail
      refine (grow_gives t (by omega) _).mono ?_
      rintro e w1 ⟨v, rfl, hown, hB⟩
      go_wp2_with fail
      go_loopw [6, 27] (fun v i wr => ∃ k : Nat, k ≤ zs.length ∧ i = .int .i64 k ∧ OwnB wr w.heap.size v (ls.take k).flatten ∧ Below w.heap.size w wr) (fun _ i _ => zs.length - (intOf i).toNat)
      case atStart => exact ⟨0, Nat.zero_le _, rfl, by simpa using hown, hB⟩
      case round =>
        obtain ⟨k, hk, rfl, hown, hB⟩ := hrel
        have hBs := hB.size
        by_cases hlt : k < zs.length
        · obtain ⟨g, o, rfl, hg, hc⟩ := hI.lies (by omega)
          have hck := (hB.cell (p := ⟨g, o + k, none⟩) hg).trans (hc k hlt)
          have hval : zs[k].val = .slice zs[k].1.1.1 zs[k].1.2.length zs[k].1.1.2 := rfl
          rw [hval] at hck
          have hz := (zs[k].2.below hB).more hBs
          have hbd := hfl (k + 1)
          rw [HX.out k hlt, List.length_append] at hbd
          clear hc hval hfl
          have t1 : (ls.take k).flatten.length + zs[k].1.2.length ≤ 140737488355328 := by omega
          go_wp2_with (at_builtin; refine wp_appB rfl (.tmp 31) (.tmp 32) rfl w.heap.size u6 (ls.take k).flatten (by rfl) hown wr.heap.size zs[k].1.1.1 zs[k].1.1.2 zs[k].1.2 (by rfl) hz t1 hBs ?_; intro v' w2 hown2 hg2; have hB2 := hown.below hB hg2)
          refine ⟨⟨k + 1, by omega, by simp, by rw [HX.out k hlt]; exact hown2, hB2⟩, by simp [intOf]; omega⟩
        · obtain rfl : k = zs.length := by omega
          go_wp2
          go_ret
          rw [HA.out] at hown
          exact ⟨_, rfl, hown, hB⟩
end Go.Proofs.YtocnabpplbeafaaGreat
/- A region that draws its order, by facts: one predicate a slot, each operation shown once, whatever the order. -/
namespace Go.Proofs.YtocnabpplbeafaaGreat
open Go Go.RowKit

/-- The world has grown: what lay lies as it lay. -/
def Grow (w w' : World) : Prop := Below w.heap.size w w'
theorem Grow.refl (w : World) : Grow w w := Below.refl _ _
theorem Grow.trans {a b c : World} (h : Grow a b) (k : Grow b c) : Grow a c := Below.trans h (Below.mono k h.size)
theorem Grow.drew (w : World) : Grow w w.drew := (Below.refl _ _).drew
theorem Grow.alloc (w : World) (o : Obj) : Grow w (w.alloc o) := (Below.refl _ _).alloc (Nat.le_refl _) o

namespace Reg
variable {P : Program} {ops : Array Oper} {FS : Tmp → Value → World → Prop}

/-- What is known of an operation's slot. -/
def FSd (FS : Tmp → Value → World → Prop) : Option Tmp → Value → World → Prop
  | some d, v, w => FS d v w
  | none, _, _ => True

/-- An operation is in order: from what is known of the slots that it looks at, it comes to what is claimed of its own. -/
def OpOk (P : Program) (ops : Array Oper) (FS : Tmp → Value → World → Prop) (w0 : World) (o : Oper) : Prop :=
  ∀ (a : Act) (w : World) (K : Act → World → Prop) (Q : Exit → Act → World → Prop), Grow w0 w → (∀ t, (o.looksAt ops).contains t = true → FS t (a.eval (.tmp t)) w) →
    (∀ v w', Grow w w' → FSd FS o.dst v w' → K (a.put o.dst v) w') →
    (if Region.wanted o (yielded ops a.tmps) then o.wp P a w K Q ∨ (o.asks P a w ∧ LetsOut Q) else K (a.put o.dst undef) w)

def AllOk (P : Program) (ops : Array Oper) (FS : Tmp → Value → World → Prop) (w0 : World) : List Oper → Prop
  | [] => True
  | o :: r => OpOk P ops FS w0 o ∧ AllOk P ops FS w0 r

theorem AllOk.get {w0 : World} : ∀ {l : List Oper}, AllOk P ops FS w0 l → ∀ o ∈ l, OpOk P ops FS w0 o
  | [], _, o, h => by cases h
  | x :: r, h, o, hm => by
    rcases List.mem_cons.1 hm with rfl | hm
    · exact h.1
    · exact AllOk.get h.2 o hm

/-- Each edge that binds leads back; each slot that an operation looks at and that the region writes is written by an operation that comes ahead by an edge. -/
def covered (ops : Array Oper) : Bool :=
  ops.toList.zipIdx.all fun (o, i) =>
    (o.after.toList.all fun e => !Region.binds .any e || decide (e.on < i)) &&
    (o.looksAt ops).all fun t => ops.toList.zipIdx.all fun (p, j) => p.dst != some t || (o.after.toList.any fun e => Region.binds .any e && e.on == j)

def Known (ops : Array Oper) (listed : Array Bool) (t : Tmp) : Prop := ∀ (j : Nat) (p : Oper), ops[j]? = some p → p.dst = some t → listed.getD j true = true

structure J (ops : Array Oper) (FS : Tmp → Value → World → Prop) (w0 : World) (n : Nat) (d : List Deferred) (listed : Array Bool) (a : Act) (w : World) : Prop where
  size : a.tmps.size = n
  defers : a.defers = d
  grow : Grow w0 w
  facts : ∀ t, Known ops listed t → FS t (a.eval (.tmp t)) w

theorem eval_put_same {a : Act} {d : Tmp} {v : Value} (h : d < a.tmps.size) : (a.put (some d) v).eval (.tmp d) = v := by
  simp [Act.put, Act.eval, h]
theorem eval_put_other {a : Act} {d t : Tmp} {v : Value} (h : t ≠ d) : (a.put (some d) v).eval (.tmp t) = a.eval (.tmp t) := by
  simp [Act.put, Act.eval, Array.getD_eq_getD_getElem?, Ne.symm h]

theorem ready_mem {i : Nat} {listed : Array Bool} (h : i ∈ Region.ready .any ops listed) : ∃ o, ops[i]? = some o ∧ listed.getD i true = false ∧ ∀ e ∈ o.after.toList, Region.binds .any e = true → listed.getD e.on false = true := by
  unfold Region.ready at h
  simp only [List.mem_filter, List.mem_range, Bool.and_eq_true, Bool.not_eq_true'] at h
  obtain ⟨hi, h1, h2⟩ := h
  cases ho : ops[i]? with
  | none => simp [ho] at h2
  | some o =>
    refine ⟨o, rfl, h1, ?_⟩
    simp only [ho, Option.map_some, Option.getD_some] at h2
    intro e he hb
    rw [Array.all_eq_true_iff_forall_mem] at h2
    have := h2 e (Array.mem_toList_iff.1 he)
    simpa [hb] using this

theorem covered_spec (h : covered ops = true) {i : Nat} {o : Oper} (ho : ops[i]? = some o) :
    (∀ e ∈ o.after.toList, Region.binds .any e = true → e.on < i) ∧
    (∀ t, (o.looksAt ops).contains t = true → ∀ (j : Nat) (p : Oper), ops[j]? = some p → p.dst = some t → ∃ e ∈ o.after.toList, Region.binds .any e = true ∧ e.on = j) := by
  unfold covered at h
  rw [List.all_eq_true] at h
  have hm : (o, i) ∈ ops.toList.zipIdx := by
    rw [List.mem_zipIdx_iff_getElem?]
    simpa using ho
  have := h _ hm
  simp only [Bool.and_eq_true, List.all_eq_true] at this
  obtain ⟨h1, h2⟩ := this
  constructor
  · intro e he hb
    have := h1 e he
    simpa [hb] using this
  · intro t ht j p hp hd
    have hp' : (p, j) ∈ ops.toList.zipIdx := by
      rw [List.mem_zipIdx_iff_getElem?]
      simpa using hp
    have := h2 t (by simpa using ht) _ hp'
    simp only [hd, bne_self_eq_false, Bool.false_or, List.any_eq_true, Bool.and_eq_true, beq_iff_eq] at this
    obtain ⟨e, he, hb, hj⟩ := this
    exact ⟨e, he, hb, hj⟩

/-- The number of operations that are still to come. -/
def left (listed : Array Bool) : Nat := (listed.toList.filter (! ·)).length

theorem region_wpAny (hm : P.follows .mixedOrders = true) (hcov : covered ops = true) {a0 : Act} {w0 : World} {Q : Exit → Act → World → Prop} (n : Nat) (hn : a0.tmps.size = n)
    (hdst : ∀ o ∈ ops.toList, ∀ d, o.dst = some d → d < n) (FS : Tmp → Value → World → Prop)
    (hstab : ∀ t v w w', FS t v w → Grow w w' → FS t v w')
    (hstart : ∀ t, (∀ o ∈ ops.toList, o.dst ≠ some t) → FS t (a0.eval (.tmp t)) w0)
    (hok : AllOk P ops FS w0 ops.toList)
    (hend : ∀ a w, a.tmps.size = n → a.defers = a0.defers → Grow w0 w → (∀ t, FS t (a.eval (.tmp t)) w) → Q .normal a w) :
    wpAny P .any ops Q ops.size (Array.replicate ops.size false) a0 { w0 with drawn := w0.drawn + 1 } := by
  have key : ∀ (fuel : Nat) (listed : Array Bool) (a : Act) (w : World), listed.size = ops.size → left listed ≤ fuel → J ops FS w0 n a0.defers listed a w → wpAny P .any ops Q fuel listed a w := by
    intro fuel
    have hdone : ∀ (listed : Array Bool) (a : Act) (w : World), listed.size = ops.size → J ops FS w0 n a0.defers listed a w → Region.ready .any ops listed = [] → Q .normal a w := by
      intro listed a w hs hJ hr
      have hall : ∀ i, i < ops.size → listed.getD i true = true := by
        intro i
        induction i using Nat.strongRecOn with
        | _ i ih =>
          intro hi
          cases hl : listed.getD i true with
          | true => rfl
          | false =>
            exfalso
            have : i ∈ Region.ready .any ops listed := by
              unfold Region.ready
              simp only [List.mem_filter, List.mem_range, Bool.and_eq_true, Bool.not_eq_true']
              refine ⟨hi, hl, ?_⟩
              have ho : ops[i]? = some ops[i] := Array.getElem?_eq_getElem hi
              simp only [ho, Option.map_some, Option.getD_some]
              rw [Array.all_eq_true_iff_forall_mem]
              intro e he
              have hc := (covered_spec hcov ho).1 e (Array.mem_toList_iff.2 he)
              cases hb : Region.binds .any e with
              | false => simp
              | true =>
                have hlt := hc hb
                have h1 := ih e.on hlt (by omega)
                have h2 : e.on < listed.size := by omega
                simp only [Array.getD, h2, dif_pos] at h1 ⊢
                simpa using h1
            rw [hr] at this
            cases this
      refine hend a w hJ.size hJ.defers hJ.grow (fun t => hJ.facts t ?_)
      intro j p hp _
      exact hall j (Array.getElem?_eq_some_iff.1 hp).1
    induction fuel with
    | zero =>
      intro listed a w hs hf hJ
      have hr : Region.ready .any ops listed = [] := by
        rcases hr : Region.ready .any ops listed with _ | ⟨i, r⟩
        · rfl
        · exfalso
          obtain ⟨o, ho, hl, _⟩ := ready_mem (ops := ops) (listed := listed) (i := i) (by rw [hr]; simp)
          have hi : i < listed.size := by rw [hs]; exact (Array.getElem?_eq_some_iff.1 ho).1
          have hmem : listed[i] ∈ listed.toList.filter (! ·) := by
            rw [List.mem_filter]
            refine ⟨by simp, ?_⟩
            have hl' : listed[i] = false := by simpa [Array.getD, hi] using hl
            simp [hl']
          have : 0 < left listed := List.length_pos_of_mem hmem
          omega
      exact ⟨hr, hdone listed a w hs hJ hr⟩
    | succ fuel ih =>
      intro listed a w hs hf hJ
      refine ⟨hdone listed a w hs hJ, fun i hi => ?_⟩
      obtain ⟨o, ho, hl, hedges⟩ := ready_mem hi
      have hom : o ∈ ops.toList := by
        obtain ⟨h1, h2⟩ := Array.getElem?_eq_some_iff.1 ho
        subst h2
        simp
      have hisz : i < listed.size := by rw [hs]; exact (Array.getElem?_eq_some_iff.1 ho).1
      have hlook : ∀ t, (o.looksAt ops).contains t = true → FS t (a.eval (.tmp t)) w := by
        intro t ht
        refine hJ.facts t ?_
        intro j p hp hd
        obtain ⟨e, he, hb, rfl⟩ := (covered_spec hcov ho).2 t ht j p hp hd
        have := hedges e he hb
        have hlt : e.on < listed.size := by rw [hs]; exact (Array.getElem?_eq_some_iff.1 hp).1
        simp only [Array.getD, hlt, dif_pos] at this ⊢
        exact this
      have hnext : ∀ v w', Grow w w' → FSd FS o.dst v w' → wpAny P .any ops Q fuel (listed.setIfInBounds i true) (a.put o.dst v) w' := by
        intro v w' hg hv
        refine ih _ _ _ (by simpa using hs) ?_ ⟨?_, ?_, hJ.grow.trans hg, ?_⟩
        · have hl' : listed[i] = false := by simpa [Array.getD, hisz] using hl
          have : left (listed.setIfInBounds i true) < left listed := by
            unfold left
            rw [Array.toList_setIfInBounds]
            have e1 : listed.toList = listed.toList.take i ++ false :: listed.toList.drop (i + 1) := by
              have h3 : listed.toList[i]'(by simpa using hisz) = false := by simpa using hl'
              conv => lhs; rw [← List.take_append_drop i listed.toList, List.drop_eq_getElem_cons (by simpa using hisz), h3]
            rw [List.set_eq_take_append_cons_drop, if_pos (by simpa using hisz)]
            conv => rhs; rw [e1]
            simp
          omega
        · cases hd : o.dst with
          | none => simpa [Act.put] using hJ.size
          | some d => simpa [Act.put] using hJ.size
        · cases hd : o.dst with
          | none => simpa [Act.put] using hJ.defers
          | some d => simpa [Act.put] using hJ.defers
        · intro t ht
          by_cases hdt : o.dst = some t
          · rw [hdt] at hv ⊢
            rw [eval_put_same (by rw [hJ.size]; exact hdst o hom t hdt)]
            exact hv
          · have hk : Known ops listed t := by
              intro j p hp hd
              have := ht j p hp hd
              by_cases e : i = j
              · subst e
                rw [ho] at hp
                injection hp with hp
                subst hp
                exact absurd hd hdt
              · simpa [Array.getD_eq_getD_getElem?, Array.getElem?_setIfInBounds, e] using this
            have := hstab t _ w w' (hJ.facts t hk) hg
            cases hd : o.dst with
            | none => simpa [Act.put] using this
            | some d =>
              rw [eval_put_other (by intro e; subst e; exact hdt hd)]
              exact this
      have := AllOk.get hok o hom a w _ Q hJ.grow hlook hnext
      unfold wpOp
      simp only [ho]
      exact this
  refine key ops.size _ a0 _ (by simp) ?_ ⟨hn, rfl, Grow.drew w0, ?_⟩
  · unfold left
    simp
  · intro t ht
    refine hstab t _ w0 _ (hstart t ?_) (Grow.drew w0)
    intro o ho hd
    obtain ⟨i, hi, rfl⟩ := List.getElem_of_mem ho
    have hi' : i < ops.size := by simpa using hi
    have := ht i ops[i] (Array.getElem?_eq_getElem hi') (by simpa using hd)
    simp [Array.getD, hi'] at this

theorem region (hm : P.follows .mixedOrders = true) (hcov : covered ops = true) {id : Nat} {a0 : Act} {w0 : World} {Q : Exit → Act → World → Prop} (n : Nat) (hn : a0.tmps.size = n)
    (hdst : ∀ o ∈ ops.toList, ∀ d, o.dst = some d → d < n) (FS : Tmp → Value → World → Prop)
    (hstab : ∀ t v w w', FS t v w → Grow w w' → FS t v w')
    (hstart : ∀ t, (∀ o ∈ ops.toList, o.dst ≠ some t) → FS t (a0.eval (.tmp t)) w0)
    (hok : AllOk P ops FS w0 ops.toList)
    (hend : ∀ a w, a.tmps.size = n → a.defers = a0.defers → Grow w0 w → (∀ t, FS t (a.eval (.tmp t)) w) → Q .normal a w) :
    (Code.region id ops true).wp P Q a0 w0 :=
  wp_region_any hm (region_wpAny hm hcov n hn hdst FS hstab hstart hok hend)

/-! ### Rules for single operations -/
variable {w0 : World} {o : Oper}

/-- The operation itself, its guard being met. -/
def RunOk (P : Program) (ops : Array Oper) (FS : Tmp → Value → World → Prop) (w0 : World) (o : Oper) : Prop :=
  ∀ (a : Act) (w : World) (K : Act → World → Prop) (Q : Exit → Act → World → Prop), Grow w0 w → (∀ t, (o.looksAt ops).contains t = true → FS t (a.eval (.tmp t)) w) →
    (∀ v w', Grow w w' → FSd FS o.dst v w' → K (a.put o.dst v) w') → o.wp P a w K Q

theorem ok_none (hg : o.guard = none) (h : RunOk P ops FS w0 o) : OpOk P ops FS w0 o := by
  intro a w K Q hG hl hK
  rw [if_pos (by simp [Region.wanted, hg])]
  exact .inl (h a w K Q hG hl hK)
theorem ok_guard (j : Nat) (want : Bool) (d : Tmp) (hg : o.guard = some (j, want)) (hd : (ops[j]?).bind (·.dst) = some d) (hl : (o.looksAt ops).contains d = true) (hF : ∀ v w, FS d v w → v = .bool want)
    (h : RunOk P ops FS w0 o) : OpOk P ops FS w0 o := by
  intro a w K Q hG hlk hK
  have e := hF _ _ (hlk d hl)
  have hw : Region.wanted o (yielded ops a.tmps) = true := by
    have h2 : a.tmps[d]? = some (.bool want) := by
      replace e : a.tmps.getD d undef = .bool want := e
      rw [Array.getD_eq_getD_getElem?] at e
      cases hx : a.tmps[d]? with
      | none => rw [hx] at e; cases e
      | some x => rw [hx] at e; simpa using e
    simp [Region.wanted, hg, yielded, hd, h2]
  rw [if_pos hw]
  exact .inl (h a w K Q hG hlk hK)

/-- An operand's value is known. -/
def Has (ops : Array Oper) (FS : Tmp → Value → World → Prop) (o : Oper) (x : Operand) (v : Value) : Prop :=
  ∀ (a : Act) (w : World), (∀ t, (o.looksAt ops).contains t = true → FS t (a.eval (.tmp t)) w) → a.eval x = v
theorem has_tmp {t : Tmp} {v : Value} (h : (o.looksAt ops).contains t = true) (hF : ∀ u w, FS t u w → u = v) : Has ops FS o (.tmp t) v := fun _ _ hl => hF _ _ (hl t h)
theorem has_const {v : Value} : Has ops FS o (.const v) v := fun _ _ _ => rfl

theorem run_mvF (t : Tmp) (ho : o.op = .move (.tmp t) ∨ o.op = .assign (.tmp t)) (hc : (o.looksAt ops).contains t = true) (hd : ∀ v w, FS t v w → FSd FS o.dst v w) : RunOk P ops FS w0 o := by
  intro a w K Q hG hl hK
  unfold Oper.wp execOp
  rcases ho with ho | ho <;> simp only [ho, Sem.run_pure, Oper.upon_value] <;> exact hK _ w (Grow.refl w) (hd _ _ (hl t hc))
theorem run1 (x : Operand) {u r : Value} (hx : Has ops FS o x u) (hrun : ∀ (ρ : Operand → Value) (w : World), ρ x = u → (execOp ρ o).run P w = .ok (.value r) w) (hd : ∀ w, FSd FS o.dst r w) : RunOk P ops FS w0 o := by
  intro a w K Q hG hl hK
  unfold Oper.wp
  rw [hrun a.eval w (hx a w hl)]
  exact hK r w (Grow.refl w) (hd w)
theorem run2 (x y : Operand) {u v r : Value} (hx : Has ops FS o x u) (hy : Has ops FS o y v) (hrun : ∀ (ρ : Operand → Value) (w : World), ρ x = u → ρ y = v → (execOp ρ o).run P w = .ok (.value r) w) (hd : ∀ w, FSd FS o.dst r w) : RunOk P ops FS w0 o := by
  intro a w K Q hG hl hK
  unfold Oper.wp
  rw [hrun a.eval w (hx a w hl) (hy a w hl)]
  exact hK r w (Grow.refl w) (hd w)
theorem run_pick (x y : Operand) (ho : o.op = .pick x y (.const (.bool false))) {r : Value} (hx : Has ops FS o x (.bool true)) (hy : Has ops FS o y r) (hd : ∀ w, FSd FS o.dst r w) : RunOk P ops FS w0 o := by
  refine run2 x y hx hy (fun ρ w h1 h2 => ?_) hd
  simp only [execOp, ho, h1, asBool, Sem.run_bind, Sem.run_pure, Result.andThen_ok, if_true, h2]
/-- A call of a named function whose arguments are known. -/
theorem run_call (f : FuncId) (xs : Array Operand) (ts : Array TypeId) (ho : o.op = .call { callee := .value (.func f), args := xs, argTypes := ts }) (hent : ∀ args w, (callFunc f args).run P w = .ok (.enter f args) w)
    (args : Array Value) (hargs : ∀ (a : Act) (w : World), (∀ t, (o.looksAt ops).contains t = true → FS t (a.eval (.tmp t)) w) → xs.map a.eval = args)
    (hC : ∀ w, Grow w0 w → Calls P f args w fun e w' => ∃ v, e = .returned v ∧ Grow w w' ∧ FSd FS o.dst v w') : RunOk P ops FS w0 o := by
  intro a w K Q hG hl hK
  have e := hargs a w hl
  unfold Oper.wp
  have hr : (execOp a.eval o).run P w = .ok (.enter f args) w := by
    have e' : (Array.map a.eval xs) = args := e
    have ef : a.eval (.func f) = .func (.func f) #[] #[] := rfl
    have h := hent args w
    simp [execOp, ho, resolve, e', ef, Deferred.ofValue, invoke, h]
  rw [hr, Oper.upon_enter]
  refine (hC w hG).mono ?_
  rintro e w' ⟨v, rfl, hg, hf⟩
  exact hK v w' hg hf

end Reg
end Go.Proofs.YtocnabpplbeafaaGreat
/- Facts on slots, as data; rules for the operations of a law's last region. -/
namespace Go.Proofs.YtocnabpplbeafaaGreat
open Go Go.RowKit Lou

/-- What may be known of a slot: its value; that it reads as bytes; nothing. -/
inductive Fact where
  | val (v : Value)
  | res (l : List UInt8)
  | any
  | pred (p : Value → World → Prop) (h : ∀ v w w', p v w → Grow w w' → p v w')
def Fact.holds : Fact → Value → World → Prop
  | .val x, v, _ => v = x
  | .res l, v, w => ∃ A c, v = .slice A l.length c ∧ InB w w.heap.size A c l
  | .any, _, _ => True
  | .pred p _, v, w => p v w
theorem Fact.stable (f : Fact) {v : Value} {w w' : World} (h : f.holds v w) (hg : Grow w w') : f.holds v w' := by
  cases f with
  | val x => exact h
  | res l =>
    obtain ⟨A, c, e, hin⟩ := h
    exact ⟨A, c, e, (hin.below hg).more hg.size⟩
  | any => trivial
  | pred p hp => exact hp v w w' h hg
def factOf : List (Nat × Fact) → Nat → Fact
  | [], _ => .any
  | (k, f) :: r, t => if k == t then f else factOf r t
/-- The slots' facts out of a list. -/
def FSof (L : List (Nat × Fact)) (t : Tmp) (v : Value) (w : World) : Prop := (factOf L t).holds v w
theorem FSof.stable (L : List (Nat × Fact)) (t : Tmp) (v : Value) (w w' : World) (h : FSof L t v w) (hg : Grow w w') : FSof L t v w' := Fact.stable _ h hg

def written (ops : Array Oper) (t : Nat) : Bool := ops.toList.any fun o => o.dst == some t
def dstsIn (ops : Array Oper) (n : Nat) : Bool := ops.toList.all fun o => match o.dst with | some d => decide (d < n) | none => true

namespace Reg
/-- What holds of the slots that the region doesn't write. -/
def StartOk (a0 : Act) (w0 : World) : List (Nat × Fact) → Prop
  | [] => True
  | (k, f) :: r => f.holds (a0.eval (.tmp k)) w0 ∧ StartOk a0 w0 r

theorem start_fact {a0 : Act} {w0 : World} {ops : Array Oper} : ∀ (V W : List (Nat × Fact)), StartOk a0 w0 V → (W.all fun p => written ops p.1) = true → ∀ t, (∀ o ∈ ops.toList, o.dst ≠ some t) → (factOf (V ++ W) t).holds (a0.eval (.tmp t)) w0
  | [], [], _, _, t, _ => by simp [factOf, Fact.holds]
  | [], (k, f) :: r, hV, hW, t, ht => by
    simp only [List.all_cons, Bool.and_eq_true] at hW
    simp only [List.nil_append, factOf]
    split
    · rename_i e
      obtain rfl : k = t := by simpa using e
      exfalso
      have := hW.1
      simp only [written, List.any_eq_true, beq_iff_eq] at this
      obtain ⟨o, ho, hd⟩ := this
      exact ht o ho hd
    · exact start_fact [] r hV hW.2 t ht
  | (k, f) :: r, W, hV, hW, t, ht => by
    simp only [List.cons_append, factOf]
    split
    · rename_i e
      obtain rfl : k = t := by simpa using e
      exact hV.1
    · exact start_fact r W hV.2 hW t ht

/-- The region, by two lists of facts: of the slots that it finds, of those that it writes. -/
theorem region_facts {P : Program} {ops : Array Oper} (hm : P.follows .mixedOrders = true) (hcov : covered ops = true) {id : Nat} {a0 : Act} {w0 : World} {Q : Exit → Act → World → Prop} (n : Nat) (hn : a0.tmps.size = n)
    (hdst : dstsIn ops n = true) (V W : List (Nat × Fact)) (hV : StartOk a0 w0 V) (hW : (W.all fun p => written ops p.1) = true)
    (hok : AllOk P ops (FSof (V ++ W)) w0 ops.toList)
    (hend : ∀ a w, a.tmps.size = n → a.defers = a0.defers → Grow w0 w → (∀ t, FSof (V ++ W) t (a.eval (.tmp t)) w) → Q .normal a w) :
    (Code.region id ops true).wp P Q a0 w0 := by
  refine region hm hcov n hn ?_ (FSof (V ++ W)) (FSof.stable _) (start_fact V W hV hW) hok hend
  intro o ho d hd
  unfold dstsIn at hdst
  rw [List.all_eq_true] at hdst
  have := hdst o ho
  simpa [hd] using this

theorem allOk_cons {P : Program} {ops : Array Oper} {FS : Tmp → Value → World → Prop} {w0 : World} {o : Oper} {r : List Oper} (h : OpOk P ops FS w0 o) (k : AllOk P ops FS w0 r) : AllOk P ops FS w0 (o :: r) := ⟨h, k⟩
theorem allOk_nil {P : Program} {ops : Array Oper} {FS : Tmp → Value → World → Prop} {w0 : World} : AllOk P ops FS w0 [] := trivial

section rules
variable {ops : Array Oper} {FS : Tmp → Value → World → Prop} {w0 : World} {o : Oper}

theorem rule_conv (t : Tmp) (l : List UInt8) (ho : o.op = .convert 38 9 (.tmp t)) (hc : (o.looksAt ops).contains t = true) (hF : ∀ v w, FS t v w → (Fact.res l).holds v w) (hd : ∀ w, FSd FS o.dst (.string (str l)) w) : RunOk Tryz.prog ops FS w0 o := by
  intro a w K Q hG hl hK
  obtain ⟨A, c, e, hin⟩ := hF _ _ (hl t hc)
  have hs := hin.string
  unfold Oper.wp
  have hr : (execOp a.eval o).run Tryz.prog w = .ok (.value (.string (str l))) w := by
    simp [execOp, ho, e, hs, Result.andThen]
  rw [hr]
  exact hK _ w (Grow.refl w) (hd w)
theorem rule_convS (x : Operand) (S D : TypeId) {u r : Value} (ho : o.op = .convert S D x) (hx : Has ops FS o x u) (hrun : ∀ w, Grow w0 w → (convert S D u).run Tryz.prog w = .ok r w) (hd : ∀ w, FSd FS o.dst r w) : RunOk Tryz.prog ops FS w0 o := by
  intro a w K Q hG hl hK
  have e := hx a w hl
  unfold Oper.wp
  have hr : (execOp a.eval o).run Tryz.prog w = .ok (.value r) w := by simp [execOp, ho, e, hrun w hG, Result.andThen]
  rw [hr]
  exact hK r w (Grow.refl w) (hd w)
theorem rule_eqi (x y : Operand) (T T' : TypeId) (k : IntKind) (m : Int) (ho : o.op = .binOp .eql T x y T') (hT : Tryz.prog.underlying T = some (.int k)) (hx : Has ops FS o x (.int k m)) (hy : Has ops FS o y (.int k m)) (hd : ∀ w, FSd FS o.dst (.bool true) w) : RunOk Tryz.prog ops FS w0 o :=
  run2 x y hx hy (fun ρ w h1 h2 => by simp [execOp, ho, h1, h2, go_sem]) hd
theorem rule_eqs (x y : Operand) (T T' : TypeId) (s : ByteArray) (ho : o.op = .binOp .eql T x y T') (hT : Tryz.prog.underlying T = some .string) (hx : Has ops FS o x (.string s)) (hy : Has ops FS o y (.string s)) (hd : ∀ w, FSd FS o.dst (.bool true) w) : RunOk Tryz.prog ops FS w0 o :=
  run2 x y hx hy (fun ρ w h1 h2 => by simp [execOp, ho, h1, h2, go_sem]) hd
theorem args1 {x : Operand} {u : Value} (h : Has ops FS o x u) : ∀ (a : Act) (w : World), (∀ t, (o.looksAt ops).contains t = true → FS t (a.eval (.tmp t)) w) → Array.map a.eval #[x] = #[u] := fun a w hl => by simp [h a w hl]
end rules

theorem results1 {fn : Func} {P : Program} {a : Act} {w : World} {v : Value} (t : Tmp) (h : fn.results = #[.tmp t]) (hv : a.eval (.tmp t) = v) : (results fn a.tmps).run P w = .ok v w := by
  have e : a.tmps.getD t undef = v := hv
  unfold results
  simp only [h]
  simp [← e, Array.getD_eq_getD_getElem?]
/-- The end of a function of one result, without deferred calls. -/
theorem ends1 {fn : Func} {P : Program} {a : Act} {w : World} {R : Ending → World → Prop} (t : Tmp) (v : Value) (h : fn.results = #[.tmp t]) (hv : a.eval (.tmp t) = v) (hd : a.defers = []) (hR : R (.returned v) w) : Code.wp P Code.ret (bodyPost P fn R) a w :=
  wp_ret (bodyPost_ret_by (results1 t h hv) hd hR)
theorem gives_same {P : Program} {w : World} {f : FuncId} {args : Array Value} {v : Value} (h : Calls P f args w fun e w' => e = .returned v ∧ w = w') : Calls P f args w fun e w' => ∃ u, e = .returned u ∧ Grow w w' ∧ u = v :=
  h.mono (by rintro e w' ⟨rfl, rfl⟩; exact ⟨_, rfl, Grow.refl _, rfl⟩)
theorem gives_grow {P : Program} {w : World} {f : FuncId} {args : Array Value} {v : Value} (h : Calls P f args w fun e w' => e = .returned v ∧ Below w.heap.size w w') : Calls P f args w fun e w' => ∃ u, e = .returned u ∧ Grow w w' ∧ u = v :=
  h.mono (by rintro e w' ⟨rfl, hB⟩; exact ⟨_, rfl, hB, rfl⟩)
theorem gives_res {w : World} {f : FuncId} {args : Array Value} {l : List UInt8} (h : Calls Tryz.prog f args w (GivesB w l)) : Calls Tryz.prog f args w fun e w' => ∃ v, e = .returned v ∧ Grow w w' ∧ (Fact.res l).holds v w' :=
  h.mono fun e w' ⟨v, he, hown, hB⟩ => ⟨v, he, hB, hown.inB⟩

/-! ### The same rules over lists of facts: what is looked up is left to the kernel -/
def FD (L : List (Nat × Fact)) : Option Tmp → Fact
  | some d => factOf L d
  | none => .any
theorem fsd {L : List (Nat × Fact)} {d : Option Tmp} {f : Fact} {v : Value} {w : World} (h : FD L d = f) (hv : f.holds v w) : FSd (FSof L) d v w := by
  cases d with
  | none => trivial
  | some d => subst h; exact hv
section lists
variable {L : List (Nat × Fact)} {ops : Array Oper} {w0 : World} {o : Oper} {P : Program}
theorem hs (t : Tmp) (v : Value) (hc : (o.looksAt ops).contains t = true) (hF : factOf L t = .val v) : Has ops (FSof L) o (.tmp t) v :=
  has_tmp hc fun u w h => by
    have h' : (factOf L t).holds u w := h
    rw [hF] at h'
    exact h'
theorem hc (v : Value) : Has ops (FSof L) o (.const v) v := has_const
theorem okg (j : Nat) (want : Bool) (d : Tmp) (hg : o.guard = some (j, want)) (hd : (ops[j]?).bind (·.dst) = some d) (hl : (o.looksAt ops).contains d = true) (hF : factOf L d = .val (.bool want))
    (h : RunOk P ops (FSof L) w0 o) : OpOk P ops (FSof L) w0 o :=
  ok_guard j want d hg hd hl (fun v w h => by
    have h' : (factOf L d).holds v w := h
    rw [hF] at h'
    exact h') h
theorem l_mvF (t : Tmp) (f : Fact) (ho : o.op = .move (.tmp t) ∨ o.op = .assign (.tmp t)) (hc : (o.looksAt ops).contains t = true) (hF : factOf L t = f) (hd : FD L o.dst = f) : RunOk P ops (FSof L) w0 o :=
  run_mvF t ho hc fun v w h => fsd hd (by
    have h' : (factOf L t).holds v w := h
    rw [hF] at h'
    exact h')
theorem l_pick (x y : Operand) (r : Value) (ho : o.op = .pick x y (.const (.bool false))) (hx : Has ops (FSof L) o x (.bool true)) (hy : Has ops (FSof L) o y r) (hd : FD L o.dst = .val r) : RunOk P ops (FSof L) w0 o :=
  run_pick x y ho hx hy fun _ => fsd hd rfl
/-- Any operation of one operand whose run is known. -/
theorem l_run1 (x : Operand) (u r : Value) (hx : Has ops (FSof L) o x u) (hrun : ∀ (ρ : Operand → Value) (w : World), ρ x = u → (execOp ρ o).run P w = .ok (.value r) w) (hd : FD L o.dst = .val r) : RunOk P ops (FSof L) w0 o :=
  run1 x hx hrun fun _ => fsd hd rfl
theorem l_conv (t : Tmp) (l : List UInt8) (ho : o.op = .convert 38 9 (.tmp t)) (hc : (o.looksAt ops).contains t = true) (hF : factOf L t = .res l) (hd : FD L o.dst = .val (.string (str l))) : RunOk Tryz.prog ops (FSof L) w0 o :=
  rule_conv t l ho hc (fun v w h => by
    have h' : (factOf L t).holds v w := h
    rw [hF] at h'
    exact h') fun _ => fsd hd rfl
theorem l_convS (x : Operand) (S D : TypeId) (u r : Value) (ho : o.op = .convert S D x) (hx : Has ops (FSof L) o x u) (hrun : ∀ w, Grow w0 w → (convert S D u).run Tryz.prog w = .ok r w) (hd : FD L o.dst = .val r) : RunOk Tryz.prog ops (FSof L) w0 o :=
  rule_convS x S D ho hx hrun fun _ => fsd hd rfl
theorem l_eqi (x y : Operand) (T T' : TypeId) (k : IntKind) (m : Int) (ho : o.op = .binOp .eql T x y T') (hT : Tryz.prog.underlying T = some (.int k)) (hx : Has ops (FSof L) o x (.int k m)) (hy : Has ops (FSof L) o y (.int k m)) (hd : FD L o.dst = .val (.bool true)) : RunOk Tryz.prog ops (FSof L) w0 o :=
  rule_eqi x y T T' k m ho hT hx hy fun _ => fsd hd rfl
theorem l_eqs (x y : Operand) (T T' : TypeId) (s : ByteArray) (ho : o.op = .binOp .eql T x y T') (hT : Tryz.prog.underlying T = some .string) (hx : Has ops (FSof L) o x (.string s)) (hy : Has ops (FSof L) o y (.string s)) (hd : FD L o.dst = .val (.bool true)) : RunOk Tryz.prog ops (FSof L) w0 o :=
  rule_eqs x y T T' s ho hT hx hy fun _ => fsd hd rfl
theorem l_call (f : FuncId) (xs : Array Operand) (ts : Array TypeId) (ho : o.op = .call { callee := .value (.func f), args := xs, argTypes := ts }) (hent : ∀ args w, (callFunc f args).run P w = .ok (.enter f args) w)
    (args : Array Value) (g : Fact) (hargs : ∀ (a : Act) (w : World), (∀ t, (o.looksAt ops).contains t = true → FSof L t (a.eval (.tmp t)) w) → xs.map a.eval = args)
    (hC : ∀ w, Grow w0 w → Calls P f args w fun e w' => ∃ v, e = .returned v ∧ Grow w w' ∧ g.holds v w') (hd : FD L o.dst = g) : RunOk P ops (FSof L) w0 o :=
  run_call f xs ts ho hent args hargs fun w hG => (hC w hG).mono fun _ _ ⟨v, e, hg, hh⟩ => ⟨v, e, hg, fsd hd hh⟩
/-- A call one of whose arguments (the only one) is known by a predicate. -/
theorem l_callP (f : FuncId) (t : Tmp) (p : Value → World → Prop) (hp : ∀ v w w', p v w → Grow w w' → p v w') (ts : Array TypeId) (ho : o.op = .call { callee := .value (.func f), args := #[.tmp t], argTypes := ts }) (hent : ∀ args w, (callFunc f args).run P w = .ok (.enter f args) w)
    (g : Fact) (hc : (o.looksAt ops).contains t = true) (hF : factOf L t = .pred p hp)
    (hC : ∀ w u, Grow w0 w → p u w → Calls P f #[u] w fun e w' => ∃ v, e = .returned v ∧ Grow w w' ∧ g.holds v w') (hd : FD L o.dst = g) : RunOk P ops (FSof L) w0 o := by
  intro a w K Q hG hl hK
  have h' : (factOf L t).holds (a.eval (.tmp t)) w := hl t hc
  rw [hF] at h'
  have e : a.eval (.tmp t) = a.eval (.tmp t) := rfl
  revert h' e
  generalize hu : a.eval (.tmp t) = u
  intro h' _
  unfold Oper.wp
  have hr : (execOp a.eval o).run P w = .ok (.enter f #[u]) w := by
    have ef : a.eval (.func f) = .func (.func f) #[] #[] := rfl
    have h := hent #[u] w
    simp [execOp, ho, resolve, hu, ef, Deferred.ofValue, invoke, h]
  rw [hr, Oper.upon_enter]
  refine (hC w u hG h').mono ?_
  rintro e w' ⟨v, rfl, hg, hf⟩
  exact hK v w' hg (fsd hd hf)
/-- Any operation of two operands whose run is known; the world may grow. -/
theorem l_run2W (x y : Operand) (g : Fact) (u v : Value) (hx : Has ops (FSof L) o x u) (hy : Has ops (FSof L) o y v)
    (hrun : ∀ (ρ : Operand → Value) (w : World), Grow w0 w → ρ x = u → ρ y = v → ∃ r w', (execOp ρ o).run P w = .ok (.value r) w' ∧ Grow w w' ∧ g.holds r w') (hd : FD L o.dst = g) : RunOk P ops (FSof L) w0 o := by
  intro a w K Q hG hl hK
  obtain ⟨r, w', h1, h2, h3⟩ := hrun a.eval w hG (hx a w hl) (hy a w hl)
  unfold Oper.wp
  rw [h1]
  exact hK r w' h2 (fsd hd h3)
theorem l_run1W (x : Operand) (g : Fact) (u : Value) (hx : Has ops (FSof L) o x u)
    (hrun : ∀ (ρ : Operand → Value) (w : World), Grow w0 w → ρ x = u → ∃ r w', (execOp ρ o).run P w = .ok (.value r) w' ∧ Grow w w' ∧ g.holds r w') (hd : FD L o.dst = g) : RunOk P ops (FSof L) w0 o := by
  intro a w K Q hG hl hK
  obtain ⟨r, w', h1, h2, h3⟩ := hrun a.eval w hG (hx a w hl)
  unfold Oper.wp
  rw [h1]
  exact hK r w' h2 (fsd hd h3)
end lists
end Reg
end Go.Proofs.YtocnabpplbeafaaGreat
/- Regions that draw their order, in the midst of a walk: the slots that the region doesn't write keep their values. -/
namespace Go.Proofs.YtocnabpplbeafaaGreat
open Go Go.RowKit Lou
namespace Reg

theorem OpOk.mono {P : Program} {ops : Array Oper} {FS FS' : Tmp → Value → World → Prop} {w0 : World} {o : Oper} (h : OpOk P ops FS w0 o) (h1 : ∀ t v w, FS' t v w → FS t v w) (h2 : ∀ d v w, o.dst = some d → FS d v w → FS' d v w) : OpOk P ops FS' w0 o := by
  intro a w K Q hG hl hK
  refine h a w K Q hG (fun t ht => h1 _ _ _ (hl t ht)) (fun v w' hg hf => hK v w' hg ?_)
  cases hd : o.dst with
  | none => trivial
  | some d =>
    rw [hd] at hf
    exact h2 d v w' hd hf
theorem AllOk.mono {P : Program} {ops : Array Oper} {FS FS' : Tmp → Value → World → Prop} {w0 : World} (h1 : ∀ t v w, FS' t v w → FS t v w) : ∀ {l : List Oper}, (∀ o ∈ l, ∀ d v w, o.dst = some d → FS d v w → FS' d v w) → AllOk P ops FS w0 l → AllOk P ops FS' w0 l
  | [], _, _ => trivial
  | o :: r, h2, h => ⟨h.1.mono h1 (h2 o (List.mem_cons_self ..)), h.2.mono h1 fun o ho => h2 o (List.mem_cons_of_mem _ ho)⟩

def dstsAre (ops : Array Oper) (D : List Nat) : Bool := ops.toList.all fun o => match o.dst with | some d => D.contains d | none => true

/-- As region_facts; what the region doesn't write keeps its value. -/
theorem region_acts {P : Program} {ops : Array Oper} (hm : P.follows .mixedOrders = true) (hcov : covered ops = true) {id : Nat} {a0 : Act} {w0 : World} {Q : Exit → Act → World → Prop} (n : Nat) (hn : a0.tmps.size = n)
    (hdst : dstsIn ops n = true) (D : List Nat) (hD : dstsAre ops D = true) (V W : List (Nat × Fact)) (hV : StartOk a0 w0 V) (hW : (W.all fun p => written ops p.1) = true)
    (hok : AllOk P ops (FSof (V ++ W)) w0 ops.toList)
    (hend : ∀ a w, a.tmps.size = n → a.defers = a0.defers → Grow w0 w → (∀ t, FSof (V ++ W) t (a.eval (.tmp t)) w) → (∀ t, D.contains t = false → a.eval (.tmp t) = a0.eval (.tmp t)) → Q .normal a w) :
    (Code.region id ops true).wp P Q a0 w0 := by
  have hD' : ∀ o ∈ ops.toList, ∀ d, o.dst = some d → D.contains d = true := by
    intro o ho d hd
    unfold dstsAre at hD
    rw [List.all_eq_true] at hD
    have := hD o ho
    simpa [hd] using this
  refine region hm hcov n hn ?_ (fun t v w => FSof (V ++ W) t v w ∧ (D.contains t = false → v = a0.eval (.tmp t))) (fun t v w w' h hg => ⟨FSof.stable _ _ _ _ _ h.1 hg, h.2⟩) (fun t ht => ⟨start_fact V W hV hW t ht, fun _ => rfl⟩)
    (AllOk.mono (fun _ _ _ h => h.1) (fun o ho d v w hd h => ⟨h, fun hn => by rw [hD' o ho d hd] at hn; cases hn⟩) hok) ?_
  · intro o ho d hd
    unfold dstsIn at hdst
    rw [List.all_eq_true] at hdst
    have := hdst o ho
    simpa [hd] using this
  · intro a w h1 h2 h3 h4
    exact hend a w h1 h2 h3 (fun t => (h4 t).1) (fun t => (h4 t).2)

/-- An act out of another by the slots that differ. -/
theorem acts_eq {a a0 : Act} : ∀ (D : List Nat), a.tmps.size = a0.tmps.size → a.defers = a0.defers → (∀ t, D.contains t = false → a.eval (.tmp t) = a0.eval (.tmp t)) → a = D.foldl (fun x d => x.put (some d) (a.eval (.tmp d))) a0 := by
  have size_put : ∀ (x : Act) d v, (x.put (some d) v).tmps.size = x.tmps.size := by intro x d v; simp [Act.put]
  have key : ∀ (D : List Nat) (b : Act), a.tmps.size = b.tmps.size → a.defers = b.defers → (∀ t, D.contains t = false → a.eval (.tmp t) = b.eval (.tmp t)) → a = D.foldl (fun x d => x.put (some d) (a.eval (.tmp d))) b := by
    intro D
    induction D with
    | nil =>
      intro b hs hd h
      have : a.tmps = b.tmps := by
        apply Array.ext hs
        intro i h1 h2
        have := h i rfl
        simpa [Act.eval, Array.getD, h1, h2] using this
      cases a; cases b; simp_all
    | cons d r ih =>
      intro b hs hd h
      rw [List.foldl_cons]
      refine ih _ (by rw [size_put]; exact hs) (by simp [Act.put, hd]) ?_
      intro t ht
      by_cases e : t = d
      · subst e
        by_cases hlt : t < b.tmps.size
        · rw [eval_put_same hlt]
        · have h1 : ¬ t < a.tmps.size := by omega
          simp [Act.put, Act.eval, Array.getD_eq_getD_getElem?, h1, hlt]
      · rw [eval_put_other e]
        exact h t (by simp only [List.contains_cons, Bool.or_eq_false_iff]; exact ⟨by simpa using e, ht⟩)
  exact fun D => key D a0

/-- What a region leaves: the slots of D may differ; F holds. -/
def Left (D : List Nat) (F : Act → World → Prop) (a0 : Act) (w0 : World) (a : Act) (w : World) : Prop := a.tmps.size = a0.tmps.size ∧ a.defers = a0.defers ∧ Grow w0 w ∧ F a w ∧ ∀ t, D.contains t = false → a.eval (.tmp t) = a0.eval (.tmp t)
section lists
variable {L : List (Nat × Fact)} {ops : Array Oper} {w0 : World} {o : Oper} {P : Program}
theorem okg_not (j : Nat) (want : Bool) (d : Tmp) (hg : o.guard = some (j, want)) (hd : (ops[j]?).bind (·.dst) = some d) (hl : (o.looksAt ops).contains d = true) (hF : factOf L d = .val (.bool !want)) (hD : FD L o.dst = .any) : OpOk P ops (FSof L) w0 o := by
  intro a w K Q hG hlk hK
  have h' : (factOf L d).holds (a.eval (.tmp d)) w := hlk d hl
  rw [hF] at h'
  have e : a.eval (.tmp d) = .bool !want := h'
  have hw : Region.wanted o (yielded ops a.tmps) = false := by
    have h2 : a.tmps[d]? = some (.bool !want) := by
      replace e : a.tmps.getD d undef = .bool !want := e
      rw [Array.getD_eq_getD_getElem?] at e
      cases hx : a.tmps[d]? with
      | none => rw [hx] at e; cases e
      | some x => rw [hx] at e; simpa using e
    cases want <;> simp [Region.wanted, hg, yielded, hd, h2]
  rw [if_neg (by simp [hw])]
  exact hK undef w (Grow.refl w) (fsd hD trivial)
theorem l_pickF (x y z : Operand) (r : Value) (ho : o.op = .pick x y z) (hx : Has ops (FSof L) o x (.bool false)) (hz : Has ops (FSof L) o z r) (hd : FD L o.dst = .val r) : RunOk P ops (FSof L) w0 o :=
  run2 x z hx hz (fun ρ w h1 h2 => by simp [execOp, ho, h1, h2, asBool]) fun _ => fsd hd rfl
theorem l_pickT (x y z : Operand) (r : Value) (ho : o.op = .pick x y z) (hx : Has ops (FSof L) o x (.bool true)) (hy : Has ops (FSof L) o y r) (hd : FD L o.dst = .val r) : RunOk P ops (FSof L) w0 o :=
  run2 x y hx hy (fun ρ w h1 h2 => by simp [execOp, ho, h1, h2, asBool]) fun _ => fsd hd rfl
theorem l_load (x : Operand) (p : Addr) (T : TypeId) (v : Value) (hagg : ∀ w : World, (isAgg T).run P w = .ok false w) (ho : o.op = .load T x) (hx : Has ops (FSof L) o x (.pointer (some p))) (hcell : ∀ w, Grow w0 w → w.cell? p = some v) (hd : FD L o.dst = .val v) : RunOk P ops (FSof L) w0 o := by
  refine l_run1W x (.val v) _ hx (fun ρ w hg h => ⟨v, w, ?_, Grow.refl _, rfl⟩) hd
  have hc := hcell w hg
  simp [execOp, ho, h, go_sem, hagg, hc, Result.andThen]
end lists
end Reg
end Go.Proofs.YtocnabpplbeafaaGreat
/- Blocks of slices of bytes, as facts of slots; Concat of them. -/
namespace Go.Proofs.YtocnabpplbeafaaGreat
open Go Go.RowKit Lou

/-- A row of slices of bytes, in a block. -/
def Lists (ls : List (List UInt8)) (v : Value) (w : World) : Prop :=
  ∃ b, v = .slice (some ⟨b, 0, none⟩) ls.length ls.length ∧ b < w.heap.size ∧ ∀ j (h : j < ls.length), ∃ A c, w.cell? ⟨b, j, none⟩ = some (.slice A ls[j].length c) ∧ InB w w.heap.size A c ls[j]
theorem lists_stable (ls : List (List UInt8)) : ∀ v w w', Lists ls v w → Grow w w' → Lists ls v w' := by
  rintro v w w' ⟨b, hv, hb, h⟩ hg
  refine ⟨b, hv, Nat.lt_of_lt_of_le hb hg.size, fun j hj => ?_⟩
  obtain ⟨A, c, h1, h2⟩ := h j hj
  exact ⟨A, c, (hg.cell (p := ⟨b, j, none⟩) hb).trans h1, (h2.below hg).more hg.size⟩
/-- .. as pieces. -/
theorem Lists.pieces {ls : List (List UInt8)} {v : Value} {w : World} (h : Lists ls v w) (hm : ls.length ≤ 1000) : ∃ b, ∃ zs : List (Piece w w.heap.size), v = .slice (some ⟨b, 0, none⟩) zs.length zs.length ∧ zs.map Piece.l = ls ∧ InLL w w.heap.size (some ⟨b, 0, none⟩) zs.length zs := by
  obtain ⟨b, rfl, hb, h⟩ := h
  have key : ∀ n, n ≤ ls.length → ∃ zs : List (Piece w w.heap.size), zs.length = n ∧ zs.map Piece.l = ls.take n ∧ ∀ j (hj : j < zs.length), w.cell? ⟨b, j, none⟩ = some zs[j].val := by
    intro n
    induction n with
    | zero => exact fun _ => ⟨[], rfl, by simp, fun j hj => by simp at hj⟩
    | succ n ih =>
      intro hn
      obtain ⟨zs, h1, h2, h3⟩ := ih (by omega)
      obtain ⟨A, c, h4, h5⟩ := h n (by omega)
      refine ⟨zs ++ [⟨((A, c), ls[n]), h5⟩], by simp [h1], ?_, fun j hj => ?_⟩
      · rw [List.map_append, h2, List.take_succ_eq_append_getElem (by omega)]
        rfl
      · by_cases e : j < zs.length
        · rw [List.getElem_append_left e]
          exact h3 j e
        · have : j = n := by simp at hj; omega
          subst this
          rw [List.getElem_append_right (by omega)]
          simp only [h1, Nat.sub_self, List.getElem_cons_zero]
          exact h4
  obtain ⟨zs, h1, h2, h3⟩ := key ls.length (Nat.le_refl _)
  refine ⟨b, zs, by rw [h1], by rw [h2, List.take_length], ⟨Nat.le_refl _, by omega, fun _ => ⟨b, 0, rfl, hb, fun j hj => by rw [Nat.zero_add]; exact h3 j hj⟩⟩⟩
theorem concatL_gives {ls : List (List UInt8)} {v : Value} {w : World} (h : Lists ls v w) (hm : ls.length ≤ 1000) (hf : ls.flatten.length ≤ 1000000000) : Calls Tryz.prog 90 #[v] w (GivesB w ls.flatten) := by
  obtain ⟨b, zs, rfl, hz, hI⟩ := h.pieces hm
  have := concat_gives w (some ⟨b, 0, none⟩) zs.length zs hI (by rw [hz]; exact hf)
  rw [hz] at this
  exact this
/-- The block that a call of the variadic kind lays. -/
theorem Lists.new {w : World} (xs : List ((Option Addr × Nat) × List UInt8)) (h : ∀ x ∈ xs, InB w w.heap.size x.1.1 x.1.2 x.2) :
    Lists (xs.map (·.2)) (.slice (some ⟨w.heap.size, 0, none⟩) xs.length xs.length) (w.alloc (.cells (xs.map fun x => Value.slice x.1.1 x.2.length x.1.2).toArray 38)) := by
  refine ⟨w.heap.size, by simp, by simp, fun j hj => ?_⟩
  have hj' : j < xs.length := by simpa using hj
  refine ⟨xs[j].1.1, xs[j].1.2, ?_, ?_⟩
  · rw [(BlkIs.new w 38 _).cell]
    simp [hj']
  · have := h xs[j] (List.getElem_mem hj')
    rw [List.getElem_map]
    exact (this.below ((Below.refl _ w).alloc (Nat.le_refl _) _)).more (by simp)
theorem OwnB.base {w : World} {b b' : Nat} {v : Value} {l : List UInt8} (h : OwnB w b v l) (hb : b' ≤ b) : OwnB w b' v l := by
  refine ⟨h.1, ?_⟩
  rcases h.2 with h | ⟨g, cap, cur, h1, h2, h3⟩
  · exact .inl h
  · exact .inr ⟨g, cap, cur, h1, by omega, h3⟩
theorem GivesB.from {w w1 : World} {l : List UInt8} {e : Ending} {w' : World} (h : GivesB w1 l e w') (hb : Below w.heap.size w w1) : GivesB w l e w' := by
  obtain ⟨v, he, hown, hB⟩ := h
  exact ⟨v, he, hown.base hb.size, hb.trans (hB.mono hb.size)⟩
/-- Concat of two, in a block just laid; of three. -/
theorem concat2_gives (W : World) (A A2 : Option Addr) (c c2 : Nat) (l l2 : List UInt8) (hin : InB W W.heap.size A c l) (hin2 : InB W W.heap.size A2 c2 l2) (hf : l.length + l2.length ≤ 1000000000) :
    Calls Tryz.prog 90 #[.slice (some ⟨W.heap.size, 0, none⟩) 2 2] (W.alloc (.cells #[.slice A l.length c, .slice A2 l2.length c2] 38)) (GivesB W (l ++ l2)) := by
  have hN := Lists.new (w := W) [((A, c), l), ((A2, c2), l2)] (by
    intro x hx
    simp only [List.mem_cons, List.not_mem_nil, or_false] at hx
    rcases hx with rfl | rfl
    · exact hin
    · exact hin2)
  have h := concatL_gives hN (by simp) (by simpa using hf)
  refine h.mono fun e w' hg => ?_
  have := hg.from ((Below.refl _ W).alloc (Nat.le_refl _) _)
  simpa using this

namespace Reg
variable {L : List (Nat × Fact)} {ops : Array Oper} {w0 : World} {o : Oper}
theorem l_build4 (t1 t2 t3 t4 : Tmp) (l1 l2 l3 l4 : List UInt8) (ho : o.op = .buildSlice 177 4 #[(0, .tmp t1), (1, .tmp t2), (2, .tmp t3), (3, .tmp t4)])
    (c1 : (o.looksAt ops).contains t1 = true) (c2 : (o.looksAt ops).contains t2 = true) (c3 : (o.looksAt ops).contains t3 = true) (c4 : (o.looksAt ops).contains t4 = true)
    (f1 : factOf L t1 = .res l1) (f2 : factOf L t2 = .res l2) (f3 : factOf L t3 = .res l3) (f4 : factOf L t4 = .res l4) (hd : FD L o.dst = .pred (Lists [l1, l2, l3, l4]) (lists_stable _)) : RunOk Tryz.prog ops (FSof L) w0 o := by
  intro a w K Q hG hl hK
  have g1 : (factOf L t1).holds (a.eval (.tmp t1)) w := hl t1 c1
  have g2 : (factOf L t2).holds (a.eval (.tmp t2)) w := hl t2 c2
  have g3 : (factOf L t3).holds (a.eval (.tmp t3)) w := hl t3 c3
  have g4 : (factOf L t4).holds (a.eval (.tmp t4)) w := hl t4 c4
  rw [f1] at g1
  rw [f2] at g2
  rw [f3] at g3
  rw [f4] at g4
  obtain ⟨A1, k1, e1, h1⟩ := g1
  obtain ⟨A2, k2, e2, h2⟩ := g2
  obtain ⟨A3, k3, e3, h3⟩ := g3
  obtain ⟨A4, k4, e4, h4⟩ := g4
  have hN := Lists.new (w := w) [((A1, k1), l1), ((A2, k2), l2), ((A3, k3), l3), ((A4, k4), l4)] (by
    intro x hx
    simp only [List.mem_cons, List.not_mem_nil, or_false] at hx
    rcases hx with rfl | rfl | rfl | rfl
    · exact h1
    · exact h2
    · exact h3
    · exact h4)
  have key : ∀ ρ : Operand → Value, ρ (.tmp t1) = .slice A1 l1.length k1 → ρ (.tmp t2) = .slice A2 l2.length k2 → ρ (.tmp t3) = .slice A3 l3.length k3 → ρ (.tmp t4) = .slice A4 l4.length k4 →
      (execOp ρ o).run Tryz.prog w = .ok (.value (.slice (some ⟨w.heap.size, 0, none⟩) 4 4)) (w.alloc (.cells #[.slice A1 l1.length k1, .slice A2 l2.length k2, .slice A3 l3.length k3, .slice A4 l4.length k4] 38)) :=
    fun ρ h1 h2 h3 h4 => by simp [execOp, ho, h1, h2, h3, h4, go_sem, Result.andThen]
  unfold Oper.wp
  rw [key _ e1 e2 e3 e4]
  exact hK _ _ (Grow.alloc _ _) (fsd hd hN)
end Reg
end Go.Proofs.YtocnabpplbeafaaGreat
