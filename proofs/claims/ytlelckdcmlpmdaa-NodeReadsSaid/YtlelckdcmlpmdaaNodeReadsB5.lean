/- Texts that the proof of NodeReads leans on, part 5. -/
import Derived.MapKept
import Derived.Carry
import Derived.Test.YtlelckdcmlpmdaaNodeReadsB4
/- Regions that draw their order, in the midst of a walk: the slots that the region doesn't write keep their values. -/
namespace Go.Proofs.Ytlelckdcmlpmdaa
open Go Go.RowKit Lou
namespace Reg

theorem OpOk.mono {P : Program} {ops : Array Oper} {FS FS' : Tmp → Value → World → Prop} {w0 : World} {o : Oper} (h : OpOk P ops FS w0 o) (h1 : ∀ t v w, FS' t v w → FS t v w) (h2 : ∀ d v w, o.dst = some d → FS d v w → FS' d v w) : OpOk P ops FS' w0 o := by
  intro a w K Q hG hl hK
  refine h a w K Q hG (fun t ht => h1 _ _ _ (hl t ht)) (fun v w' hg hf => hK v w' hg ?_)
  cases hd : o.dst with
  | none => trivial
  | some d =>
    rw [hd] at hf
    exact h2 d v w' hd hf
theorem AllOk.mono {P : Program} {ops : Array Oper} {FS FS' : Tmp → Value → World → Prop} {w0 : World} (h1 : ∀ t v w, FS' t v w → FS t v w) : ∀ {l : List Oper}, (∀ o ∈ l, ∀ d v w, o.dst = some d → FS d v w → FS' d v w) → AllOk P ops FS w0 l → AllOk P ops FS' w0 l
  | [], _, _ => trivial
  | o :: r, h2, h => ⟨h.1.mono h1 (h2 o (List.mem_cons_self ..)), h.2.mono h1 fun o ho => h2 o (List.mem_cons_of_mem _ ho)⟩

def dstsAre (ops : Array Oper) (D : List Nat) : Bool := ops.toList.all fun o => match o.dst with | some d => D.contains d | none => true

/-- As region_facts; what the region doesn't write keeps its value. -/
theorem region_acts {P : Program} {ops : Array Oper} (hm : P.follows .mixedOrders = true) (hcov : covered ops = true) {id : Nat} {a0 : Act} {w0 : World} {Q : Exit → Act → World → Prop} (n : Nat) (hn : a0.tmps.size = n)
    (hdst : dstsIn ops n = true) (D : List Nat) (hD : dstsAre ops D = true) (V W : List (Nat × Fact)) (hV : StartOk a0 w0 V) (hW : (W.all fun p => written ops p.1) = true)
    (hok : AllOk P ops (FSof (V ++ W)) w0 ops.toList)
    (hend : ∀ a w, a.tmps.size = n → a.defers = a0.defers → Grow w0 w → (∀ t, FSof (V ++ W) t (a.eval (.tmp t)) w) → (∀ t, D.contains t = false → a.eval (.tmp t) = a0.eval (.tmp t)) → Q .normal a w) :
    (Code.region id ops true).wp P Q a0 w0 := by
  have hD' : ∀ o ∈ ops.toList, ∀ d, o.dst = some d → D.contains d = true := by
    intro o ho d hd
    unfold dstsAre at hD
    rw [List.all_eq_true] at hD
    have := hD o ho
    simpa [hd] using this
  refine region hm hcov n hn ?_ (fun t v w => FSof (V ++ W) t v w ∧ (D.contains t = false → v = a0.eval (.tmp t))) (fun t v w w' h hg => ⟨FSof.stable _ _ _ _ _ h.1 hg, h.2⟩) (fun t ht => ⟨start_fact V W hV hW t ht, fun _ => rfl⟩)
    (AllOk.mono (fun _ _ _ h => h.1) (fun o ho d v w hd h => ⟨h, fun hn => by rw [hD' o ho d hd] at hn; cases hn⟩) hok) ?_
  · intro o ho d hd
    unfold dstsIn at hdst
    rw [List.all_eq_true] at hdst
    have := hdst o ho
    simpa [hd] using this
  · intro a w h1 h2 h3 h4
    exact hend a w h1 h2 h3 (fun t => (h4 t).1) (fun t => (h4 t).2)

/-- An act out of another by the slots that differ. -/
theorem acts_eq {a a0 : Act} : ∀ (D : List Nat), a.tmps.size = a0.tmps.size → a.defers = a0.defers → (∀ t, D.contains t = false → a.eval (.tmp t) = a0.eval (.tmp t)) → a = D.foldl (fun x d => x.put (some d) (a.eval (.tmp d))) a0 := by
  have size_put : ∀ (x : Act) d v, (x.put (some d) v).tmps.size = x.tmps.size := by intro x d v; simp [Act.put]
  have key : ∀ (D : List Nat) (b : Act), a.tmps.size = b.tmps.size → a.defers = b.defers → (∀ t, D.contains t = false → a.eval (.tmp t) = b.eval (.tmp t)) → a = D.foldl (fun x d => x.put (some d) (a.eval (.tmp d))) b := by
    intro D
    induction D with
    | nil =>
      intro b hs hd h
      have : a.tmps = b.tmps := by
        apply Array.ext hs
        intro i h1 h2
        have := h i rfl
        simpa [Act.eval, Array.getD, h1, h2] using this
      cases a; cases b; simp_all
    | cons d r ih =>
      intro b hs hd h
      rw [List.foldl_cons]
      refine ih _ (by rw [size_put]; exact hs) (by simp [Act.put, hd]) ?_
      intro t ht
      by_cases e : t = d
      · subst e
        by_cases hlt : t < b.tmps.size
        · rw [eval_put_same hlt]
        · have h1 : ¬ t < a.tmps.size := by omega
          simp [Act.put, Act.eval, Array.getD_eq_getD_getElem?, h1, hlt]
      · rw [eval_put_other e]
        exact h t (by simp only [List.contains_cons, Bool.or_eq_false_iff]; exact ⟨by simpa using e, ht⟩)
  exact fun D => key D a0

/-- What a region leaves: the slots of D may differ; F holds. -/
def Left (D : List Nat) (F : Act → World → Prop) (a0 : Act) (w0 : World) (a : Act) (w : World) : Prop := a.tmps.size = a0.tmps.size ∧ a.defers = a0.defers ∧ Grow w0 w ∧ F a w ∧ ∀ t, D.contains t = false → a.eval (.tmp t) = a0.eval (.tmp t)
/-- A stop between a region and what follows. -/
theorem by_stop {P : Program} {C : Code} {Q : Exit → Act → World → Prop} {a0 : Act} {w0 : World} (D : List Nat) (F : Act → World → Prop) (h1 : ∀ Q', (∀ a w, Left D F a0 w0 a w → Q' .normal a w) → C.wp P Q' a0 w0) (h2 : ∀ a w, Left D F a0 w0 a w → Q .normal a w) : C.wp P Q a0 w0 := h1 Q h2

section lists
variable {L : List (Nat × Fact)} {ops : Array Oper} {w0 : World} {o : Oper} {P : Program}
theorem okg_not (j : Nat) (want : Bool) (d : Tmp) (hg : o.guard = some (j, want)) (hd : (ops[j]?).bind (·.dst) = some d) (hl : (o.looksAt ops).contains d = true) (hF : factOf L d = .val (.bool !want)) (hD : FD L o.dst = .any) : OpOk P ops (FSof L) w0 o := by
  intro a w K Q hG hlk hK
  have h' : (factOf L d).holds (a.eval (.tmp d)) w := hlk d hl
  rw [hF] at h'
  have e : a.eval (.tmp d) = .bool !want := h'
  have hw : Region.wanted o (yielded ops a.tmps) = false := by
    have h2 : a.tmps[d]? = some (.bool !want) := by
      replace e : a.tmps.getD d undef = .bool !want := e
      rw [Array.getD_eq_getD_getElem?] at e
      cases hx : a.tmps[d]? with
      | none => rw [hx] at e; cases e
      | some x => rw [hx] at e; simpa using e
    cases want <;> simp [Region.wanted, hg, yielded, hd, h2]
  rw [if_neg (by simp [hw])]
  exact hK undef w (Grow.refl w) (fsd hD trivial)
theorem l_pickF (x y z : Operand) (r : Value) (ho : o.op = .pick x y z) (hx : Has ops (FSof L) o x (.bool false)) (hz : Has ops (FSof L) o z r) (hd : FD L o.dst = .val r) : RunOk P ops (FSof L) w0 o :=
  run2 x z hx hz (fun ρ w h1 h2 => by simp [execOp, ho, h1, h2, asBool, Result.andThen]) fun _ => fsd hd rfl
theorem l_pickT (x y z : Operand) (r : Value) (ho : o.op = .pick x y z) (hx : Has ops (FSof L) o x (.bool true)) (hy : Has ops (FSof L) o y r) (hd : FD L o.dst = .val r) : RunOk P ops (FSof L) w0 o :=
  run2 x y hx hy (fun ρ w h1 h2 => by simp [execOp, ho, h1, h2, asBool, Result.andThen]) fun _ => fsd hd rfl
theorem l_eqsG (x y : Operand) (T T' : TypeId) (s u : ByteArray) (ho : o.op = .binOp .eql T x y T') (hx : Has ops (FSof L) o x (.string s)) (hy : Has ops (FSof L) o y (.string u)) (hd : FD L o.dst = .val (.bool (s.toList == u.toList))) : RunOk P ops (FSof L) w0 o :=
  run2 x y hx hy (fun ρ w h1 h2 => by simp [execOp, ho, h1, h2, go_sem, Result.andThen]) fun _ => fsd hd rfl
theorem l_leq (x y : Operand) (T T' : TypeId) (k : IntKind) (m n : Int) (ho : o.op = .binOp .leq T x y T') (hx : Has ops (FSof L) o x (.int k m)) (hy : Has ops (FSof L) o y (.int k n)) (b : Bool) (hb : decide (m ≤ n) = b) (hd : FD L o.dst = .val (.bool b)) : RunOk P ops (FSof L) w0 o :=
  run2 x y hx hy (fun ρ w h1 h2 => by subst hb; simp [execOp, ho, h1, h2, go_sem, Result.andThen]) fun _ => fsd hd rfl
theorem l_load (x : Operand) (p : Addr) (T : TypeId) (v : Value) (hagg : ∀ w : World, (isAgg T).run P w = .ok false w) (ho : o.op = .load T x) (hx : Has ops (FSof L) o x (.pointer (some p))) (hcell : ∀ w, Grow w0 w → w.cell? p = some v) (hd : FD L o.dst = .val v) : RunOk P ops (FSof L) w0 o := by
  refine l_run1W x (.val v) _ hx (fun ρ w hg h => ⟨v, w, ?_, Grow.refl _, rfl⟩) hd
  have hc := hcell w hg
  simp [execOp, ho, h, go_sem, hagg, hc, Result.andThen]
theorem l_idx (x y : Operand) (p : Addr) (T e : TypeId) (n k : Nat) (hT : P.underlying T = some (.array n e)) (hk : k < n) (hs : ∀ w : World, (sizeOf e).run P w = .ok 1 w) (ho : o.op = .indexAddr T x y) (hx : Has ops (FSof L) o x (.pointer (some p))) (hy : Has ops (FSof L) o y (.int .i64 (k : Int))) (hd : FD L o.dst = .val (.pointer (some (p.add k)))) : RunOk P ops (FSof L) w0 o := by
  refine run2 x y hx hy (fun ρ w h1 h2 => ?_) fun _ => fsd hd rfl
  simp [execOp, ho, h1, h2, go_sem, hT, hk, hs, Result.andThen]
end lists
end Reg
end Go.Proofs.Ytlelckdcmlpmdaa
/- Blocks of slices of bytes, as facts of slots; Concat of them. -/
namespace Go.Proofs.Ytlelckdcmlpmdaa
open Go Go.RowKit Lou

/-- A row of slices of bytes, in a block. -/
def Lists (ls : List (List UInt8)) (v : Value) (w : World) : Prop :=
  ∃ b, v = .slice (some ⟨b, 0, none⟩) ls.length ls.length ∧ b < w.heap.size ∧ ∀ j (h : j < ls.length), ∃ A c, w.cell? ⟨b, j, none⟩ = some (.slice A ls[j].length c) ∧ InB w w.heap.size A c ls[j]
theorem lists_stable (ls : List (List UInt8)) : ∀ v w w', Lists ls v w → Grow w w' → Lists ls v w' := by
  rintro v w w' ⟨b, hv, hb, h⟩ hg
  refine ⟨b, hv, Nat.lt_of_lt_of_le hb hg.size, fun j hj => ?_⟩
  obtain ⟨A, c, h1, h2⟩ := h j hj
  exact ⟨A, c, (hg.cell (p := ⟨b, j, none⟩) hb).trans h1, (h2.below hg).more hg.size⟩
/-- .. as pieces. -/
theorem Lists.pieces {ls : List (List UInt8)} {v : Value} {w : World} (h : Lists ls v w) (hm : ls.length ≤ 1000) : ∃ b, ∃ zs : List (Piece w w.heap.size), v = .slice (some ⟨b, 0, none⟩) zs.length zs.length ∧ zs.map Piece.l = ls ∧ InLL w w.heap.size (some ⟨b, 0, none⟩) zs.length zs := by
  obtain ⟨b, rfl, hb, h⟩ := h
  have key : ∀ n, n ≤ ls.length → ∃ zs : List (Piece w w.heap.size), zs.length = n ∧ zs.map Piece.l = ls.take n ∧ ∀ j (hj : j < zs.length), w.cell? ⟨b, j, none⟩ = some zs[j].val := by
    intro n
    induction n with
    | zero => exact fun _ => ⟨[], rfl, by simp, fun j hj => by simp at hj⟩
    | succ n ih =>
      intro hn
      obtain ⟨zs, h1, h2, h3⟩ := ih (by omega)
      obtain ⟨A, c, h4, h5⟩ := h n (by omega)
      refine ⟨zs ++ [⟨((A, c), ls[n]), h5⟩], by simp [h1], ?_, fun j hj => ?_⟩
      · rw [List.map_append, h2, List.take_succ_eq_append_getElem (by omega)]
        rfl
      · by_cases e : j < zs.length
        · rw [List.getElem_append_left e]
          exact h3 j e
        · have : j = n := by simp at hj; omega
          subst this
          rw [List.getElem_append_right (by omega)]
          simp only [h1, Nat.sub_self, List.getElem_cons_zero]
          exact h4
  obtain ⟨zs, h1, h2, h3⟩ := key ls.length (Nat.le_refl _)
  refine ⟨b, zs, by rw [h1], by rw [h2, List.take_length], ⟨Nat.le_refl _, by omega, fun _ => ⟨b, 0, rfl, hb, fun j hj => by rw [Nat.zero_add]; exact h3 j hj⟩⟩⟩
theorem concatL_gives {ls : List (List UInt8)} {v : Value} {w : World} (h : Lists ls v w) (hm : ls.length ≤ 1000) (hf : ls.flatten.length ≤ 1000000000) : Calls Try.prog 142 #[v] w (GivesB w ls.flatten) := by
  obtain ⟨b, zs, rfl, hz, hI⟩ := h.pieces hm
  have := concat_gives w (some ⟨b, 0, none⟩) zs.length zs hI (by rw [hz]; exact hf)
  rw [hz] at this
  exact this
theorem sumLs_gives {ls : List (List UInt8)} {v : Value} {w : World} (h : Lists ls v w) (hm : ls.length ≤ 1000) : Calls Try.prog 29 #[v] w fun e W' => e = .returned (.int .u32 (sumL ls.flatten : Int)) ∧ Below w.heap.size w W' := by
  obtain ⟨b, zs, rfl, hz, hI⟩ := h.pieces hm
  have := sum_gives w (some ⟨b, 0, none⟩) zs.length zs hI
  rw [hz] at this
  exact this
/-- The block that a call of the variadic kind lays. -/
theorem Lists.new {w : World} (xs : List ((Option Addr × Nat) × List UInt8)) (h : ∀ x ∈ xs, InB w w.heap.size x.1.1 x.1.2 x.2) :
    Lists (xs.map (·.2)) (.slice (some ⟨w.heap.size, 0, none⟩) xs.length xs.length) (w.alloc (.cells (xs.map fun x => Value.slice x.1.1 x.2.length x.1.2).toArray 30)) := by
  refine ⟨w.heap.size, by simp, by simp, fun j hj => ?_⟩
  have hj' : j < xs.length := by simpa using hj
  refine ⟨xs[j].1.1, xs[j].1.2, ?_, ?_⟩
  · rw [(BlkIs.new w 30 _).cell]
    simp [hj']
  · have := h xs[j] (List.getElem_mem hj')
    rw [List.getElem_map]
    exact (this.below ((Below.refl _ w).alloc (Nat.le_refl _) _)).more (by simp)
theorem OwnB.base {w : World} {b b' : Nat} {v : Value} {l : List UInt8} (h : OwnB w b v l) (hb : b' ≤ b) : OwnB w b' v l := by
  refine ⟨h.1, ?_⟩
  rcases h.2 with h | ⟨g, cap, cur, h1, h2, h3⟩
  · exact .inl h
  · exact .inr ⟨g, cap, cur, h1, by omega, h3⟩
theorem GivesB.from {w w1 : World} {l : List UInt8} {e : Ending} {w' : World} (h : GivesB w1 l e w') (hb : Below w.heap.size w w1) : GivesB w l e w' := by
  obtain ⟨v, he, hown, hB⟩ := h
  exact ⟨v, he, hown.base hb.size, hb.trans (hB.mono hb.size)⟩
/-- Concat of two, in a block just laid; of three. -/
theorem concat2_gives (W : World) (A A2 : Option Addr) (c c2 : Nat) (l l2 : List UInt8) (hin : InB W W.heap.size A c l) (hin2 : InB W W.heap.size A2 c2 l2) (hf : l.length + l2.length ≤ 1000000000) :
    Calls Try.prog 142 #[.slice (some ⟨W.heap.size, 0, none⟩) 2 2] (W.alloc (.cells #[.slice A l.length c, .slice A2 l2.length c2] 30)) (GivesB W (l ++ l2)) := by
  have hN := Lists.new (w := W) [((A, c), l), ((A2, c2), l2)] (by
    intro x hx
    simp only [List.mem_cons, List.not_mem_nil, or_false] at hx
    rcases hx with rfl | rfl
    · exact hin
    · exact hin2)
  have h := concatL_gives hN (by simp) (by simpa using hf)
  refine h.mono fun e w' hg => ?_
  have := hg.from ((Below.refl _ W).alloc (Nat.le_refl _) _)
  simpa using this

namespace Reg
variable {L : List (Nat × Fact)} {ops : Array Oper} {w0 : World} {o : Oper}
theorem l_build4 (t1 t2 t3 t4 : Tmp) (l1 l2 l3 l4 : List UInt8) (ho : o.op = .buildSlice 168 4 #[(0, .tmp t1), (1, .tmp t2), (2, .tmp t3), (3, .tmp t4)])
    (c1 : (o.looksAt ops).contains t1 = true) (c2 : (o.looksAt ops).contains t2 = true) (c3 : (o.looksAt ops).contains t3 = true) (c4 : (o.looksAt ops).contains t4 = true)
    (f1 : factOf L t1 = .res l1) (f2 : factOf L t2 = .res l2) (f3 : factOf L t3 = .res l3) (f4 : factOf L t4 = .res l4) (hd : FD L o.dst = .pred (Lists [l1, l2, l3, l4]) (lists_stable _)) : RunOk Try.prog ops (FSof L) w0 o := by
  intro a w K Q hG hl hK
  have g1 : (factOf L t1).holds (a.eval (.tmp t1)) w := hl t1 c1
  have g2 : (factOf L t2).holds (a.eval (.tmp t2)) w := hl t2 c2
  have g3 : (factOf L t3).holds (a.eval (.tmp t3)) w := hl t3 c3
  have g4 : (factOf L t4).holds (a.eval (.tmp t4)) w := hl t4 c4
  rw [f1] at g1
  rw [f2] at g2
  rw [f3] at g3
  rw [f4] at g4
  obtain ⟨A1, k1, e1, h1⟩ := g1
  obtain ⟨A2, k2, e2, h2⟩ := g2
  obtain ⟨A3, k3, e3, h3⟩ := g3
  obtain ⟨A4, k4, e4, h4⟩ := g4
  have hN := Lists.new (w := w) [((A1, k1), l1), ((A2, k2), l2), ((A3, k3), l3), ((A4, k4), l4)] (by
    intro x hx
    simp only [List.mem_cons, List.not_mem_nil, or_false] at hx
    rcases hx with rfl | rfl | rfl | rfl
    · exact h1
    · exact h2
    · exact h3
    · exact h4)
  have key : ∀ ρ : Operand → Value, ρ (.tmp t1) = .slice A1 l1.length k1 → ρ (.tmp t2) = .slice A2 l2.length k2 → ρ (.tmp t3) = .slice A3 l3.length k3 → ρ (.tmp t4) = .slice A4 l4.length k4 →
      (execOp ρ o).run Try.prog w = .ok (.value (.slice (some ⟨w.heap.size, 0, none⟩) 4 4)) (w.alloc (.cells #[.slice A1 l1.length k1, .slice A2 l2.length k2, .slice A3 l3.length k3, .slice A4 l4.length k4] 30)) :=
    fun ρ h1 h2 h3 h4 => by simp [execOp, ho, h1, h2, h3, h4, go_sem, Result.andThen]
  unfold Oper.wp
  rw [key _ e1 e2 e3 e4]
  exact hK _ _ (Grow.alloc _ _) (fsd hd hN)
end Reg
end Go.Proofs.Ytlelckdcmlpmdaa
/- Maps that lie in a block: made, written, read. -/
namespace Go.Proofs.Ytlelckdcmlpmdaa
open Go Go.RowKit Lou

/-- The map's entries. -/
def MapIs (w : World) (r : Nat) (es : Array MapEntry) (clock : Nat) : Prop := w.heap[r]? = some (.map es clock)
theorem MapIs.lt {w : World} {r : Nat} {es : Array MapEntry} {clock : Nat} (h : MapIs w r es clock) : r < w.heap.size := (Array.getElem?_eq_some_iff.1 h).1
theorem MapIs.below {w w' : World} {B r : Nat} {es : Array MapEntry} {clock : Nat} (h : MapIs w r es clock) (hB : Below B w w') (hr : r < B) : MapIs w' r es clock := (hB.block r hr).trans h
theorem MapIs.grown {w w' : World} {r : Nat} {es : Array MapEntry} {clock : Nat} {row : Option Nat} (h : MapIs w r es clock) (hg : w.grownBy w' row) (hr : some r ≠ row) : MapIs w' r es clock := (hg.block r h.lt hr).trans h
/-- Another map in its place. -/
def setMap (w : World) (r : Nat) (es : Array MapEntry) (clock : Nat) : World := { w with heap := w.heap.setIfInBounds r (.map es clock) }
theorem MapIs.set {w : World} {r : Nat} {es : Array MapEntry} {clock : Nat} (h : MapIs w r es clock) (es' : Array MapEntry) (clock' : Nat) : MapIs (setMap w r es' clock') r es' clock' := (MapKept.heap_set (o' := .map es' clock') h).1
theorem setMap_grown {w : World} {r : Nat} {es : Array MapEntry} {clock : Nat} (h : MapIs w r es clock) (es' : Array MapEntry) (clock' : Nat) : w.grownBy (setMap w r es' clock') (some r) :=
  ⟨rfl, rfl, rfl, by simp [setMap], fun k _ hk => (MapKept.heap_set (o' := .map es' clock') h).2 k (fun e => hk (by rw [e]))⟩
theorem setMap_size (w : World) (r : Nat) (es : Array MapEntry) (clock : Nat) : (setMap w r es clock).heap.size = w.heap.size := by simp [setMap]
theorem setMap_below {w : World} {B r : Nat} {es : Array MapEntry} {clock : Nat} (h : MapIs w r es clock) (hB : B ≤ r) (es' : Array MapEntry) (clock' : Nat) : Below B w (setMap w r es' clock') :=
  ⟨rfl, rfl, rfl, by simp [setMap], fun k hk => (MapKept.heap_set (o' := .map es' clock') h).2 k (by omega)⟩
theorem MapIs.setOther {w : World} {r q : Nat} {es es0 : Array MapEntry} {clock clock0 : Nat} (h : MapIs w r es clock) (h0 : MapIs w q es0 clock0) (hq : r ≠ q) (es' : Array MapEntry) (clock' : Nat) : MapIs (setMap w q es' clock') r es clock := ((MapKept.heap_set (o' := .map es' clock') h0).2 r hq).trans h
theorem BlkIs.setMap {w : World} {g q : Nat} {t : TypeId} {cs : Array Value} {es0 : Array MapEntry} {clock0 : Nat} (h : BlkIs w g t cs) (h0 : MapIs w q es0 clock0) (es' : Array MapEntry) (clock' : Nat) : BlkIs (setMap w q es' clock') g t cs := by
  have hne : g ≠ q := by
    intro e
    subst e
    have h' : w.heap[g]? = some (.cells cs t (0, 0)) := h
    rw [show w.heap[g]? = some (.map es0 clock0) from h0] at h'
    cases h'
  exact ((MapKept.heap_set (o' := .map es' clock') h0).2 g hne).trans h

section
variable {P : Program} {w : World} {mty kt et : TypeId} {d : TypeDesc} {r clock : Nat} {es : Array MapEntry} {key val : Value}
theorem run_put_new (hm : P.underlying mty = some (.map kt et)) (hd : P.underlying kt = some d) (hk : MapKept.IsKey d key) (hb : MapIs w r es clock) (hf : Instr.findNow d key es.toList 0 = some none) :
    (Instr.mapUpdate mty (.map (some r)) key val).run P w = .ok () (setMap w r (es.push { key := key, val := val, born := clock }) (clock + 1)) := by
  have hc : (Instr.checkKey false 10000 kt key).run P w = .ok () w := MapKept.run_checkKey hd hk false 9999
  simp [Instr.mapUpdate, run_underlying hm, MapKept.run_getObj_map hb, hc, MapKept.run_findKey hd hf, MapKept.run_setObj_map _ hb, Result.andThen, setMap]
theorem run_get (hm : P.underlying mty = some (.map kt et)) (hd : P.underlying kt = some d) (hk : MapKept.IsKey d key) (hb : MapIs w r es clock) {i : Nat} {v : Value} (hf : Instr.findNow d key es.toList 0 = some (some (i, v))) :
    (Instr.lookup mty (.map (some r)) key false).run P w = .ok v w := by
  have hc : (Instr.checkKey es.isEmpty 10000 kt key).run P w = .ok () w := MapKept.run_checkKey hd hk _ 9999
  simp [Instr.lookup, run_underlying hm, MapKept.run_getObj_map hb, hc, MapKept.run_findKey hd hf, Result.andThen]
end
section
variable {P : Program} {w : World} {ops : Array Oper} {rest : List Oper} {o : Oper} {a : Act} {Q : Exit → Act → World → Prop} {mty kt et : TypeId} {d : TypeDesc} {r clock : Nat} {es : Array MapEntry} {key val : Value}
theorem wp_makeMap (hg : o.guard = none) (ho : o.op = .makeMap mty none) (h : MapIs (w.alloc (.map #[] 0)) w.heap.size #[] 0 → wpList P ops Q rest (a.put o.dst (.map (some w.heap.size))) (w.alloc (.map #[] 0))) : wpList P ops Q (o :: rest) a w :=
  wpList_plain hg fun _ hK => by
    unfold Oper.wp execOp
    simp only [ho, Option.map_none, run_makeMap, Sem.run_bind, Result.andThen_ok, Sem.run_pure]
    exact hK _ _ (h (heap_alloc_new w _))
theorem wp_put_new (hg : o.guard = none) (m x y : Operand) (ho : o.op = .insert mty m x y ∨ o.op = .mapUpdate mty m x y) (hm : P.underlying mty = some (.map kt et)) (hd : P.underlying kt = some d) (hk : MapKept.IsKey d key) (e1 : a.eval m = .map (some r)) (e2 : a.eval x = key) (e3 : a.eval y = val)
    (hb : MapIs w r es clock) (hf : Instr.findNow d key es.toList 0 = some none)
    (h : ∀ w', MapIs w' r (es.push { key := key, val := val, born := clock }) (clock + 1) → w.grownBy w' (some r) → wpList P ops Q rest (a.put o.dst undef) w') : wpList P ops Q (o :: rest) a w :=
  wpList_plain hg fun _ hK => by
    unfold Oper.wp execOp
    rcases ho with ho | ho <;> simp only [ho, e1, e2, e3, run_put_new hm hd hk hb hf, Sem.run_bind, Result.andThen_ok, Sem.run_pure] <;> exact hK _ _ (h _ (hb.set _ _) (setMap_grown hb _ _))
theorem BlkIs.grownMap {w w' : World} {g r : Nat} {t : TypeId} {cs : Array Value} {es : Array MapEntry} {clock : Nat} (h : BlkIs w g t cs) (hm : MapIs w r es clock) (hg : w.grownBy w' (some r)) : BlkIs w' g t cs := by
  refine h.grown hg (fun e => ?_)
  injection e with e
  subst e
  have h' : w.heap[g]? = some (.cells cs t (0, 0)) := h
  rw [show w.heap[g]? = some (.map es clock) from hm] at h'
  cases h'
end
end Go.Proofs.Ytlelckdcmlpmdaa
/- node.lots. -/
namespace Go.Proofs.Ytlelckdcmlpmdaa
open Go Go.RowKit Lou

set_option maxHeartbeats 1000000 in
theorem number12_gives (w : World) (n : Nat) (hn : n < 9223372036854775808) : Calls Try.prog 170 #[.int .i64 (n : Int)] w (GivesB w (num n)) := by
  have hc : IntKind.u64.wrap (n : Int) = (n : Int) := by simp [IntKind.wrap, IntKind.bits, IntKind.signed]; omega
  go_enter Try.func170, Try.ntmps170
  go_wp2_with (go_at_call 28; refine (number_gives n (by omega) w).mono ?_; rintro e w2 ⟨v, rfl, own, hB⟩)
  go_ret
  exact ⟨v, rfl, own, hB⟩
set_option maxHeartbeats 1000000 in
theorem joined_gives {ls : List (List UInt8)} {v : Value} {w : World} (h : Lists ls v w) (hm : ls.length ≤ 1000) (hf : ls.flatten.length ≤ 1000000000) : Calls Try.prog 167 #[v] w (GivesB w ls.flatten) := by
  have HC := concatL_gives h hm hf
  obtain ⟨b, rfl, _⟩ := h
  generalize ls.flatten = l at *
  go_enter Try.func167, Try.ntmps167
  go_wp2_with (go_at_call 142; refine HC.mono ?_; rintro e w2 ⟨v, rfl, own, hB⟩)
  go_ret
  exact ⟨v, rfl, own, hB⟩
/-- A string's bytes, as octet lays them. -/
def bytS (s : ByteArray) : List UInt8 := strL s.data.toList
theorem ostr_gives (w : World) (s : ByteArray) (hs : s.size ≤ 1000000000) : Calls Try.prog 32 #[.string s] w (GivesB w (bytS s)) := by
  have h := string_gives s.data.toList (by rw [Array.length_toList]; exact hs) w
  rw [← str_of] at h
  exact h
set_option maxHeartbeats 1000000 in
theorem lots1_gives (w : World) (c : Cel) (hs : c.val.size ≤ 1000000000) : Calls Try.prog 171 #[.agg (celC c).toArray] w (GivesB w (bytS c.val)) := by
  have b0 := BlkIs.new w 205 (celC c).toArray
  have hB : Below w.heap.size w (w.alloc (.cells (celC c).toArray 205)) := (Below.refl _ w).alloc (Nat.le_refl _) _
  have c1 : (w.alloc (.cells (celC c).toArray 205)).cell? ⟨w.heap.size, 1, none⟩ = some (.string c.val) := by rw [b0.cell]; rfl
  go_enter Try.func171, Try.ntmps171
  go_wp2_with (go_at_call 32; refine (ostr_gives _ _ hs).mono ?_; rintro e w2 ⟨v, rfl, own, hB2⟩)
  go_ret
  exact ⟨v, rfl, OwnB.base own hB.size, hB.trans (hB2.mono hB.size)⟩
set_option maxHeartbeats 1000000 in
theorem lots2_gives (w : World) (c : Cel) (n : Nat) (hn : c.size = (n : Int)) (hn2 : n < 9223372036854775808) : Calls Try.prog 172 #[.agg (celC c).toArray] w (GivesB w (num n)) := by
  have b0 := BlkIs.new w 205 (celC c).toArray
  have hB : Below w.heap.size w (w.alloc (.cells (celC c).toArray 205)) := (Below.refl _ w).alloc (Nat.le_refl _) _
  have c3 : (w.alloc (.cells (celC c).toArray 205)).cell? ⟨w.heap.size, 3, none⟩ = some (.int .i64 (n : Int)) := by rw [b0.cell, ← hn]; rfl
  go_enter Try.func172, Try.ntmps172
  go_wp2_with (go_at_call 170; refine (number12_gives _ n hn2).mono ?_; rintro e w2 ⟨v, rfl, own, hB2⟩)
  go_ret
  exact ⟨v, rfl, OwnB.base own hB.size, hB.trans (hB2.mono hB.size)⟩
end Go.Proofs.Ytlelckdcmlpmdaa
/- node.lots: the bytes of cells. -/
namespace Go.Proofs.Ytlelckdcmlpmdaa
open Go Go.RowKit Lou

def celB (c : Cel) : List UInt8 := bytS c.key ++ num c.page.toNat ++ (if c.page = 0 then bytS c.val else num c.size.toNat)
def keyB (s : ByteArray) (i : Int) : List UInt8 := bytS s ++ num i.toNat
/-- The bytes of cells; of keys, each with the kid behind it. -/
def lotsB (x : Nod) : List (List UInt8) := x.cells.map celB ++ (List.range x.keys.length).map fun j => keyB (x.keys.getD j ByteArray.empty) (x.kids.getD (j + 1) 0)
theorem elLists : ElT 168 30 1 24 (.slice none 0 0) := ⟨Try.underlying168, by kernel_rfl, by kernel_rfl, by decide⟩
/-- Own rows of two types lie apart. -/
theorem own_apart {w : World} {b b' : Nat} {T T' : TypeId} {sz sz' n n' : Nat} {v v' : Value} {cs cs' : List Value} (h : w.ownsRow b T sz v n cs) (h' : w.ownsRow b' T' sz' v' n' cs') (hT : T ≠ T') : ∀ r, v'.ownBlock = some r → some r ≠ v.ownBlock := by
  intro r hr e
  rcases h.2 with ⟨rfl, _⟩ | ⟨g, cap, cur, rfl, _, hq, _⟩
  · cases e
  · rcases h'.2 with ⟨rfl, _⟩ | ⟨g', cap', cur', rfl, _, hq', _⟩
    · cases hr
    · injection hr with hr
      injection e with e
      subst hr
      subst e
      rw [hq] at hq'
      injection hq' with hq'
      injection hq' with _ h2
      exact hT h2
theorem own_past {w w' : World} {b b' : Nat} {T T' : TypeId} {sz sz' n n' : Nat} {v v' : Value} {cs cs' : List Value} (h : w.ownsRow b T sz v n cs) (h' : w.ownsRow b' T' sz' v' n' cs') (hT : T ≠ T') (hg : w.grownBy w' v.ownBlock) : w'.ownsRow b' T' sz' v' n' cs' :=
  ownG_later h' fun r hr => hg.block r (ownG_lt h' r hr) (own_apart h h' hT r hr)
theorem own_blk {w : World} {b : Nat} {T T' : TypeId} {sz n g : Nat} {v : Value} {cs : List Value} {cs' : Array Value} (h : w.ownsRow b T sz v n cs) (hb : BlkIs w g T' cs') (hT : T ≠ T') : some g ≠ v.ownBlock := by
  intro e
  rcases h.2 with ⟨rfl, _⟩ | ⟨g', cap, cur, rfl, _, hq, _⟩
  · cases e
  · injection e with e
    subst e
    have h' : w.heap[g]? = some (.cells cs' T' (0, 0)) := hb
    rw [hq] at h'
    injection h' with h'
    injection h' with _ h2
    exact hT h2
theorem own_map {w : World} {b : Nat} {T : TypeId} {sz n r clock : Nat} {v : Value} {cs : List Value} {es : Array MapEntry} (h : w.ownsRow b T sz v n cs) (hb : MapIs w r es clock) : some r ≠ v.ownBlock := by
  intro e
  rcases h.2 with ⟨rfl, _⟩ | ⟨g', cap, cur, rfl, _, hq, _⟩
  · cases e
  · injection e with e
    subst e
    have h' : w.heap[r]? = some (.map es clock) := hb
    rw [hq] at h'
    cases h'
/-- An own row of slices of bytes. -/
structure LotR (w : World) (base : Nat) (v : Value) (ls : List (List UInt8)) (vs : List Value) : Prop where
  own : w.ownsRow base 30 1 v ls.length vs
  one : ∀ v ∈ vs, v.oneCell' = true
  at_ : ∀ j, (h : j < ls.length) → ∃ A c, vs[j]? = some (.slice A ls[j].length c) ∧ OwnB w 0 (.slice A ls[j].length c) ls[j]
theorem LotR.none (w : World) (base : Nat) : LotR w base (.slice none 0 0) [] [] := ⟨World.ownsRow_nil _ _ _ _, fun v h => by simp at h, fun j h => by simp at h⟩
theorem LotR.grow {w w' : World} {base : Nat} {v : Value} {ls : List (List UInt8)} {vs : List Value} (h : LotR w base v ls vs) (hB : Below w.heap.size w w') : LotR w' base v ls vs := by
  refine ⟨ownG_grow h.own hB, h.one, fun j hlt => ?_⟩
  obtain ⟨A, c, e, hin⟩ := h.at_ j hlt
  exact ⟨A, c, e, ownG_grow hin hB⟩
/-- One more. -/
theorem LotR.more {w w' : World} {base b2 : Nat} {v v' : Value} {ls : List (List UInt8)} {vs : List Value} (h : LotR w base v ls vs) {l : List UInt8} {A : Option Addr} {c : Nat} (ho : OwnB w b2 (.slice A l.length c) l)
    (own : w'.ownsRow base 30 1 v' (ls.length + 1) (vs ++ [.slice A l.length c])) (hg : w.grownBy w' v.ownBlock) : LotR w' base v' (ls ++ [l]) (vs ++ [.slice A l.length c]) := by
  have hvs : vs.length = ls.length := by have := h.own.1; omega
  have hT : 30 ≠ 5 := by decide
  refine ⟨by rw [List.length_append]; exact own, ?_, fun j hlt => ?_⟩
  · intro u hu
    rcases List.mem_append.1 hu with hu | hu
    · exact h.one u hu
    · obtain rfl := List.mem_singleton.1 hu
      rfl
  · by_cases e : j < ls.length
    · obtain ⟨A', c', e1, hin'⟩ := h.at_ j e
      refine ⟨A', c', ?_, ?_⟩
      · rw [List.getElem?_append_left (by omega), e1, List.getElem_append_left e]
      · rw [List.getElem_append_left e]
        exact own_past h.own hin' hT hg
    · have e2 : j = ls.length := by simp at hlt; omega
      subst e2
      refine ⟨A, c, ?_, ?_⟩
      · rw [List.getElem?_append_right (by omega), hvs, Nat.sub_self, List.getElem_append_right (Nat.le_refl _)]
        simp
      · rw [List.getElem_append_right (Nat.le_refl _)]
        have := own_past h.own (OwnB.base ho (Nat.zero_le _)) hT hg
        simp only [Nat.sub_self, List.getElem_cons_zero]
        exact this
/-- What lots answers. -/
def LotsOut (w : World) (ls : List (List UInt8)) (e : Ending) (w' : World) : Prop := ∃ A c vs, e = .returned (.slice A ls.length c) ∧ LotR w' w.heap.size (.slice A ls.length c) ls vs ∧ Below w.heap.size w w'
theorem bytS_length (s : ByteArray) : (bytS s).length ≤ 10 + s.size := by
  unfold bytS strL
  rw [List.length_append]
  have h1 := num_length s.data.toList.length
  have h2 : s.data.toList.length = s.size := Array.length_toList
  omega
theorem right_cases {c : Cel} (h : rightB c = true) : ∃ pn sn : Nat, c.page = pn ∧ c.size = sn ∧ pn ≤ 2000 ∧ sn ≤ 4000 ∧ (pn = 0 → c.val.size ≤ 60) := by
  unfold rightB at h
  by_cases h0 : c.page = 0
  · rw [if_pos h0] at h
    simp only [Bool.and_eq_true, decide_eq_true_eq, beq_iff_eq] at h
    exact ⟨0, 0, by omega, by omega, by omega, by omega, fun _ => h.1⟩
  · rw [if_neg h0] at h
    simp only [pageB, Bool.and_eq_true, decide_eq_true_eq] at h
    exact ⟨c.page.toNat, c.size.toNat, by omega, by omega, by omega, by omega, fun e => by omega⟩
theorem celB_length {c : Cel} (hk : c.key.size ≤ 81) (hr : rightB c = true) : (celB c).length ≤ 200 := by
  obtain ⟨pn, sn, e1, e2, h1, h2, h3⟩ := right_cases hr
  unfold celB
  rw [List.length_append, List.length_append]
  have q1 := bytS_length c.key
  have q2 := num_length c.page.toNat
  have q3 := bytS_length c.val
  have q4 := num_length c.size.toNat
  split
  · have := h3 (by omega)
    omega
  · omega
end Go.Proofs.Ytlelckdcmlpmdaa
/- node.lots: the walk. -/
namespace Go.Proofs.Ytlelckdcmlpmdaa
open Go Go.RowKit Lou

def lotEs : Array MapEntry := #[{ key := .bool true, val := .func (.func 171) #[] #[], born := 0 }, { key := .bool false, val := .func (.func 172) #[] #[], born := 1 }]
theorem lot_find (b : Bool) : Instr.findNow .bool (.bool b) lotEs.toList 0 = some (some (if b then 0 else 1, .func (.func (if b then 171 else 172)) #[] #[])) := by cases b <;> rfl
theorem lot_get {W : World} {r : Nat} (h : MapIs W r lotEs 2) (b : Bool) : (Instr.lookup 275 (.map (some r)) (.bool b) false).run Try.prog W = .ok (.func (.func (if b then 171 else 172)) #[] #[]) W :=
  run_get Try.underlying275 Try.underlying4 (show MapKept.IsKey .bool (.bool b) from trivial) h (lot_find b)
theorem join3 {W5 W6 W7 : World} {A5 A6 A7 : Option Addr} {c5 c6 c7 : Nat} {l1 l2 l3 l : List UInt8} (hin5 : InB W5 W5.heap.size A5 c5 l1) (hin6 : InB W6 W6.heap.size A6 c6 l2) (hin7 : InB W7 W7.heap.size A7 c7 l3) (hB6 : Below W5.heap.size W5 W6) (hB7 : Below W6.heap.size W6 W7) (hl : [l1, l2, l3].flatten = l) (hm : l.length ≤ 200) :
    Calls Try.prog 167 #[.slice (some ⟨W7.heap.size, 0, none⟩) 3 3] (W7.alloc (.cells #[.slice A5 l1.length c5, .slice A6 l2.length c6, .slice A7 l3.length c7] 30)) (GivesB (W7.alloc (.cells #[.slice A5 l1.length c5, .slice A6 l2.length c6, .slice A7 l3.length c7] 30)) l) := by
  have h57 := hB6.trans (hB7.mono hB6.size)
  have HL := Lists.new (w := W7) [((A5, c5), l1), ((A6, c6), l2), ((A7, c7), l3)] (by
    intro y hy
    simp at hy
    rcases hy with rfl | rfl | rfl
    · exact (hin5.below h57).more h57.size
    · exact (hin6.below hB7).more hB7.size
    · exact hin7)
  have h := joined_gives HL (by simp) (by show [l1, l2, l3].flatten.length ≤ _; rw [hl]; omega)
  have e : (([((A5, c5), l1), ((A6, c6), l2), ((A7, c7), l3)] : List ((Option Addr × Nat) × List UInt8)).map (·.2)).flatten = l := hl
  rw [e] at h
  exact h
theorem join2 {W5 W6 : World} {A5 A6 : Option Addr} {c5 c6 : Nat} {l1 l2 l : List UInt8} (hin5 : InB W5 W5.heap.size A5 c5 l1) (hin6 : InB W6 W6.heap.size A6 c6 l2) (hB6 : Below W5.heap.size W5 W6) (hl : [l1, l2].flatten = l) (hm : l.length ≤ 1000000000) :
    Calls Try.prog 167 #[.slice (some ⟨W6.heap.size, 0, none⟩) 2 2] (W6.alloc (.cells #[.slice A5 l1.length c5, .slice A6 l2.length c6] 30)) (GivesB (W6.alloc (.cells #[.slice A5 l1.length c5, .slice A6 l2.length c6] 30)) l) := by
  have HL := Lists.new (w := W6) [((A5, c5), l1), ((A6, c6), l2)] (by
    intro y hy
    simp at hy
    rcases hy with rfl | rfl
    · exact (hin5.below hB6).more hB6.size
    · exact hin6)
  have h := joined_gives HL (by simp) (by show [l1, l2].flatten.length ≤ _; rw [hl]; omega)
  have e : (([((A5, c5), l1), ((A6, c6), l2)] : List ((Option Addr × Nat) × List UInt8)).map (·.2)).flatten = l := hl
  rw [e] at h
  exact h
/-- A key's bytes, with the kid behind it. -/
def keyAt (keys : List ByteArray) (kids : List Int) (j : Nat) : List UInt8 := keyB (keys.getD j ByteArray.empty) (kids.getD (j + 1) 0)
set_option maxRecDepth 100000 in
set_option maxHeartbeats 4000000 in
theorem lots_gives (w : World) (x : Nod) (Ac : Option Addr) (cc : Nat) (Ak : Option Addr) (ck : Nat) (Ai : Option Addr) (ci : Nat) (h : NIs w w.heap.size x Ac cc Ak ck Ai ci) (hl : x.cells.length ≤ 1000000) (hl2 : x.keys.length ≤ 1000000) (hl3 : x.kids.length ≤ 1000000) (hR : RightP x) :
    Calls Try.prog 117 #[.agg (nodC x Ac cc Ak ck Ai ci)] w (LotsOut w (lotsB x)) := by
  have b0 := BlkIs.new w 76 (nodC x Ac cc Ak ck Ai ci)
  have hB : Below w.heap.size w (w.alloc (.cells (nodC x Ac cc Ak ck Ai ci) 76)) := (Below.refl _ w).alloc (Nat.le_refl _) _
  have h1 := h.grow hB
  obtain ⟨hc, hk, hi⟩ := h
  have lc := hc.le
  have mc := hc.max
  have lk := hk.le
  have li := hi.le
  obtain ⟨leaf, cells, keys, kids⟩ := x
  unfold nodC at *
  simp only at *
  have hcell : ∀ c ∈ cells, rightB c = true ∧ c.key.size ≤ 81 := fun c hc => by
    cases leaf with
    | true =>
      refine ⟨(hR.leaf rfl).2.2 c hc, ?_⟩
      have := hR.short c.key (List.mem_map.2 ⟨c, hc, rfl⟩)
      unfold shortS at this
      simpa using this
    | false =>
      have e : cells = [] := (hR.inner rfl).1
      rw [e] at hc
      cases hc
  have hkid : ∀ j, (h : j < keys.length) → keys[j].size ≤ 81 ∧ ∃ n : Nat, n ≤ 2000 ∧ ∃ h2 : j + 1 < kids.length, kids[j + 1] = (n : Int) := fun j hj => by
    cases leaf with
    | true =>
      have e : keys = [] := (hR.leaf rfl).1
      subst e
      simp at hj
    | false =>
      obtain ⟨_, _, hlen, hp⟩ := hR.inner rfl
      simp only at hlen hp
      have h2 : j + 1 < kids.length := by omega
      have hp2 := hp _ (List.getElem_mem h2)
      simp only [pageB, Bool.and_eq_true, decide_eq_true_eq] at hp2
      have hs := hR.short keys[j] (List.getElem_mem hj)
      refine ⟨by unfold shortS at hs; simpa using hs, kids[j + 1].toNat, by omega, h2, by omega⟩
  go_enter Try.func117, Try.ntmps117
  have e0 : Instr.findNow .bool (.bool true) (#[] : Array MapEntry).toList 0 = some none := rfl
  have e1 : Instr.findNow .bool (.bool false) (#[{ key := .bool true, val := .func (.func 171) #[] #[], born := 0 }] : Array MapEntry).toList 0 = some none := rfl
  have E0 := Lib.hid e0
  have E1 := Lib.hid e1
  clear e0 e1
  obtain ⟨W1, hW1⟩ : ∃ W1, W1 = w.alloc (.cells #[.bool leaf, .slice Ac cells.length cc, .slice Ak keys.length ck, .slice Ai kids.length ci] 76) := ⟨_, rfl⟩
  rw [← hW1] at b0 hB h1
  have hs1 : W1.heap.size = w.heap.size + 1 := by rw [hW1]; exact World.size_alloc _ _
  have HW1 := Lib.hid hW1
  have HS1 := Lib.hid hs1
  clear hW1 hs1
  go_wp2_with (first
    | (refine wp_makeMap rfl rfl ?_; rw [← HW1.out]; intro hm0; have hBm := (Below.refl _ W1).alloc (Nat.le_refl _) (.map #[] 0))
    | (refine wp_put_new rfl (.tmp 8) (.const (.bool true)) (.func 171) (.inl rfl) Try.underlying275 Try.underlying4 (show MapKept.IsKey .bool (.bool true) from trivial) rfl rfl rfl hm0 E0.out ?_; intro w3 hm1 hg1)
    | (refine wp_put_new rfl (.tmp 8) (.const (.bool false)) (.func 172) (.inl rfl) Try.underlying275 Try.underlying4 (show MapKept.IsKey .bool (.bool false) from trivial) rfl rfl rfl hm1 E1.out ?_; intro w4 hm2 hg2; have hB4 : Below W1.heap.size W1 w4 := ((hBm.trans (grown_below hg1 hBm.size (fun r e => by injection e with e; omega))).trans (grown_below hg2 (Nat.le_trans hBm.size hg1.size) (fun r e => by injection e with e; omega))); have b4 := b0.below hB4 b0.lt; have k1 : w4.cell? ⟨w.heap.size, 1, none⟩ = some (.slice Ac cells.length cc) := (by rw [b4.cell]; rfl)))
  have hm : MapIs w4 W1.heap.size lotEs 2 := hm2
  obtain ⟨r, hr⟩ : ∃ r, r = W1.heap.size := ⟨_, rfl⟩
  rw [← hr] at hm ⊢
  have hB04 : Below w.heap.size w w4 := hB.trans (hB4.mono hB.size)
  clear hr hm0 hm1 hm2 hg1 hg2 hBm h1 hB4
  go_loopw [2, 13] (fun v i wr => ∃ (k : Nat) (A : Option Addr) (c : Nat) (vs : List Value), k ≤ cells.length ∧ i = .int .i64 k ∧ v = .slice A k c ∧ LotR wr w4.heap.size (.slice A k c) ((cells.take k).map celB) vs ∧ Below w4.heap.size w4 wr) (fun _ i _ => cells.length - (intOf i).toNat)
  case atStart => exact ⟨0, none, 0, [], by omega, rfl, rfl, LotR.none _ _, Below.refl _ _⟩
  case round =>
    obtain ⟨k, A, c, vs, hkl, rfl, rfl, hL, hBr⟩ := hrel
    by_cases hlt : k < cells.length
    · obtain ⟨g, o, rfl, hg, _⟩ := hc.lies (by omega)
      have hrk : wr.rangeAt g (o + k * 4) (celC cells[k]) := fun j v hj => (hBr.cell (p := ⟨g, o + k * 4 + j, none⟩) (Nat.lt_of_lt_of_le hg hB04.size)).trans ((hB04.cell (p := ⟨g, o + k * 4 + j, none⟩) hg).trans (cel_at hc rfl k hlt j v hj))
      have hck := hcell _ (List.getElem_mem hlt)
      have htk : (cells.take (k + 1)).map celB = (cells.take k).map celB ++ [celB cells[k]] := by rw [List.take_succ_eq_append_getElem hlt, List.map_append]; rfl
      have hlk : ((cells.take k).map celB).length = k := by rw [List.length_map, List.length_take]; omega
      generalize cells[k] = x at *
      obtain ⟨hx1, hx2⟩ := hck
      have hlen := celB_length hx2 hx1
      obtain ⟨pn, sn, e1, e2, h1, h2, h3⟩ := right_cases hx1
      obtain ⟨xk, xv, xp, xz⟩ := x
      simp only at hx2 e1 e2 h3
      subst e1 e2
      have n0 := BlkIs.new wr 205 (celC zCel).toArray
      have nb := n0.setRow (celC (⟨xk, xv, (pn : Int), (sn : Int)⟩ : Cel)).toArray
      have nB : Below wr.heap.size wr ((wr.alloc (.cells (celC zCel).toArray 205)).setRow wr.heap.size (celC (⟨xk, xv, (pn : Int), (sn : Int)⟩ : Cel)).toArray) := below_setRow ((Below.refl _ wr).alloc (Nat.le_refl _) _) (Nat.le_refl _) _
      obtain ⟨W2, hW2⟩ : ∃ W2, W2 = (wr.alloc (.cells (celC zCel).toArray 205)).setRow wr.heap.size (celC (⟨xk, xv, (pn : Int), (sn : Int)⟩ : Cel)).toArray := ⟨_, rfl⟩
      rw [← hW2] at nb nB
      have HW := Lib.hid hW2
      have hBr2 := hBr.trans (nB.mono hBr.size)
      have hL2 := hL.grow nB
      generalize (cells.take k).map celB = ls at *
      have HLS := Lib.hid hlk
      have HTK := Lib.hid htk
      have hm5 : ∀ W, Below W2.heap.size W2 W → MapIs W r lotEs 2 := fun W hW => (hm.below hBr2 hm.lt).below hW (Nat.lt_of_lt_of_le hm.lt hBr2.size)
      obtain ⟨g5, hg5⟩ : ∃ g5, g5 = wr.heap.size := ⟨_, rfl⟩
      have hS : ∀ W, Below W2.heap.size W2 W → W.cell? ⟨g5, 0, none⟩ = some (.string xk) ∧ W.cell? ⟨g5, 1, none⟩ = some (.string xv) ∧ W.cell? ⟨g5, 2, none⟩ = some (.int .i64 (pn : Int)) ∧ W.cell? ⟨g5, 3, none⟩ = some (.int .i64 (sn : Int)) ∧ MapIs W r lotEs 2 := fun W hW => by
        have b := nb.below hW nb.lt
        rw [← hg5] at b
        exact ⟨by rw [b.cell]; rfl, by rw [b.cell]; rfl, by rw [b.cell]; rfl, by rw [b.cell]; rfl, hm5 W hW⟩
      clear hW2 htk hlk hL hm5
      go_wp2_with (first
        | (refine wp_execN rfl (x_loadM rowCel hrk rfl rfl rfl) ?_)
        | (refine wp_execN rfl (x_allocCel rfl) ?_)
        | (refine wp_storeW rfl 205 (.tmp 5) (.tmp 16) rfl wr.heap.size rfl rfl rowCel n0 rfl rfl (celC_one _) ?_; rw [← HW.out]))
      rw [← hg5]
      have HG5 := Lib.hid hg5
      clear hg5
      simp only [Act.put, List.setIfInBounds_toArray, List.set_cons_zero, List.set_cons_succ]
      have hBd : Below W2.heap.size W2 W2.drew := (Below.refl _ W2).drew
      rcases Nat.eq_zero_or_pos pn with h0 | h0
      · have hv60 : xv.size ≤ 1000000000 := by have := h3 h0; omega
        subst h0
        have qd := hS _ hBd
        have HLK : ∀ W, MapIs W r lotEs 2 → (Instr.lookup 275 (.map (some r)) (.bool true) false).run Try.prog W = .ok (.func (.func 171) #[] #[]) W := fun W h => lot_get h true
        have HCB : Hid ([bytS xk, num 0, bytS xv].flatten = celB (⟨xk, xv, ((0 : Nat) : Int), (sn : Int)⟩ : Cel)) := Lib.hid (by unfold celB; simp)
        go_region_held3 (fun W => W.cell? ⟨g5, 0, none⟩ = some (.string xk) ∧ W.cell? ⟨g5, 1, none⟩ = some (.string xv) ∧ W.cell? ⟨g5, 2, none⟩ = some (.int .i64 0) ∧ W.cell? ⟨g5, 3, none⟩ = some (.int .i64 (sn : Int)) ∧ MapIs W r lotEs 2) (first | exact qd | exact q5 | exact q6 | exact q7 | exact q8 | exact q9 | exact q10 | exact q11) (first
          | (go_at_call 32; refine (ostr_gives _ xk (by omega)).mono ?_; rintro e W5 ⟨v5, rfl, own5, hB5⟩; have hB05 := hBd.trans (hB5.mono hBd.size); have q5 := hS _ hB05; obtain ⟨A5, c5, rfl, hin5⟩ := own5.inB)
          | (go_at_call 170; refine (number12_gives _ 0 (by omega)).mono ?_; rintro e W6 ⟨v6, rfl, own6, hB6⟩; have hB06 := hB05.trans (hB6.mono hB05.size); have q6 := hS _ hB06; obtain ⟨A6, c6, rfl, hin6⟩ := own6.inB)
          | (go_at_call 171; refine (lots1_gives _ (⟨xk, xv, ((0 : Nat) : Int), (sn : Int)⟩ : Cel) hv60).mono ?_; rintro e W7 ⟨v7, rfl, own7, hB7⟩; have hB07 := hB06.trans (hB7.mono hB06.size); have q7 := hS _ hB07; obtain ⟨A7, c7, rfl, hin7⟩ := own7.inB; have hB8 := hB07.alloc hB07.size (.cells #[.slice A5 (bytS xk).length c5, .slice A6 (num 0).length c6, .slice A7 (bytS xv).length c7] 30); have q8 := hS _ hB8)
          | (go_at_call 167; have HJ := join3 hin5 hin6 hin7 hB6 hB7 HCB.out hlen; refine HJ.mono ?_; rintro e W9 ⟨v9, rfl, own9, hB9⟩; have hB09 := hB8.trans (hB9.mono hB8.size); have q9 := hS _ hB09; obtain ⟨A9, c9, rfl, hin9⟩ := own9.inB; have hB10 := hB09.alloc hB09.size (.cells #[.slice A9 (celB (⟨xk, xv, ((0 : Nat) : Int), (sn : Int)⟩ : Cel)).length c9] 30); have q10 := hS _ hB10; have hL10 := hL2.grow hB10; have own10 := hL10.own; rw [HLS.out] at own10; have hbs := Nat.le_trans hBr2.size hB10.size)
          | (refine step_appG rfl elLists (.tmp 17) (.tmp 33) rfl w4.heap.size (.slice A k c) k vs rfl own10 _ _ 1 1 [.slice A9 (celB (⟨xk, xv, ((0 : Nat) : Int), (sn : Int)⟩ : Cel)).length c9] rfl (row_one W9 30 _ rfl) (by unfold maxLen; omega) (by omega) hbs ?_; intro v11 w11 own11 hg11; have b10 := nb.below hB10 nb.lt; rw [← HG5.out] at b10; have b11 := b10.grown hg11 (own_blk own10 b10 (by decide)); have q11 : w11.cell? ⟨g5, 0, none⟩ = some (.string xk) ∧ w11.cell? ⟨g5, 1, none⟩ = some (.string xv) ∧ w11.cell? ⟨g5, 2, none⟩ = some (.int .i64 0) ∧ w11.cell? ⟨g5, 3, none⟩ = some (.int .i64 (sn : Int)) ∧ MapIs w11 r lotEs 2 := ⟨by rw [b11.cell]; rfl, by rw [b11.cell]; rfl, by rw [b11.cell]; rfl, by rw [b11.cell]; rfl, q10.2.2.2.2.grown hg11 (own_map own10 q10.2.2.2.2)⟩))
        go_wp2
        all_goals
          have hB910 : Below W9.heap.size W9 (W9.alloc (.cells #[.slice A9 (celB (⟨xk, xv, ((0 : Nat) : Int), (sn : Int)⟩ : Cel)).length c9] 30)) := (Below.refl _ W9).alloc (Nat.le_refl _) _
          have hL11 := hL10.more (ownG_grow own9 hB910) (by rw [HLS.out]; exact own11) hg11
          obtain ⟨A11, c11, rfl, _⟩ := ownG_in own11 hL11.one
          exact ⟨⟨k + 1, A11, c11, _, by omega, by simp, rfl, by rw [HTK.out]; exact hL11, (hBr2.trans (hB10.mono hBr2.size)).trans (grown_below hg11 hbs (ownG_ge own10))⟩, by simp [intOf]; omega⟩
      · have h0' : ((pn : Int) == 0) = false := by simp; omega
        have qd := hS _ hBd
        have HLK : ∀ W, MapIs W r lotEs 2 → (Instr.lookup 275 (.map (some r)) (.bool false) false).run Try.prog W = .ok (.func (.func 172) #[] #[]) W := fun W h => lot_get h false
        have HCB : Hid ([bytS xk, num pn, num sn].flatten = celB (⟨xk, xv, (pn : Int), (sn : Int)⟩ : Cel)) := Lib.hid (by unfold celB; rw [if_neg (by show ¬ ((pn : Int) = 0); omega)]; simp)
        go_region_held3 (fun W => W.cell? ⟨g5, 0, none⟩ = some (.string xk) ∧ W.cell? ⟨g5, 1, none⟩ = some (.string xv) ∧ W.cell? ⟨g5, 2, none⟩ = some (.int .i64 (pn : Int)) ∧ W.cell? ⟨g5, 3, none⟩ = some (.int .i64 (sn : Int)) ∧ MapIs W r lotEs 2) (first | exact qd | exact q5 | exact q6 | exact q7 | exact q8 | exact q9 | exact q10 | exact q11) (first
          | (go_at_call 32; refine (ostr_gives _ xk (by omega)).mono ?_; rintro e W5 ⟨v5, rfl, own5, hB5⟩; have hB05 := hBd.trans (hB5.mono hBd.size); have q5 := hS _ hB05; obtain ⟨A5, c5, rfl, hin5⟩ := own5.inB)
          | (go_at_call 170; refine (number12_gives _ pn (by omega)).mono ?_; rintro e W6 ⟨v6, rfl, own6, hB6⟩; have hB06 := hB05.trans (hB6.mono hB05.size); have q6 := hS _ hB06; obtain ⟨A6, c6, rfl, hin6⟩ := own6.inB)
          | (go_at_call 172; refine (lots2_gives _ (⟨xk, xv, (pn : Int), (sn : Int)⟩ : Cel) sn rfl (by omega)).mono ?_; rintro e W7 ⟨v7, rfl, own7, hB7⟩; have hB07 := hB06.trans (hB7.mono hB06.size); have q7 := hS _ hB07; obtain ⟨A7, c7, rfl, hin7⟩ := own7.inB; have hB8 := hB07.alloc hB07.size (.cells #[.slice A5 (bytS xk).length c5, .slice A6 (num pn).length c6, .slice A7 (num sn).length c7] 30); have q8 := hS _ hB8)
          | (go_at_call 167; have HJ := join3 hin5 hin6 hin7 hB6 hB7 HCB.out hlen; refine HJ.mono ?_; rintro e W9 ⟨v9, rfl, own9, hB9⟩; have hB09 := hB8.trans (hB9.mono hB8.size); have q9 := hS _ hB09; obtain ⟨A9, c9, rfl, hin9⟩ := own9.inB; have hB10 := hB09.alloc hB09.size (.cells #[.slice A9 (celB (⟨xk, xv, (pn : Int), (sn : Int)⟩ : Cel)).length c9] 30); have q10 := hS _ hB10; have hL10 := hL2.grow hB10; have own10 := hL10.own; rw [HLS.out] at own10; have hbs := Nat.le_trans hBr2.size hB10.size)
          | (refine step_appG rfl elLists (.tmp 17) (.tmp 33) rfl w4.heap.size (.slice A k c) k vs rfl own10 _ _ 1 1 [.slice A9 (celB (⟨xk, xv, (pn : Int), (sn : Int)⟩ : Cel)).length c9] rfl (row_one W9 30 _ rfl) (by unfold maxLen; omega) (by omega) hbs ?_; intro v11 w11 own11 hg11; have b10 := nb.below hB10 nb.lt; rw [← HG5.out] at b10; have b11 := b10.grown hg11 (own_blk own10 b10 (by decide)); have q11 : w11.cell? ⟨g5, 0, none⟩ = some (.string xk) ∧ w11.cell? ⟨g5, 1, none⟩ = some (.string xv) ∧ w11.cell? ⟨g5, 2, none⟩ = some (.int .i64 (pn : Int)) ∧ w11.cell? ⟨g5, 3, none⟩ = some (.int .i64 (sn : Int)) ∧ MapIs w11 r lotEs 2 := ⟨by rw [b11.cell]; rfl, by rw [b11.cell]; rfl, by rw [b11.cell]; rfl, by rw [b11.cell]; rfl, q10.2.2.2.2.grown hg11 (own_map own10 q10.2.2.2.2)⟩))
        go_wp2
        all_goals
          have hB910 : Below W9.heap.size W9 (W9.alloc (.cells #[.slice A9 (celB (⟨xk, xv, (pn : Int), (sn : Int)⟩ : Cel)).length c9] 30)) := (Below.refl _ W9).alloc (Nat.le_refl _) _
          have hL11 := hL10.more (ownG_grow own9 hB910) (by rw [HLS.out]; exact own11) hg11
          obtain ⟨A11, c11, rfl, _⟩ := ownG_in own11 hL11.one
          exact ⟨⟨k + 1, A11, c11, _, by omega, by simp, rfl, by rw [HTK.out]; exact hL11, (hBr2.trans (hB10.mono hBr2.size)).trans (grown_below hg11 hbs (ownG_ge own10))⟩, by simp [intOf]; omega⟩
    · obtain rfl : k = cells.length := by omega
      rw [List.take_length] at hL
      have hBw : Below w.heap.size w wr := hB04.trans (hBr.mono hB04.size)
      have b5 : BlkIs wr w.heap.size 76 _ := b4.below hBr b4.lt
      have k2 : wr.cell? ⟨w.heap.size, 2, none⟩ = some (.slice Ak keys.length ck) := by rw [b5.cell]; rfl
      have hb4 := b4.lt
      go_wp2
      go_loopw [2, 39] (fun v i w2 => ∃ (k : Nat) (A : Option Addr) (c : Nat) (vs : List Value), k ≤ keys.length ∧ i = .int .i64 k ∧ v = .slice A (cells.length + k) c ∧ LotR w2 w4.heap.size (.slice A (cells.length + k) c) (cells.map celB ++ (List.range k).map (keyAt keys kids)) vs ∧ Below w4.heap.size w4 w2) (fun _ i _ => keys.length - (intOf i).toNat)
      case atStart => exact ⟨0, A, c, vs, by omega, rfl, rfl, by simpa using hL, hBr⟩
      case round =>
        obtain ⟨k, A, c, vs, hkl, rfl, rfl, hL, hBr⟩ := hrel
        by_cases hlt : k < keys.length
        · obtain ⟨hs81, n, hn, hk1, hkn⟩ := hkid k hlt
          obtain ⟨g, o, rfl, hg, _⟩ := hk.lies (by omega)
          obtain ⟨gi, oi, rfl, hgi, _⟩ := hi.lies (by omega)
          have d0 : wr.cell? ⟨g, o + k, none⟩ = some (.string keys[k]) := (hBr.cell (p := ⟨g, o + k, none⟩) (Nat.lt_of_lt_of_le hg hB04.size)).trans ((hB04.cell (p := ⟨g, o + k, none⟩) hg).trans (str_at hk rfl k hlt))
          have hS : ∀ W, Below w4.heap.size w4 W → W.cell? ⟨w.heap.size, 3, none⟩ = some (.slice (some ⟨gi, oi, none⟩) kids.length ci) ∧ W.cell? ⟨gi, oi + (k + 1), none⟩ = some (.int .i64 (n : Int)) := fun W hW => by
            refine ⟨?_, ?_⟩
            · have b := b4.below hW b4.lt
              rw [b.cell]
              rfl
            · rw [← hkn]
              exact (hW.cell (p := ⟨gi, oi + (k + 1), none⟩) (Nat.lt_of_lt_of_le hgi hB04.size)).trans ((hB04.cell (p := ⟨gi, oi + (k + 1), none⟩) hgi).trans (int_at hi rfl (k + 1) hk1))
          have hka : keyAt keys kids k = bytS keys[k] ++ num n := by
            unfold keyAt keyB
            rw [List.getD_eq_getElem?_getD, List.getElem?_eq_getElem hlt, List.getD_eq_getElem?_getD, List.getElem?_eq_getElem hk1, Option.getD_some, Option.getD_some, hkn]
            rfl
          have hrg : (List.range (k + 1)).map (keyAt keys kids) = (List.range k).map (keyAt keys kids) ++ [bytS keys[k] ++ num n] := by rw [List.range_succ, List.map_append, List.map_singleton, hka]
          have hlk : (cells.map celB ++ (List.range k).map (keyAt keys kids)).length = cells.length + k := by simp
          generalize keys[k] = s at *
          have HKB := bytS_length s
          have HNL := num_length n
          obtain ⟨kB, hkB⟩ : ∃ kB, kB = bytS s ++ num n := ⟨_, rfl⟩
          generalize hlsd : cells.map celB ++ (List.range k).map (keyAt keys kids) = ls at *
          have HTK : Hid (cells.map celB ++ (List.range (k + 1)).map (keyAt keys kids) = ls ++ [kB]) := Lib.hid (by rw [hrg, ← List.append_assoc, hlsd, hkB])
          have HLS := Lib.hid hlk
          have hwk : IntKind.i64.wrap ((k : Int) + 1) = (k : Int) + 1 := wrapN _ (by omega) (by omega)
          have hk0 : (0 : Int) ≤ (k : Int) + 1 := by omega
          have hk2 : (k : Int) + 1 < (kids.length : Int) := by omega
          have HCB : Hid ([bytS s, num n].flatten = kB) := Lib.hid (by rw [hkB]; simp)
          have hjl : kB.length ≤ 1000000000 := by rw [hkB, List.length_append]; omega
          have hBd := hBr.drew
          have qd := hS _ hBd
          have hwd : Below wr.heap.size wr wr.drew := (Below.refl _ wr).drew
          clear hka hrg hlk hlsd hkn HNL HKB hkB
          go_wp2
          go_region_held3 (fun W => W.cell? ⟨w.heap.size, 3, none⟩ = some (.slice (some ⟨gi, oi, none⟩) kids.length ci) ∧ W.cell? ⟨gi, oi + (k + 1), none⟩ = some (.int .i64 (n : Int))) (first | exact qd | exact q5 | exact q6 | exact q8 | exact q9 | exact q10 | exact q11) (first
            | (go_at_call 32; refine (ostr_gives _ s (by omega)).mono ?_; rintro e W5 ⟨v5, rfl, own5, hB5⟩; have hB05 := hwd.trans (hB5.mono hwd.size); have q5 := hS _ (hBr.trans (hB05.mono hBr.size)); obtain ⟨A5, c5, rfl, hin5⟩ := own5.inB)
            | (go_at_call 170; refine (number12_gives _ n (by omega)).mono ?_; rintro e W6 ⟨v6, rfl, own6, hB6⟩; have hB06 := hB05.trans (hB6.mono hB05.size); have q6 := hS _ (hBr.trans (hB06.mono hBr.size)); obtain ⟨A6, c6, rfl, hin6⟩ := own6.inB; have hB8 := hB06.alloc hB06.size (.cells #[.slice A5 (bytS s).length c5, .slice A6 (num n).length c6] 30); have q8 := hS _ (hBr.trans (hB8.mono hBr.size)))
            | (go_at_call 167; have HJ := join2 hin5 hin6 hB6 HCB.out hjl; refine HJ.mono ?_; rintro e W9 ⟨v9, rfl, own9, hB9⟩; have hB09 := hB8.trans (hB9.mono hB8.size); have q9 := hS _ (hBr.trans (hB09.mono hBr.size)); obtain ⟨A9, c9, rfl, hin9⟩ := own9.inB; have hB10 := hB09.alloc hB09.size (.cells #[.slice A9 kB.length c9] 30); have q10 := hS _ (hBr.trans (hB10.mono hBr.size)); have hL10 := hL.grow hB10; have own10 := hL10.own; rw [HLS.out] at own10; have hbs := Nat.le_trans hBr.size hB10.size)
            | (refine step_appG rfl elLists (.tmp 44) (.tmp 56) rfl w4.heap.size (.slice A (cells.length + k) c) (cells.length + k) vs rfl own10 _ _ 1 1 [.slice A9 kB.length c9] rfl (row_one W9 30 _ rfl) (by unfold maxLen; omega) (by omega) hbs ?_; intro v11 w11 own11 hg11; have hBf := (hBr.trans (hB10.mono hBr.size)).trans (grown_below hg11 hbs (ownG_ge own10)); have q11 := hS _ hBf))
          go_wp2
          have hB910 : Below W9.heap.size W9 (W9.alloc (.cells #[.slice A9 kB.length c9] 30)) := (Below.refl _ W9).alloc (Nat.le_refl _) _
          have hL11 := hL10.more (ownG_grow own9 hB910) (by rw [HLS.out]; exact own11) hg11
          obtain ⟨A11, c11, rfl, _⟩ := ownG_in own11 hL11.one
          exact ⟨⟨k + 1, A11, c11, _, by omega, by simp, by rw [Nat.add_assoc], by rw [HTK.out, ← Nat.add_assoc]; exact hL11, hBf⟩, by simp [intOf]; omega⟩
        · obtain rfl : k = keys.length := by omega
          go_wp2
          go_ret
          have hlk : (lotsB ⟨leaf, cells, keys, kids⟩).length = cells.length + keys.length := by simp [lotsB]
          have hle : w.heap.size ≤ w4.heap.size := hB04.size
          have hLb : LotR wr w.heap.size (.slice A (cells.length + keys.length) c) (lotsB ⟨leaf, cells, keys, kids⟩) vs := ⟨ownG_base hL.own hle, hL.one, hL.at_⟩
          exact ⟨A, c, vs, by rw [hlk]; rfl, by rw [hlk]; exact hLb, hB04.trans (hBr.mono hB04.size)⟩
end Go.Proofs.Ytlelckdcmlpmdaa
/- node.laid, of a node that may be. -/
namespace Go.Proofs.Ytlelckdcmlpmdaa
open Go Go.RowKit Lou

theorem pieces_of {w : World} {A : Option Addr} {c : Nat} {ls : List (List UInt8)} {vs : List Value} (h : InG w w.heap.size 1 A ls.length c vs) (hj : ∀ j, (h : j < ls.length) → ∃ A c, vs[j]? = some (.slice A ls[j].length c) ∧ InB w w.heap.size A c ls[j]) :
    ∃ zs : List (Piece w w.heap.size), zs.length = ls.length ∧ zs.map Piece.l = ls ∧ InLL w w.heap.size A c zs := by
  have key : ∀ n, n ≤ ls.length → ∃ zs : List (Piece w w.heap.size), zs.length = n ∧ zs.map Piece.l = ls.take n ∧ ∀ j (hj : j < zs.length), vs[j]? = some zs[j].val := by
    intro n
    induction n with
    | zero => exact fun _ => ⟨[], rfl, by simp, fun j hj => by simp at hj⟩
    | succ n ih =>
      intro hn
      obtain ⟨zs, h1, h2, h3⟩ := ih (by omega)
      obtain ⟨A, c, h4, h5⟩ := hj n (by omega)
      refine ⟨zs ++ [⟨((A, c), ls[n]), h5⟩], by simp [h1], ?_, fun j hj => ?_⟩
      · rw [List.map_append, h2, List.take_succ_eq_append_getElem (by omega)]
        rfl
      · by_cases e : j < zs.length
        · rw [List.getElem_append_left e]
          exact h3 j e
        · have : j = n := by simp at hj; omega
          subst this
          rw [List.getElem_append_right (by omega)]
          simp only [h1, Nat.sub_self, List.getElem_cons_zero]
          exact h4
  obtain ⟨zs, h1, h2, h3⟩ := key ls.length (Nat.le_refl _)
  refine ⟨zs, h1, by rw [h2, List.take_length], ⟨by rw [h1]; exact h.le, h.max, fun h0 => ?_⟩⟩
  obtain ⟨g, o, e, hg, hr⟩ := h.lies (by omega)
  exact ⟨g, o, e, hg, fun j hj => hr j _ (h3 j hj)⟩
theorem joinedR_gives {w : World} {base : Nat} {A : Option Addr} {c : Nat} {ls : List (List UInt8)} {vs : List Value} (h : LotR w base (.slice A ls.length c) ls vs) (hf : ls.flatten.length ≤ 1000000000) :
    Calls Try.prog 167 #[.slice A ls.length c] w (GivesB w ls.flatten) := by
  obtain ⟨A', c', e, hin⟩ := ownG_in h.own h.one
  injection e with e1 e2 e3
  subst e1 e3
  obtain ⟨zs, hz1, hz2, hI⟩ := pieces_of hin (fun j hj => by
    obtain ⟨A2, c2, e2, own⟩ := h.at_ j hj
    obtain ⟨A3, c3, e3, hin3⟩ := OwnB.inB own
    injection e3 with e31 e32 e33
    subst e31 e33
    exact ⟨A2, c2, e2, hin3⟩)
  have HC := concat_gives w A c zs hI (by rw [hz2]; exact hf)
  rw [hz1, hz2] at HC
  generalize ls.flatten = l at *
  go_enter Try.func167, Try.ntmps167
  go_wp2_with (go_at_call 142; refine HC.mono ?_; rintro e w2 ⟨v, rfl, own, hB⟩)
  go_ret
  exact ⟨v, rfl, own, hB⟩
theorem flat_bound (ls : List (List UInt8)) (m : Nat) (h : ∀ l ∈ ls, l.length ≤ m) : ls.flatten.length ≤ ls.length * m := by
  induction ls with
  | nil => simp
  | cons l ls ih =>
    have h1 := h l (by simp)
    have h2 := ih (fun x hx => h x (by simp [hx]))
    rw [List.flatten_cons, List.length_append, List.length_cons, Nat.add_mul]
    omega
/-- A node's bytes ahead of the noughts. -/
def laidB (x : Nod) : List UInt8 := (if x.leaf then 1 else 2) :: num (lotsB x).length ++ (if x.leaf then [] else num (x.kids.getD 0 0).toNat) ++ (lotsB x).flatten
theorem lots_each {x : Nod} (hR : RightP x) : ∀ l ∈ lotsB x, l.length ≤ 200 := by
  obtain ⟨leaf, cells, keys, kids⟩ := x
  intro l hl
  rcases List.mem_append.1 hl with hl | hl
  · obtain ⟨c, hc, rfl⟩ := List.mem_map.1 hl
    cases leaf with
    | true =>
      have hs := hR.short c.key (List.mem_map.2 ⟨c, hc, rfl⟩)
      exact celB_length (by unfold shortS at hs; simpa using hs) ((hR.leaf rfl).2.2 c hc)
    | false =>
      have e : cells = [] := (hR.inner rfl).1
      subst e
      cases hc
  · obtain ⟨j, hj, rfl⟩ := List.mem_map.1 hl
    have hj' : j < keys.length := by simpa using hj
    unfold keyB
    have h2 := num_length (kids.getD (j + 1) 0).toNat
    cases leaf with
    | true =>
      have e : keys = [] := (hR.leaf rfl).1
      subst e
      simp at hj'
    | false =>
      have hs := hR.short keys[j] (List.getElem_mem hj')
      have h1 := bytS_length keys[j]
      have e : keys.getD j ByteArray.empty = keys[j] := by rw [List.getD_eq_getElem?_getD, List.getElem?_eq_getElem hj']; rfl
      have hs' : keys[j].size ≤ 81 := by unfold shortS at hs; simpa using hs
      simp only
      rw [e, List.length_append]
      omega
end Go.Proofs.Ytlelckdcmlpmdaa
/- node: where a node is split, and its parts (no program in sight). -/
namespace Go.Proofs.Ytlelckdcmlpmdaa
open Go Go.RowKit Lou

theorem blt_refl : ∀ a : List UInt8, Op.bytesLess a a = false
  | [] => by simp [Op.bytesLess]
  | a :: x => by simp [Op.bytesLess, blt_refl x]
theorem blt_trans : ∀ a b c : List UInt8, Op.bytesLess a b = true → Op.bytesLess b c = true → Op.bytesLess a c = true
  | _, [], _, h, _ => by cases ‹List UInt8› <;> simp [Op.bytesLess] at h
  | _, b :: y, [], _, h => by simp [Op.bytesLess] at h
  | [], b :: y, c :: z, _, _ => by simp [Op.bytesLess]
  | a :: x, b :: y, c :: z, h1, h2 => by
    simp only [Op.bytesLess, Bool.or_eq_true, Bool.and_eq_true, decide_eq_true_eq, beq_iff_eq] at *
    rcases h1 with h1 | ⟨rfl, h1⟩
    · rcases h2 with h2 | ⟨rfl, h2⟩
      · exact .inl (UInt8.lt_trans h1 h2)
      · exact .inl h1
    · rcases h2 with h2 | ⟨rfl, h2⟩
      · exact .inl h2
      · exact .inr ⟨rfl, blt_trans x y z h1 h2⟩
theorem blt_tri : ∀ a b : List UInt8, Op.bytesLess b a = false → (b == a) = false → Op.bytesLess a b = true
  | [], [], _, h => by simp at h
  | [], _ :: _, _, _ => by simp [Op.bytesLess]
  | _ :: _, [], h, _ => by simp [Op.bytesLess] at h
  | a :: x, b :: y, h1, h2 => by
    simp only [Op.bytesLess, Bool.or_eq_true, Bool.and_eq_true, decide_eq_true_eq, beq_iff_eq, Bool.or_eq_false_iff, decide_eq_false_iff_not, Bool.and_eq_false_iff, beq_eq_false_iff_ne] at *
    by_cases e : b = a
    · subst e
      refine .inr ⟨rfl, blt_tri x y ?_ ?_⟩
      · rcases h1.2 with h | h
        · exact absurd rfl h
        · exact h
      · rw [beq_eq_false_iff_ne]
        intro e
        exact h2 (by rw [e])
    · left
      rcases Nat.lt_trichotomy a.toNat b.toNat with h | h | h
      · exact UInt8.lt_iff_toNat_lt.2 h
      · exact absurd (UInt8.toNat_inj.1 h).symm e
      · exact absurd (UInt8.lt_iff_toNat_lt.2 h) h1.1
theorem blt_asymm (a b : List UInt8) (h : Op.bytesLess a b = true) : Op.bytesLess b a = false := by
  cases e : Op.bytesLess b a with
  | false => rfl
  | true =>
    have := blt_trans a b a h e
    rw [blt_refl] at this
    cases this
theorem rises_lt {l : List ByteArray} (hs : SortedS l) (ha : ApartS l) : ∀ (d i : Nat) (h : i + 1 + d < l.length), ltS l[i] l[i + 1 + d] = true
  | 0, i, h => blt_tri _ _ (hs i h) (ha i h)
  | d + 1, i, h => blt_trans _ _ _ (rises_lt hs ha d i (by omega)) (blt_tri _ _ (hs (i + 1 + d) h) (ha (i + 1 + d) h))
theorem rises_lt' {l : List ByteArray} (hs : SortedS l) (ha : ApartS l) (i j : Nat) (hij : i < j) (hj : j < l.length) : ltS l[i] l[j] = true := by
  have := rises_lt hs ha (j - i - 1) i (by omega)
  have e : i + 1 + (j - i - 1) = j := by omega
  simp only [e] at this
  exact this
theorem sorted_take {l : List ByteArray} (hs : SortedS l) (k : Nat) : SortedS (l.take k) := fun j h => by
  rw [List.getElem_take, List.getElem_take]
  exact hs j (by simp at h; omega)
theorem apart_take {l : List ByteArray} (hs : ApartS l) (k : Nat) : ApartS (l.take k) := fun j h => by
  rw [List.getElem_take, List.getElem_take]
  exact hs j (by simp at h; omega)
theorem sorted_drop {l : List ByteArray} (hs : SortedS l) (k : Nat) : SortedS (l.drop k) := fun j h => by
  rw [List.getElem_drop, List.getElem_drop]
  exact hs (k + j) (by simp at h; omega)
theorem apart_drop {l : List ByteArray} (hs : ApartS l) (k : Nat) : ApartS (l.drop k) := fun j h => by
  rw [List.getElem_drop, List.getElem_drop]
  exact hs (k + j) (by simp at h; omega)
/-- Both parts of a node that is split; what parts them. -/
def leftN (x : Nod) (k : Nat) : Nod := if x.leaf then ⟨true, x.cells.take k, [], []⟩ else ⟨false, [], x.keys.take k, x.kids.take (k + 1)⟩
def rightN (x : Nod) (k : Nat) : Nod := if x.leaf then ⟨true, x.cells.drop k, [], []⟩ else ⟨false, [], x.keys.drop (k + 1), x.kids.drop (k + 1)⟩
def partN (x : Nod) (k : Nat) : ByteArray := (nkeys x).getD k ByteArray.empty
/-- How many lots there are. -/
def manyN (x : Nod) : Nat := if x.leaf then x.cells.length else x.keys.length
/-- Where a split may be at the latest. -/
def lastN (x : Nod) : Nat := if x.leaf then x.cells.length - 1 else x.keys.length - 2
def leastN (x : Nod) : Nat := if x.leaf then 2 else 3
theorem nkeys_left (x : Nod) (k : Nat) : nkeys (leftN x k) = (nkeys x).take k := by
  obtain ⟨leaf, cells, keys, kids⟩ := x
  cases leaf <;> simp [leftN, nkeys, List.map_take]
theorem nkeys_right (x : Nod) (k : Nat) : nkeys (rightN x k) = (nkeys x).drop (if x.leaf then k else k + 1) := by
  obtain ⟨leaf, cells, keys, kids⟩ := x
  cases leaf <;> simp [rightN, nkeys, List.map_drop]
theorem nkeys_many (x : Nod) : (nkeys x).length = manyN x := by
  obtain ⟨leaf, cells, keys, kids⟩ := x
  cases leaf <;> simp [manyN, nkeys]
theorem left_right {x : Nod} (hR : RightP x) {k : Nat} (h0 : 0 < k) (hk : k < manyN x) : RightP (leftN x k) := by
  refine ⟨?_, ?_, ?_, ?_, ?_⟩
  · rw [nkeys_left]; exact sorted_take hR.sorted k
  · rw [nkeys_left]; exact apart_take hR.apart k
  · rw [nkeys_left]; exact fun s hs => hR.short s (List.mem_of_mem_take hs)
  · intro e
    obtain ⟨leaf, cells, keys, kids⟩ := x
    cases leaf with
    | false => simp [leftN] at e
    | true => exact ⟨rfl, rfl, fun c hc => (hR.leaf rfl).2.2 c (List.mem_of_mem_take hc)⟩
  · intro e
    obtain ⟨leaf, cells, keys, kids⟩ := x
    cases leaf with
    | true => simp [leftN] at e
    | false =>
      obtain ⟨h1, h2, h3, h4⟩ := hR.inner rfl
      simp only [manyN, Bool.false_eq_true, if_false] at hk
      simp only at h3
      refine ⟨rfl, ?_, ?_, fun i hi => h4 i (List.mem_of_mem_take hi)⟩
      · simp only [leftN, Bool.false_eq_true, if_false, List.length_take]; omega
      · simp only [leftN, Bool.false_eq_true, if_false, List.length_take]; omega
theorem right_right {x : Nod} (hR : RightP x) {k : Nat} (hk : k ≤ lastN x) (hm : leastN x ≤ manyN x) : RightP (rightN x k) := by
  refine ⟨?_, ?_, ?_, ?_, ?_⟩
  · rw [nkeys_right]; exact sorted_drop hR.sorted _
  · rw [nkeys_right]; exact apart_drop hR.apart _
  · rw [nkeys_right]; exact fun s hs => hR.short s (List.mem_of_mem_drop hs)
  · intro e
    obtain ⟨leaf, cells, keys, kids⟩ := x
    cases leaf with
    | false => simp [rightN] at e
    | true => exact ⟨rfl, rfl, fun c hc => (hR.leaf rfl).2.2 c (List.mem_of_mem_drop hc)⟩
  · intro e
    obtain ⟨leaf, cells, keys, kids⟩ := x
    cases leaf with
    | true => simp [rightN] at e
    | false =>
      obtain ⟨h1, h2, h3, h4⟩ := hR.inner rfl
      simp only [lastN, manyN, leastN, Bool.false_eq_true, if_false] at hk hm
      simp only at h3
      refine ⟨rfl, ?_, ?_, fun i hi => h4 i (List.mem_of_mem_drop hi)⟩
      · simp only [rightN, Bool.false_eq_true, if_false, List.length_drop]; omega
      · simp only [rightN, Bool.false_eq_true, if_false, List.length_drop]; omega
theorem lots_left {x : Nod} (hR : RightP x) (k : Nat) (hk : k ≤ manyN x) : lotsB (leftN x k) = (lotsB x).take k := by
  obtain ⟨leaf, cells, keys, kids⟩ := x
  cases leaf with
  | true =>
    obtain ⟨h1, h2, h3⟩ := hR.leaf rfl
    simp only at h1
    subst h1
    simp [lotsB, leftN, List.map_take]
  | false =>
    obtain ⟨h1, h2, h3, h4⟩ := hR.inner rfl
    simp only at h1 h3
    subst h1
    simp only [manyN, Bool.false_eq_true, if_false] at hk
    refine List.ext_getElem (by simp [lotsB, leftN]) fun j hj1 hj2 => ?_
    have hjk : j < k := by simp at hj2; omega
    simp only [lotsB, leftN, Bool.false_eq_true, if_false, List.map_nil, List.nil_append, List.getElem_map, List.getElem_range, List.getElem_take]
    congr 1
    · simp [List.getD_eq_getElem?_getD, hjk]
    · simp [List.getD_eq_getElem?_getD, hjk]
theorem lots_right {x : Nod} (hR : RightP x) (k : Nat) : lotsB (rightN x k) = (lotsB x).drop (if x.leaf then k else k + 1) := by
  obtain ⟨leaf, cells, keys, kids⟩ := x
  cases leaf with
  | true =>
    obtain ⟨h1, h2, h3⟩ := hR.leaf rfl
    simp only at h1
    subst h1
    simp [lotsB, rightN, List.map_drop]
  | false =>
    obtain ⟨h1, h2, h3, h4⟩ := hR.inner rfl
    simp only at h1 h3
    subst h1
    refine List.ext_getElem (by simp [lotsB, rightN]) fun j hj1 hj2 => ?_
    simp only [lotsB, rightN, Bool.false_eq_true, if_false, List.map_nil, List.nil_append, List.getElem_map, List.getElem_range, List.getElem_drop]
    congr 1
    · simp [List.getD_eq_getElem?_getD]
    · simp [List.getD_eq_getElem?_getD, Nat.add_assoc]
theorem lots_many {x : Nod} (hR : RightP x) : (lotsB x).length = manyN x := by
  obtain ⟨leaf, cells, keys, kids⟩ := x
  cases leaf with
  | true =>
    have h1 : keys = [] := (hR.leaf rfl).1
    subst h1
    simp [lotsB, manyN]
  | false =>
    have h1 : cells = [] := (hR.inner rfl).1
    subst h1
    simp [lotsB, manyN]
/-- The length of the first k lots. -/
def sumTo (ls : List (List UInt8)) (k : Nat) : Nat := (ls.take k).flatten.length
theorem sumTo_next (ls : List (List UInt8)) (k : Nat) (h : k < ls.length) : sumTo ls (k + 1) = sumTo ls k + ls[k].length := by
  unfold sumTo
  rw [List.take_succ_eq_append_getElem h, List.flatten_append, List.length_append, List.flatten_cons, List.flatten_nil, List.append_nil]
theorem sumTo_rest (ls : List (List UInt8)) (k : Nat) : sumTo ls k + (ls.drop k).flatten.length = ls.flatten.length := by
  unfold sumTo
  rw [← List.length_append, ← List.flatten_append, List.take_append_drop]
/-- Where a node is split. -/
structure HalfAt (ls : List (List UInt8)) (last k : Nat) : Prop where
  le : k ≤ last
  low : ∀ j, j < k → 2 * sumTo ls j ≤ ls.flatten.length
  high : k = last ∨ ls.flatten.length < 2 * sumTo ls k
theorem HalfAt.pos {ls : List (List UInt8)} {last k : Nat} (h : HalfAt ls last k) (h0 : 0 < last) : 0 < k := by
  rcases Nat.eq_zero_or_pos k with e | e
  · subst e
    rcases h.high with h1 | h1
    · omega
    · simp [sumTo] at h1
  · exact e
theorem laid_length (x : Nod) : (lotsB x).flatten.length + 1 ≤ (laidB x).length ∧ (laidB x).length ≤ (lotsB x).flatten.length + 21 := by
  unfold laidB
  have h1 := num_length (lotsB x).length
  have h2 := num_length (x.kids.getD 0 0).toNat
  generalize num (lotsB x).length = a at *
  generalize num (x.kids.getD 0 0).toNat = b at *
  generalize (lotsB x).flatten = c at *
  simp only [List.length_append, List.length_cons]
  split <;> (try simp only [List.length_nil]) <;> omega
theorem key_size {x : Nod} (hR : RightP x) (hl : x.leaf = false) : ∀ l ∈ lotsB x, l.length ≤ 101 := by
  obtain ⟨leaf, cells, keys, kids⟩ := x
  simp only at hl
  subst hl
  have h1 : cells = [] := (hR.inner rfl).1
  subst h1
  intro l hl
  simp only [lotsB, List.map_nil, List.nil_append, List.mem_map, List.mem_range] at hl
  obtain ⟨j, hj, rfl⟩ := hl
  have hs := hR.short (keys.getD j ByteArray.empty) (by
    rw [List.getD_eq_getElem?_getD, List.getElem?_eq_getElem hj]
    exact List.getElem_mem hj)
  unfold shortS at hs
  simp only [decide_eq_true_eq] at hs
  unfold keyB
  have q1 := bytS_length (keys.getD j ByteArray.empty)
  have q2 := num_length (kids.getD (j + 1) 0).toNat
  rw [List.length_append]
  omega
/-- P12.4: both parts fit. -/
theorem half_fits {x : Nod} (hR : RightP x) {k : Nat} (hh : HalfAt (lotsB x) (lastN x) k) (hm : leastN x ≤ manyN x) (hall : (laidB x).length ≤ 656) (hc : x.leaf = true → ∀ c ∈ x.cells, (laidB ⟨true, [c], [], []⟩).length ≤ 146) :
    (laidB (leftN x k)).length ≤ 512 ∧ (laidB (rightN x k)).length ≤ 512 := by
  have hmany := lots_many hR
  have hlast : 0 < lastN x ∧ lastN x < manyN x := by
    unfold lastN leastN manyN at *
    cases hx : x.leaf <;> simp [hx] at hm ⊢ <;> omega
  have hk0 := hh.pos hlast.1
  have hkm : k < manyN x := by have := hh.le; omega
  have h1 := laid_length x
  have h2 := laid_length (leftN x k)
  have h3 := laid_length (rightN x k)
  rw [lots_left hR k (by omega)] at h2
  rw [lots_right hR k] at h3
  have hlow := hh.low (k - 1) (by omega)
  have hn := sumTo_next (lotsB x) (k - 1) (by omega)
  rw [show k - 1 + 1 = k from by omega] at hn
  have hle : ∀ l ∈ lotsB x, l.length ≤ 145 := by
    intro l hl
    cases hx : x.leaf with
    | false => have := key_size hR hx l hl; omega
    | true =>
      have hk : x.keys = [] := (hR.leaf hx).1
      unfold lotsB at hl
      rw [hk] at hl
      simp only [List.length_nil, List.range_zero, List.map_nil, List.append_nil, List.mem_map] at hl
      obtain ⟨c, hcm, rfl⟩ := hl
      have q1 := hc hx c hcm
      have q2 := (laid_length ⟨true, [c], [], []⟩).1
      have e : (lotsB ⟨true, [c], [], []⟩).flatten = celB c := by simp [lotsB]
      rw [e] at q2
      omega
  have hk1 := hle (lotsB x)[k - 1] (List.getElem_mem _)
  have hr := sumTo_rest (lotsB x) k
  have e2 : ((lotsB x).take k).flatten.length = sumTo (lotsB x) k := rfl
  refine ⟨by omega, ?_⟩
  rcases hh.high with e | e
  · cases hx : x.leaf with
    | true =>
      rw [hx] at h3
      simp only [if_true] at h3
      have hlen : ((lotsB x).drop k).length ≤ 1 := by
        rw [List.length_drop, hmany, e]
        unfold lastN manyN
        rw [hx]
        simp
        omega
      have := flat_bound ((lotsB x).drop k) 145 (fun l hl => hle l (List.mem_of_mem_drop hl))
      omega
    | false =>
      rw [hx] at h3
      simp only [Bool.false_eq_true, if_false] at h3
      have hlen : ((lotsB x).drop (k + 1)).length ≤ 1 := by
        rw [List.length_drop, hmany, e]
        unfold lastN manyN
        rw [hx]
        simp
        omega
      have := flat_bound ((lotsB x).drop (k + 1)) 145 (fun l hl => hle l (List.mem_of_mem_drop hl))
      omega
  · cases hx : x.leaf with
    | true =>
      rw [hx] at h3
      simp only [if_true] at h3
      omega
    | false =>
      rw [hx] at h3
      simp only [Bool.false_eq_true, if_false] at h3
      have hr2 := sumTo_rest (lotsB x) (k + 1)
      have hn2 := sumTo_next (lotsB x) k (by omega)
      omega
theorem partN_eq {x : Nod} {k : Nat} (hk : k < (nkeys x).length) : partN x k = (nkeys x)[k] := by
  unfold partN
  rw [List.getD_eq_getElem?_getD, List.getElem?_eq_getElem hk]
  rfl
/-- The keys of both parts, with what parts them, are the node's. -/
theorem keys_join {x : Nod} {k : Nat} (hk : k < manyN x) : nkeys (leftN x k) ++ ((if x.leaf then [] else [partN x k]) ++ nkeys (rightN x k)) = nkeys x := by
  have hk2 : k < (nkeys x).length := by rw [nkeys_many]; exact hk
  rw [nkeys_left, nkeys_right, partN_eq hk2]
  generalize nkeys x = ks at *
  cases x.leaf with
  | true => simp
  | false =>
    simp only [Bool.false_eq_true, if_false, List.singleton_append]
    rw [← List.drop_eq_getElem_cons hk2, List.take_append_drop]
theorem left_less {x : Nod} (hR : RightP x) {k : Nat} (hk : k < manyN x) (i : Nat) (hi : i < (nkeys (leftN x k)).length) : ltS (nkeys (leftN x k))[i] (partN x k) = true := by
  have hk2 : k < (nkeys x).length := by rw [nkeys_many]; exact hk
  rw [partN_eq hk2]
  simp only [nkeys_left] at hi ⊢
  rw [List.getElem_take]
  simp at hi
  exact rises_lt' hR.sorted hR.apart i k (by omega) hk2
theorem drop_more {l : List ByteArray} (hs : SortedS l) (ha : ApartS l) (k m i : Nat) (hk : k < l.length) (hkm : k ≤ m) (hi : i < (l.drop m).length) : ltS (l.drop m)[i] l[k] = false := by
  rw [List.getElem_drop]
  rw [List.length_drop] at hi
  by_cases e : m + i = k
  · simp only [e]
    exact blt_refl _
  · exact blt_asymm _ _ (rises_lt' hs ha k (m + i) (by omega) (by omega))
theorem right_more {x : Nod} (hR : RightP x) {k : Nat} (hk : k < manyN x) (i : Nat) (hi : i < (nkeys (rightN x k)).length) : ltS (nkeys (rightN x k))[i] (partN x k) = false := by
  have hk2 : k < (nkeys x).length := by rw [nkeys_many]; exact hk
  rw [partN_eq hk2]
  simp only [nkeys_right] at hi ⊢
  exact drop_more hR.sorted hR.apart k _ i hk2 (by split <;> omega) hi
/-- How many cells and kids both parts have. -/
theorem many_join {x : Nod} (hR : RightP x) {k : Nat} (hk : k < manyN x) : (leftN x k).cells.length + (rightN x k).cells.length = x.cells.length ∧ (leftN x k).kids.length + (rightN x k).kids.length = x.kids.length := by
  obtain ⟨leaf, cells, keys, kids⟩ := x
  cases leaf with
  | true =>
    have h2 : kids = [] := (hR.leaf rfl).2.1
    subst h2
    simp [leftN, rightN, manyN] at hk ⊢
    omega
  | false =>
    have h1 : cells = [] := (hR.inner rfl).1
    have h3 : kids.length = keys.length + 1 := (hR.inner rfl).2.2.1
    subst h1
    simp [leftN, rightN, manyN] at hk ⊢
    omega
end Go.Proofs.Ytlelckdcmlpmdaa
/- node: how nodes are read of bytes (no program in sight). -/
namespace Go.Proofs.Ytlelckdcmlpmdaa
open Go Go.RowKit Lou

/-- A number's and a text's reading, from the front of bytes; what is left. -/
def rdN12 (l : List UInt8) : Option (Nat × List UInt8) :=
  match rd l with
  | some (n, k) => if n ≤ 100000 then some (n, l.drop k) else none
  | none => none
def rdT12 (l : List UInt8) : Option (ByteArray × List UInt8) :=
  match rdS l with
  | some (s, k) => some (str s, l.drop k)
  | none => none
/-- A cell's; a key's, with the kid behind it. -/
def rdCel (l : List UInt8) : Option (Cel × List UInt8) :=
  match rdT12 l with
  | none => none
  | some (s, r) =>
    match rdN12 r with
    | none => none
    | some (p, r2) =>
      if p = 0 then
        match rdT12 r2 with
        | none => none
        | some (v, r3) => some (⟨s, v, 0, 0⟩, r3)
      else
        match rdN12 r2 with
        | none => none
        | some (z, r3) => some (⟨s, ByteArray.empty, p, z⟩, r3)
def rdKey (l : List UInt8) : Option ((ByteArray × Int) × List UInt8) :=
  match rdT12 l with
  | none => none
  | some (s, r) =>
    match rdN12 r with
    | none => none
    | some (p, r2) => some ((s, (p : Int)), r2)
/-- So many of them. -/
def rdMany {α : Type} (f : List UInt8 → Option (α × List UInt8)) : Nat → List UInt8 → Option (List α × List UInt8)
  | 0, l => some ([], l)
  | k + 1, l =>
    match f l with
    | none => none
    | some (c, r) =>
      match rdMany f k r with
      | none => none
      | some (cs, r2) => some (c :: cs, r2)
theorem rdMany_next {α : Type} (f : List UInt8 → Option (α × List UInt8)) : ∀ (k : Nat) (l0 : List UInt8) (cs : List α) (l : List UInt8) (c : α) (r : List UInt8), rdMany f k l0 = some (cs, l) → f l = some (c, r) → rdMany f (k + 1) l0 = some (cs ++ [c], r)
  | 0, l0, cs, l, c, r, h, hf => by
    simp only [rdMany, Option.some.injEq, Prod.mk.injEq] at h
    obtain ⟨rfl, rfl⟩ := h
    simp [rdMany, hf]
  | k + 1, l0, cs, l, c, r, h, hf => by
    rw [rdMany] at h ⊢
    cases e1 : f l0 with
    | none => rw [e1] at h; cases h
    | some y =>
      obtain ⟨c1, r1⟩ := y
      rw [e1] at h
      simp only at h ⊢
      cases e2 : rdMany f k r1 with
      | none => rw [e2] at h; cases h
      | some z =>
        obtain ⟨cs1, r2⟩ := z
        rw [e2] at h
        simp only [Option.some.injEq, Prod.mk.injEq] at h
        obtain ⟨rfl, rfl⟩ := h
        rw [rdMany_next f k r1 cs1 r2 c r e2 hf]
        rfl
theorem rdMany_stop {α : Type} (f : List UInt8 → Option (α × List UInt8)) (l0 : List UInt8) (cs : List α) (l : List UInt8) (k : Nat) (h : rdMany f k l0 = some (cs, l)) (hf : f l = none) : ∀ d, rdMany f (k + 1 + d) l0 = none := by
  intro d
  induction k generalizing l0 cs with
  | zero =>
    simp only [rdMany, Option.some.injEq, Prod.mk.injEq] at h
    obtain ⟨rfl, rfl⟩ := h
    rw [show 0 + 1 + d = d + 1 from by omega, rdMany, hf]
  | succ k ih =>
    rw [show k + 1 + 1 + d = (k + 1 + d) + 1 from by omega, rdMany]
    rw [rdMany] at h
    cases e1 : f l0 with
    | none => rfl
    | some y =>
      obtain ⟨c1, r1⟩ := y
      rw [e1] at h
      simp only at h ⊢
      cases e2 : rdMany f k r1 with
      | none => rw [e2] at h; cases h
      | some z =>
        obtain ⟨cs1, r2⟩ := z
        rw [e2] at h
        simp only [Option.some.injEq, Prod.mk.injEq] at h
        obtain ⟨rfl, rfl⟩ := h
        rw [ih r1 cs1 e2]
theorem rdMany_length {α : Type} (f : List UInt8 → Option (α × List UInt8)) : ∀ (k : Nat) (l0 : List UInt8) (cs : List α) (l : List UInt8), rdMany f k l0 = some (cs, l) → cs.length = k
  | 0, l0, cs, l, h => by
    simp only [rdMany, Option.some.injEq, Prod.mk.injEq] at h
    rw [← h.1]
    rfl
  | k + 1, l0, cs, l, h => by
    rw [rdMany] at h
    cases e1 : f l0 with
    | none => rw [e1] at h; cases h
    | some y =>
      obtain ⟨c1, r1⟩ := y
      rw [e1] at h
      simp only at h
      cases e2 : rdMany f k r1 with
      | none => rw [e2] at h; cases h
      | some z =>
        obtain ⟨cs1, r2⟩ := z
        rw [e2] at h
        simp only [Option.some.injEq, Prod.mk.injEq] at h
        rw [← h.1, List.length_cons, rdMany_length f k r1 cs1 r2 e2]
/-- Each reading takes a byte, at the least. -/
theorem rdN12_less {l r : List UInt8} {n : Nat} (h : rdN12 l = some (n, r)) : r.length < l.length ∧ n ≤ 100000 := by
  unfold rdN12 at h
  cases e : rd l with
  | none => rw [e] at h; cases h
  | some y =>
    obtain ⟨m, k⟩ := y
    rw [e] at h
    simp only at h
    have hb := rd_bound e
    split at h
    · simp only [Option.some.injEq, Prod.mk.injEq] at h
      obtain ⟨rfl, rfl⟩ := h
      rw [List.length_drop]
      omega
    · cases h
theorem rdT12_less {l r : List UInt8} {s : ByteArray} (h : rdT12 l = some (s, r)) : r.length < l.length := by
  unfold rdT12 rdS at h
  cases e : rd l with
  | none => rw [e] at h; cases h
  | some y =>
    obtain ⟨m, k⟩ := y
    rw [e] at h
    simp only at h
    have hb := rd_bound e
    split at h
    · rename_i h2
      split at h2
      · simp only [Option.some.injEq, Prod.mk.injEq] at h h2
        obtain ⟨rfl, rfl⟩ := h
        obtain ⟨_, h2⟩ := h2
        rw [List.length_drop]
        omega
      · cases h2
    · cases h
theorem rdCel_less {l r : List UInt8} {c : Cel} (h : rdCel l = some (c, r)) : r.length < l.length := by
  unfold rdCel at h
  cases e : rdT12 l with
  | none => rw [e] at h; cases h
  | some y =>
    obtain ⟨s, r1⟩ := y
    rw [e] at h
    simp only at h
    have h1 := rdT12_less e
    cases e2 : rdN12 r1 with
    | none => rw [e2] at h; cases h
    | some z =>
      obtain ⟨p, r2⟩ := z
      rw [e2] at h
      simp only at h
      have h2 := rdN12_less e2
      split at h
      · cases e3 : rdT12 r2 with
        | none => rw [e3] at h; cases h
        | some u =>
          obtain ⟨v, r3⟩ := u
          rw [e3] at h
          simp only [Option.some.injEq, Prod.mk.injEq] at h
          have h3 := rdT12_less e3
          rw [← h.2]
          omega
      · cases e3 : rdN12 r2 with
        | none => rw [e3] at h; cases h
        | some u =>
          obtain ⟨v, r3⟩ := u
          rw [e3] at h
          simp only [Option.some.injEq, Prod.mk.injEq] at h
          have h3 := rdN12_less e3
          rw [← h.2]
          omega
theorem rdKey_less {l r : List UInt8} {c : ByteArray × Int} (h : rdKey l = some (c, r)) : r.length < l.length := by
  unfold rdKey at h
  cases e : rdT12 l with
  | none => rw [e] at h; cases h
  | some y =>
    obtain ⟨s, r1⟩ := y
    rw [e] at h
    simp only at h
    have h1 := rdT12_less e
    cases e2 : rdN12 r1 with
    | none => rw [e2] at h; cases h
    | some z =>
      obtain ⟨p, r2⟩ := z
      rw [e2] at h
      simp only [Option.some.injEq, Prod.mk.injEq] at h
      have h2 := rdN12_less e2
      rw [← h.2]
      omega
theorem rdMany_less {α : Type} {f : List UInt8 → Option (α × List UInt8)} (hf : ∀ l c r, f l = some (c, r) → r.length < l.length) : ∀ (k : Nat) (l0 : List UInt8) (cs : List α) (l : List UInt8), rdMany f k l0 = some (cs, l) → cs.length + l.length ≤ l0.length
  | 0, l0, cs, l, h => by
    simp only [rdMany, Option.some.injEq, Prod.mk.injEq] at h
    rw [← h.1, ← h.2]
    simp
  | k + 1, l0, cs, l, h => by
    rw [rdMany] at h
    cases e1 : f l0 with
    | none => rw [e1] at h; cases h
    | some y =>
      obtain ⟨c1, r1⟩ := y
      rw [e1] at h
      simp only at h
      cases e2 : rdMany f k r1 with
      | none => rw [e2] at h; cases h
      | some z =>
        obtain ⟨cs1, r2⟩ := z
        rw [e2] at h
        simp only [Option.some.injEq, Prod.mk.injEq] at h
        have h1 := hf _ _ _ e1
        have h2 := rdMany_less hf k r1 cs1 r2 e2
        rw [← h.1, ← h.2, List.length_cons]
        omega
/-- What stands behind a node's first number. -/
def rdRest (leaf : Bool) (l : List UInt8) : Option Nod :=
  match rdN12 l with
  | none => none
  | some (many, r) =>
    if leaf then
      match rdMany rdCel many r with
      | none => none
      | some (cs, _) => some ⟨true, cs, [], []⟩
    else
      match rdN12 r with
      | none => none
      | some (kid, r2) =>
        match rdMany rdKey many r2 with
        | none => none
        | some (ks, _) => some ⟨false, [], ks.map (·.1), (kid : Int) :: ks.map (·.2)⟩
/-- The node of bytes, by its first number. -/
def rdNod (b : List UInt8) : Option Nod :=
  match rdN12 b with
  | none => none
  | some (f, r) => if f = 1 then rdRest true r else if f = 2 then rdRest false r else none
/-- The bytes are those that the node would be laid as. -/
def FitsIn (x : Nod) (b : List UInt8) : Prop := RightP x ∧ (laidB x).length ≤ 512 ∧ laidB x ++ List.replicate (512 - (laidB x).length) 0 = b
theorem FitsIn.head {x : Nod} {b : List UInt8} (h : FitsIn x b) : b.head? = some (if x.leaf then 1 else 2) := by
  rw [← h.2.2]
  unfold laidB
  rfl
theorem rd_small (c : UInt8) (r : List UInt8) (h : c.toNat < 128) : rdN12 (c :: r) = some (c.toNat, r) := by
  have e : rd (c :: r) = some (c.toNat, 1) := by
    unfold rd rdF
    have h1 : ¬ 128 ≤ c.toNat := by omega
    simp [h1, Nat.mod_eq_of_lt h]
  unfold rdN12
  rw [e]
  simp only
  rw [if_pos (by omega)]
  rfl
/-- By the first byte, as the document does it: the same, where the bytes are the node's. -/
theorem rdNod_head {b : List UInt8} {x : Nod} (hf : FitsIn x b) : rdNod b = rdRest x.leaf (b.drop 1) := by
  have hh := hf.head
  cases b with
  | nil => cases hh
  | cons c r =>
    simp only [List.head?_cons, Option.some.injEq] at hh
    subst hh
    unfold rdNod
    cases x.leaf with
    | true => rw [rd_small _ _ (by decide)]; rfl
    | false => rw [rd_small _ _ (by decide)]; rfl
end Go.Proofs.Ytlelckdcmlpmdaa
