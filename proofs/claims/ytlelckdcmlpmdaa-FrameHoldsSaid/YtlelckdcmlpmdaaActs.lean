/- Regions that draw their order, in the midst of a walk: the slots that the region doesn't write keep their values. -/
import Derived.Test.YtlelckdcmlpmdaaFacts
namespace Go.Proofs.Ytlelckdcmlpmdaa
open Go Go.RowKit Lou
namespace Reg

theorem OpOk.mono {P : Program} {ops : Array Oper} {FS FS' : Tmp → Value → World → Prop} {w0 : World} {o : Oper} (h : OpOk P ops FS w0 o) (h1 : ∀ t v w, FS' t v w → FS t v w) (h2 : ∀ d v w, o.dst = some d → FS d v w → FS' d v w) : OpOk P ops FS' w0 o := by
  intro a w K Q hG hl hK
  refine h a w K Q hG (fun t ht => h1 _ _ _ (hl t ht)) (fun v w' hg hf => hK v w' hg ?_)
  cases hd : o.dst with
  | none => trivial
  | some d =>
    rw [hd] at hf
    exact h2 d v w' hd hf
theorem AllOk.mono {P : Program} {ops : Array Oper} {FS FS' : Tmp → Value → World → Prop} {w0 : World} (h1 : ∀ t v w, FS' t v w → FS t v w) : ∀ {l : List Oper}, (∀ o ∈ l, ∀ d v w, o.dst = some d → FS d v w → FS' d v w) → AllOk P ops FS w0 l → AllOk P ops FS' w0 l
  | [], _, _ => trivial
  | o :: r, h2, h => ⟨h.1.mono h1 (h2 o (List.mem_cons_self ..)), h.2.mono h1 fun o ho => h2 o (List.mem_cons_of_mem _ ho)⟩

def dstsAre (ops : Array Oper) (D : List Nat) : Bool := ops.toList.all fun o => match o.dst with | some d => D.contains d | none => true

/-- As region_facts; what the region doesn't write keeps its value. -/
theorem region_acts {P : Program} {ops : Array Oper} (hm : P.follows .mixedOrders = true) (hcov : covered ops = true) {id : Nat} {a0 : Act} {w0 : World} {Q : Exit → Act → World → Prop} (n : Nat) (hn : a0.tmps.size = n)
    (hdst : dstsIn ops n = true) (D : List Nat) (hD : dstsAre ops D = true) (V W : List (Nat × Fact)) (hV : StartOk a0 w0 V) (hW : (W.all fun p => written ops p.1) = true)
    (hok : AllOk P ops (FSof (V ++ W)) w0 ops.toList)
    (hend : ∀ a w, a.tmps.size = n → a.defers = a0.defers → Grow w0 w → (∀ t, FSof (V ++ W) t (a.eval (.tmp t)) w) → (∀ t, D.contains t = false → a.eval (.tmp t) = a0.eval (.tmp t)) → Q .normal a w) :
    (Code.region id ops true).wp P Q a0 w0 := by
  have hD' : ∀ o ∈ ops.toList, ∀ d, o.dst = some d → D.contains d = true := by
    intro o ho d hd
    unfold dstsAre at hD
    rw [List.all_eq_true] at hD
    have := hD o ho
    simpa [hd] using this
  refine region hm hcov n hn ?_ (fun t v w => FSof (V ++ W) t v w ∧ (D.contains t = false → v = a0.eval (.tmp t))) (fun t v w w' h hg => ⟨FSof.stable _ _ _ _ _ h.1 hg, h.2⟩) (fun t ht => ⟨start_fact V W hV hW t ht, fun _ => rfl⟩)
    (AllOk.mono (fun _ _ _ h => h.1) (fun o ho d v w hd h => ⟨h, fun hn => by rw [hD' o ho d hd] at hn; cases hn⟩) hok) ?_
  · intro o ho d hd
    unfold dstsIn at hdst
    rw [List.all_eq_true] at hdst
    have := hdst o ho
    simpa [hd] using this
  · intro a w h1 h2 h3 h4
    exact hend a w h1 h2 h3 (fun t => (h4 t).1) (fun t => (h4 t).2)

/-- An act out of another by the slots that differ. -/
theorem acts_eq {a a0 : Act} : ∀ (D : List Nat), a.tmps.size = a0.tmps.size → a.defers = a0.defers → (∀ t, D.contains t = false → a.eval (.tmp t) = a0.eval (.tmp t)) → a = D.foldl (fun x d => x.put (some d) (a.eval (.tmp d))) a0 := by
  have size_put : ∀ (x : Act) d v, (x.put (some d) v).tmps.size = x.tmps.size := by intro x d v; simp [Act.put]
  have key : ∀ (D : List Nat) (b : Act), a.tmps.size = b.tmps.size → a.defers = b.defers → (∀ t, D.contains t = false → a.eval (.tmp t) = b.eval (.tmp t)) → a = D.foldl (fun x d => x.put (some d) (a.eval (.tmp d))) b := by
    intro D
    induction D with
    | nil =>
      intro b hs hd h
      have : a.tmps = b.tmps := by
        apply Array.ext hs
        intro i h1 h2
        have := h i rfl
        simpa [Act.eval, Array.getD, h1, h2] using this
      cases a; cases b; simp_all
    | cons d r ih =>
      intro b hs hd h
      rw [List.foldl_cons]
      refine ih _ (by rw [size_put]; exact hs) (by simp [Act.put, hd]) ?_
      intro t ht
      by_cases e : t = d
      · subst e
        by_cases hlt : t < b.tmps.size
        · rw [eval_put_same hlt]
        · have h1 : ¬ t < a.tmps.size := by omega
          simp [Act.put, Act.eval, Array.getD_eq_getD_getElem?, h1, hlt]
      · rw [eval_put_other e]
        exact h t (by simp only [List.contains_cons, Bool.or_eq_false_iff]; exact ⟨by simpa using e, ht⟩)
  exact fun D => key D a0

/-- What a region leaves: the slots of D may differ; F holds. -/
def Left (D : List Nat) (F : Act → World → Prop) (a0 : Act) (w0 : World) (a : Act) (w : World) : Prop := a.tmps.size = a0.tmps.size ∧ a.defers = a0.defers ∧ Grow w0 w ∧ F a w ∧ ∀ t, D.contains t = false → a.eval (.tmp t) = a0.eval (.tmp t)
/-- A stop between a region and what follows. -/
theorem by_stop {P : Program} {C : Code} {Q : Exit → Act → World → Prop} {a0 : Act} {w0 : World} (D : List Nat) (F : Act → World → Prop) (h1 : ∀ Q', (∀ a w, Left D F a0 w0 a w → Q' .normal a w) → C.wp P Q' a0 w0) (h2 : ∀ a w, Left D F a0 w0 a w → Q .normal a w) : C.wp P Q a0 w0 := h1 Q h2

section lists
variable {L : List (Nat × Fact)} {ops : Array Oper} {w0 : World} {o : Oper} {P : Program}
theorem okg_not (j : Nat) (want : Bool) (d : Tmp) (hg : o.guard = some (j, want)) (hd : (ops[j]?).bind (·.dst) = some d) (hl : (o.looksAt ops).contains d = true) (hF : factOf L d = .val (.bool !want)) (hD : FD L o.dst = .any) : OpOk P ops (FSof L) w0 o := by
  intro a w K Q hG hlk hK
  have h' : (factOf L d).holds (a.eval (.tmp d)) w := hlk d hl
  rw [hF] at h'
  have e : a.eval (.tmp d) = .bool !want := h'
  have hw : Region.wanted o (yielded ops a.tmps) = false := by
    have h2 : a.tmps[d]? = some (.bool !want) := by
      replace e : a.tmps.getD d undef = .bool !want := e
      rw [Array.getD_eq_getD_getElem?] at e
      cases hx : a.tmps[d]? with
      | none => rw [hx] at e; cases e
      | some x => rw [hx] at e; simpa using e
    cases want <;> simp [Region.wanted, hg, yielded, hd, h2]
  rw [if_neg (by simp [hw])]
  exact hK undef w (Grow.refl w) (fsd hD trivial)
theorem l_pickF (x y z : Operand) (r : Value) (ho : o.op = .pick x y z) (hx : Has ops (FSof L) o x (.bool false)) (hz : Has ops (FSof L) o z r) (hd : FD L o.dst = .val r) : RunOk P ops (FSof L) w0 o :=
  run2 x z hx hz (fun ρ w h1 h2 => by simp [execOp, ho, h1, h2, asBool, Result.andThen]) fun _ => fsd hd rfl
theorem l_pickT (x y z : Operand) (r : Value) (ho : o.op = .pick x y z) (hx : Has ops (FSof L) o x (.bool true)) (hy : Has ops (FSof L) o y r) (hd : FD L o.dst = .val r) : RunOk P ops (FSof L) w0 o :=
  run2 x y hx hy (fun ρ w h1 h2 => by simp [execOp, ho, h1, h2, asBool, Result.andThen]) fun _ => fsd hd rfl
theorem l_eqsG (x y : Operand) (T T' : TypeId) (s u : ByteArray) (ho : o.op = .binOp .eql T x y T') (hx : Has ops (FSof L) o x (.string s)) (hy : Has ops (FSof L) o y (.string u)) (hd : FD L o.dst = .val (.bool (s.toList == u.toList))) : RunOk P ops (FSof L) w0 o :=
  run2 x y hx hy (fun ρ w h1 h2 => by simp [execOp, ho, h1, h2, go_sem, Result.andThen]) fun _ => fsd hd rfl
theorem l_leq (x y : Operand) (T T' : TypeId) (k : IntKind) (m n : Int) (ho : o.op = .binOp .leq T x y T') (hx : Has ops (FSof L) o x (.int k m)) (hy : Has ops (FSof L) o y (.int k n)) (b : Bool) (hb : decide (m ≤ n) = b) (hd : FD L o.dst = .val (.bool b)) : RunOk P ops (FSof L) w0 o :=
  run2 x y hx hy (fun ρ w h1 h2 => by subst hb; simp [execOp, ho, h1, h2, go_sem, Result.andThen]) fun _ => fsd hd rfl
theorem l_load (x : Operand) (p : Addr) (T : TypeId) (v : Value) (hagg : ∀ w : World, (isAgg T).run P w = .ok false w) (ho : o.op = .load T x) (hx : Has ops (FSof L) o x (.pointer (some p))) (hcell : ∀ w, Grow w0 w → w.cell? p = some v) (hd : FD L o.dst = .val v) : RunOk P ops (FSof L) w0 o := by
  refine l_run1W x (.val v) _ hx (fun ρ w hg h => ⟨v, w, ?_, Grow.refl _, rfl⟩) hd
  have hc := hcell w hg
  simp [execOp, ho, h, go_sem, hagg, hc, Result.andThen]
theorem l_idx (x y : Operand) (p : Addr) (T e : TypeId) (n k : Nat) (hT : P.underlying T = some (.array n e)) (hk : k < n) (hs : ∀ w : World, (sizeOf e).run P w = .ok 1 w) (ho : o.op = .indexAddr T x y) (hx : Has ops (FSof L) o x (.pointer (some p))) (hy : Has ops (FSof L) o y (.int .i64 (k : Int))) (hd : FD L o.dst = .val (.pointer (some (p.add k)))) : RunOk P ops (FSof L) w0 o := by
  refine run2 x y hx hy (fun ρ w h1 h2 => ?_) fun _ => fsd hd rfl
  simp [execOp, ho, h1, h2, go_sem, hT, hk, hs, Result.andThen]
end lists
end Reg
end Go.Proofs.Ytlelckdcmlpmdaa
