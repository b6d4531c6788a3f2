/- A region that draws its order, by facts: one predicate a slot, each operation shown once, whatever the order. -/
import Derived.Test.YtlelckdcmlpmdaaKit
import Derived.Orders
import Derived.RegionTactic
namespace Go.Proofs.Ytlelckdcmlpmdaa
open Go Go.RowKit

/-- The world has grown: what lay lies as it lay. -/
def Grow (w w' : World) : Prop := Below w.heap.size w w'
theorem Grow.refl (w : World) : Grow w w := Below.refl _ _
theorem Grow.trans {a b c : World} (h : Grow a b) (k : Grow b c) : Grow a c := Below.trans h (Below.mono k h.size)
theorem Grow.drew (w : World) : Grow w w.drew := (Below.refl _ _).drew
theorem Grow.alloc (w : World) (o : Obj) : Grow w (w.alloc o) := (Below.refl _ _).alloc (Nat.le_refl _) o

namespace Reg
variable {P : Program} {ops : Array Oper} {FS : Tmp → Value → World → Prop}

/-- What is known of an operation's slot. -/
def FSd (FS : Tmp → Value → World → Prop) : Option Tmp → Value → World → Prop
  | some d, v, w => FS d v w
  | none, _, _ => True

/-- An operation is in order: from what is known of the slots that it looks at, it comes to what is claimed of its own. -/
def OpOk (P : Program) (ops : Array Oper) (FS : Tmp → Value → World → Prop) (w0 : World) (o : Oper) : Prop :=
  ∀ (a : Act) (w : World) (K : Act → World → Prop) (Q : Exit → Act → World → Prop), Grow w0 w → (∀ t, (o.looksAt ops).contains t = true → FS t (a.eval (.tmp t)) w) →
    (∀ v w', Grow w w' → FSd FS o.dst v w' → K (a.put o.dst v) w') →
    (if Region.wanted o (yielded ops a.tmps) then o.wp P a w K Q ∨ (o.asks P a w ∧ LetsOut Q) else K (a.put o.dst undef) w)

def AllOk (P : Program) (ops : Array Oper) (FS : Tmp → Value → World → Prop) (w0 : World) : List Oper → Prop
  | [] => True
  | o :: r => OpOk P ops FS w0 o ∧ AllOk P ops FS w0 r

theorem AllOk.get {w0 : World} : ∀ {l : List Oper}, AllOk P ops FS w0 l → ∀ o ∈ l, OpOk P ops FS w0 o
  | [], _, o, h => by cases h
  | x :: r, h, o, hm => by
    rcases List.mem_cons.1 hm with rfl | hm
    · exact h.1
    · exact AllOk.get h.2 o hm

/-- Each edge that binds leads back; each slot that an operation looks at and that the region writes is written by an operation that comes ahead by an edge. -/
def covered (ops : Array Oper) : Bool :=
  ops.toList.zipIdx.all fun (o, i) =>
    (o.after.toList.all fun e => !Region.binds .any e || decide (e.on < i)) &&
    (o.looksAt ops).all fun t => ops.toList.zipIdx.all fun (p, j) => p.dst != some t || (o.after.toList.any fun e => Region.binds .any e && e.on == j)

def Known (ops : Array Oper) (listed : Array Bool) (t : Tmp) : Prop := ∀ (j : Nat) (p : Oper), ops[j]? = some p → p.dst = some t → listed.getD j true = true

structure J (ops : Array Oper) (FS : Tmp → Value → World → Prop) (w0 : World) (n : Nat) (d : List Deferred) (listed : Array Bool) (a : Act) (w : World) : Prop where
  size : a.tmps.size = n
  defers : a.defers = d
  grow : Grow w0 w
  facts : ∀ t, Known ops listed t → FS t (a.eval (.tmp t)) w

theorem eval_put_same {a : Act} {d : Tmp} {v : Value} (h : d < a.tmps.size) : (a.put (some d) v).eval (.tmp d) = v := by
  simp [Act.put, Act.eval, h]
theorem eval_put_other {a : Act} {d t : Tmp} {v : Value} (h : t ≠ d) : (a.put (some d) v).eval (.tmp t) = a.eval (.tmp t) := by
  simp [Act.put, Act.eval, Array.getD_eq_getD_getElem?, Array.getElem?_setIfInBounds, Ne.symm h]

theorem ready_mem {i : Nat} {listed : Array Bool} (h : i ∈ Region.ready .any ops listed) : ∃ o, ops[i]? = some o ∧ listed.getD i true = false ∧ ∀ e ∈ o.after.toList, Region.binds .any e = true → listed.getD e.on false = true := by
  unfold Region.ready at h
  simp only [List.mem_filter, List.mem_range, Bool.and_eq_true, Bool.not_eq_true'] at h
  obtain ⟨hi, h1, h2⟩ := h
  cases ho : ops[i]? with
  | none => simp [ho] at h2
  | some o =>
    refine ⟨o, rfl, h1, ?_⟩
    simp only [ho, Option.map_some, Option.getD_some] at h2
    intro e he hb
    rw [Array.all_eq_true_iff_forall_mem] at h2
    have := h2 e (Array.mem_toList_iff.1 he)
    simpa [hb] using this

theorem covered_spec (h : covered ops = true) {i : Nat} {o : Oper} (ho : ops[i]? = some o) :
    (∀ e ∈ o.after.toList, Region.binds .any e = true → e.on < i) ∧
    (∀ t, (o.looksAt ops).contains t = true → ∀ (j : Nat) (p : Oper), ops[j]? = some p → p.dst = some t → ∃ e ∈ o.after.toList, Region.binds .any e = true ∧ e.on = j) := by
  unfold covered at h
  rw [List.all_eq_true] at h
  have hm : (o, i) ∈ ops.toList.zipIdx := by
    rw [List.mem_zipIdx_iff_getElem?]
    simpa using ho
  have := h _ hm
  simp only [Bool.and_eq_true, List.all_eq_true] at this
  obtain ⟨h1, h2⟩ := this
  constructor
  · intro e he hb
    have := h1 e he
    simpa [hb] using this
  · intro t ht j p hp hd
    have hp' : (p, j) ∈ ops.toList.zipIdx := by
      rw [List.mem_zipIdx_iff_getElem?]
      simpa using hp
    have := h2 t (by simpa using ht) _ hp'
    simp only [hd, bne_self_eq_false, Bool.false_or, List.any_eq_true, Bool.and_eq_true, beq_iff_eq] at this
    obtain ⟨e, he, hb, hj⟩ := this
    exact ⟨e, he, hb, hj⟩

/-- The number of operations that are still to come. -/
def left (listed : Array Bool) : Nat := (listed.toList.filter (! ·)).length

theorem region (hm : P.follows .mixedOrders = true) (hcov : covered ops = true) {id : Nat} {a0 : Act} {w0 : World} {Q : Exit → Act → World → Prop} (n : Nat) (hn : a0.tmps.size = n)
    (hdst : ∀ o ∈ ops.toList, ∀ d, o.dst = some d → d < n) (FS : Tmp → Value → World → Prop)
    (hstab : ∀ t v w w', FS t v w → Grow w w' → FS t v w')
    (hstart : ∀ t, (∀ o ∈ ops.toList, o.dst ≠ some t) → FS t (a0.eval (.tmp t)) w0)
    (hok : AllOk P ops FS w0 ops.toList)
    (hend : ∀ a w, a.tmps.size = n → a.defers = a0.defers → Grow w0 w → (∀ t, FS t (a.eval (.tmp t)) w) → Q .normal a w) :
    (Code.region id ops true).wp P Q a0 w0 := by
  refine wp_region_any hm ?_
  have key : ∀ (fuel : Nat) (listed : Array Bool) (a : Act) (w : World), listed.size = ops.size → left listed ≤ fuel → J ops FS w0 n a0.defers listed a w → wpAny P .any ops Q fuel listed a w := by
    intro fuel
    have hdone : ∀ (listed : Array Bool) (a : Act) (w : World), listed.size = ops.size → J ops FS w0 n a0.defers listed a w → Region.ready .any ops listed = [] → Q .normal a w := by
      intro listed a w hs hJ hr
      have hall : ∀ i, i < ops.size → listed.getD i true = true := by
        intro i
        induction i using Nat.strongRecOn with
        | _ i ih =>
          intro hi
          cases hl : listed.getD i true with
          | true => rfl
          | false =>
            exfalso
            have : i ∈ Region.ready .any ops listed := by
              unfold Region.ready
              simp only [List.mem_filter, List.mem_range, Bool.and_eq_true, Bool.not_eq_true']
              refine ⟨hi, hl, ?_⟩
              have ho : ops[i]? = some ops[i] := Array.getElem?_eq_getElem hi
              simp only [ho, Option.map_some, Option.getD_some]
              rw [Array.all_eq_true_iff_forall_mem]
              intro e he
              have hc := (covered_spec hcov ho).1 e (Array.mem_toList_iff.2 he)
              cases hb : Region.binds .any e with
              | false => simp
              | true =>
                have hlt := hc hb
                have h1 := ih e.on hlt (by omega)
                have h2 : e.on < listed.size := by omega
                simp only [Array.getD, h2, dif_pos] at h1 ⊢
                simpa using h1
            rw [hr] at this
            cases this
      refine hend a w hJ.size hJ.defers hJ.grow (fun t => hJ.facts t ?_)
      intro j p hp _
      exact hall j (Array.getElem?_eq_some_iff.1 hp).1
    induction fuel with
    | zero =>
      intro listed a w hs hf hJ
      have hr : Region.ready .any ops listed = [] := by
        rcases hr : Region.ready .any ops listed with _ | ⟨i, r⟩
        · rfl
        · exfalso
          obtain ⟨o, ho, hl, _⟩ := ready_mem (ops := ops) (listed := listed) (i := i) (by rw [hr]; simp)
          have hi : i < listed.size := by rw [hs]; exact (Array.getElem?_eq_some_iff.1 ho).1
          have hmem : listed[i] ∈ listed.toList.filter (! ·) := by
            rw [List.mem_filter]
            refine ⟨by simp, ?_⟩
            have hl' : listed[i] = false := by simpa [Array.getD, hi] using hl
            simp [hl']
          have : 0 < left listed := List.length_pos_of_mem hmem
          omega
      exact ⟨hr, hdone listed a w hs hJ hr⟩
    | succ fuel ih =>
      intro listed a w hs hf hJ
      refine ⟨hdone listed a w hs hJ, fun i hi => ?_⟩
      obtain ⟨o, ho, hl, hedges⟩ := ready_mem hi
      have hom : o ∈ ops.toList := by
        obtain ⟨h1, h2⟩ := Array.getElem?_eq_some_iff.1 ho
        subst h2
        simp
      have hisz : i < listed.size := by rw [hs]; exact (Array.getElem?_eq_some_iff.1 ho).1
      have hlook : ∀ t, (o.looksAt ops).contains t = true → FS t (a.eval (.tmp t)) w := by
        intro t ht
        refine hJ.facts t ?_
        intro j p hp hd
        obtain ⟨e, he, hb, rfl⟩ := (covered_spec hcov ho).2 t ht j p hp hd
        have := hedges e he hb
        have hlt : e.on < listed.size := by rw [hs]; exact (Array.getElem?_eq_some_iff.1 hp).1
        simp only [Array.getD, hlt, dif_pos] at this ⊢
        exact this
      have hnext : ∀ v w', Grow w w' → FSd FS o.dst v w' → wpAny P .any ops Q fuel (listed.setIfInBounds i true) (a.put o.dst v) w' := by
        intro v w' hg hv
        refine ih _ _ _ (by simpa using hs) ?_ ⟨?_, ?_, hJ.grow.trans hg, ?_⟩
        · have hl' : listed[i] = false := by simpa [Array.getD, hisz] using hl
          have : left (listed.setIfInBounds i true) < left listed := by
            unfold left
            rw [Array.toList_setIfInBounds]
            have e1 : listed.toList = listed.toList.take i ++ false :: listed.toList.drop (i + 1) := by
              have h3 : listed.toList[i]'(by simpa using hisz) = false := by simpa using hl'
              conv => lhs; rw [← List.take_append_drop i listed.toList, List.drop_eq_getElem_cons (by simpa using hisz), h3]
            rw [List.set_eq_take_append_cons_drop, if_pos (by simpa using hisz)]
            conv => rhs; rw [e1]
            simp
          omega
        · cases hd : o.dst with
          | none => simpa [Act.put] using hJ.size
          | some d => simpa [Act.put] using hJ.size
        · cases hd : o.dst with
          | none => simpa [Act.put] using hJ.defers
          | some d => simpa [Act.put] using hJ.defers
        · intro t ht
          by_cases hdt : o.dst = some t
          · rw [hdt] at hv ⊢
            rw [eval_put_same (by rw [hJ.size]; exact hdst o hom t hdt)]
            exact hv
          · have hk : Known ops listed t := by
              intro j p hp hd
              have := ht j p hp hd
              by_cases e : i = j
              · subst e
                rw [ho] at hp
                injection hp with hp
                subst hp
                exact absurd hd hdt
              · simpa [Array.getD_eq_getD_getElem?, Array.getElem?_setIfInBounds, e] using this
            have := hstab t _ w w' (hJ.facts t hk) hg
            cases hd : o.dst with
            | none => simpa [Act.put] using this
            | some d =>
              rw [eval_put_other (by intro e; subst e; exact hdt hd)]
              exact this
      have := AllOk.get hok o hom a w _ Q hJ.grow hlook hnext
      unfold wpOp
      simp only [ho]
      exact this
  refine key ops.size _ a0 _ (by simp) ?_ ⟨hn, rfl, Grow.drew w0, ?_⟩
  · unfold left
    simp
  · intro t ht
    refine hstab t _ w0 _ (hstart t ?_) (Grow.drew w0)
    intro o ho hd
    obtain ⟨i, hi, rfl⟩ := List.getElem_of_mem ho
    have hi' : i < ops.size := by simpa using hi
    have := ht i ops[i] (Array.getElem?_eq_getElem hi') (by simpa using hd)
    simp [Array.getD, hi'] at this

/-! ### Rules for single operations -/
variable {w0 : World} {o : Oper}

/-- The operation itself, its guard being met. -/
def RunOk (P : Program) (ops : Array Oper) (FS : Tmp → Value → World → Prop) (w0 : World) (o : Oper) : Prop :=
  ∀ (a : Act) (w : World) (K : Act → World → Prop) (Q : Exit → Act → World → Prop), Grow w0 w → (∀ t, (o.looksAt ops).contains t = true → FS t (a.eval (.tmp t)) w) →
    (∀ v w', Grow w w' → FSd FS o.dst v w' → K (a.put o.dst v) w') → o.wp P a w K Q

theorem ok_none (hg : o.guard = none) (h : RunOk P ops FS w0 o) : OpOk P ops FS w0 o := by
  intro a w K Q hG hl hK
  rw [if_pos (by simp [Region.wanted, hg])]
  exact .inl (h a w K Q hG hl hK)
theorem ok_guard (j : Nat) (want : Bool) (d : Tmp) (hg : o.guard = some (j, want)) (hd : (ops[j]?).bind (·.dst) = some d) (hl : (o.looksAt ops).contains d = true) (hF : ∀ v w, FS d v w → v = .bool want)
    (h : RunOk P ops FS w0 o) : OpOk P ops FS w0 o := by
  intro a w K Q hG hlk hK
  have e := hF _ _ (hlk d hl)
  have hw : Region.wanted o (yielded ops a.tmps) = true := by
    have h2 : a.tmps[d]? = some (.bool want) := by
      replace e : a.tmps.getD d undef = .bool want := e
      rw [Array.getD_eq_getD_getElem?] at e
      cases hx : a.tmps[d]? with
      | none => rw [hx] at e; cases e
      | some x => rw [hx] at e; simpa using e
    simp [Region.wanted, hg, yielded, hd, h2]
  rw [if_pos hw]
  exact .inl (h a w K Q hG hlk hK)

/-- An operand's value is known. -/
def Has (ops : Array Oper) (FS : Tmp → Value → World → Prop) (o : Oper) (x : Operand) (v : Value) : Prop :=
  ∀ (a : Act) (w : World), (∀ t, (o.looksAt ops).contains t = true → FS t (a.eval (.tmp t)) w) → a.eval x = v
theorem has_tmp {t : Tmp} {v : Value} (h : (o.looksAt ops).contains t = true) (hF : ∀ u w, FS t u w → u = v) : Has ops FS o (.tmp t) v := fun _ _ hl => hF _ _ (hl t h)
theorem has_const {v : Value} : Has ops FS o (.const v) v := fun _ _ _ => rfl

theorem run_mv (x : Operand) (ho : o.op = .move x ∨ o.op = .assign x) {v : Value} (hx : Has ops FS o x v) (hd : ∀ w, FSd FS o.dst v w) : RunOk P ops FS w0 o := by
  intro a w K Q hG hl hK
  have e := hx a w hl
  unfold Oper.wp execOp
  rcases ho with ho | ho <;> simp only [ho, Sem.run_pure, Oper.upon_value, e] <;> exact hK v w (Grow.refl w) (hd w)
theorem run_mvF (t : Tmp) (ho : o.op = .move (.tmp t) ∨ o.op = .assign (.tmp t)) (hc : (o.looksAt ops).contains t = true) (hd : ∀ v w, FS t v w → FSd FS o.dst v w) : RunOk P ops FS w0 o := by
  intro a w K Q hG hl hK
  unfold Oper.wp execOp
  rcases ho with ho | ho <;> simp only [ho, Sem.run_pure, Oper.upon_value] <;> exact hK _ w (Grow.refl w) (hd _ _ (hl t hc))
theorem run1 (x : Operand) {u r : Value} (hx : Has ops FS o x u) (hrun : ∀ (ρ : Operand → Value) (w : World), ρ x = u → (execOp ρ o).run P w = .ok (.value r) w) (hd : ∀ w, FSd FS o.dst r w) : RunOk P ops FS w0 o := by
  intro a w K Q hG hl hK
  unfold Oper.wp
  rw [hrun a.eval w (hx a w hl)]
  exact hK r w (Grow.refl w) (hd w)
theorem run2 (x y : Operand) {u v r : Value} (hx : Has ops FS o x u) (hy : Has ops FS o y v) (hrun : ∀ (ρ : Operand → Value) (w : World), ρ x = u → ρ y = v → (execOp ρ o).run P w = .ok (.value r) w) (hd : ∀ w, FSd FS o.dst r w) : RunOk P ops FS w0 o := by
  intro a w K Q hG hl hK
  unfold Oper.wp
  rw [hrun a.eval w (hx a w hl) (hy a w hl)]
  exact hK r w (Grow.refl w) (hd w)
theorem run_pick (x y : Operand) (ho : o.op = .pick x y (.const (.bool false))) {r : Value} (hx : Has ops FS o x (.bool true)) (hy : Has ops FS o y r) (hd : ∀ w, FSd FS o.dst r w) : RunOk P ops FS w0 o := by
  refine run2 x y hx hy (fun ρ w h1 h2 => ?_) hd
  simp only [execOp, ho, h1, asBool, Sem.run_bind, Sem.run_pure, Result.andThen_ok, if_true, h2]
/-- A call of a named function whose arguments are known. -/
theorem run_call (f : FuncId) (xs : Array Operand) (ts : Array TypeId) (ho : o.op = .call { callee := .value (.func f), args := xs, argTypes := ts }) (hent : ∀ args w, (callFunc f args).run P w = .ok (.enter f args) w)
    (args : Array Value) (hargs : ∀ (a : Act) (w : World), (∀ t, (o.looksAt ops).contains t = true → FS t (a.eval (.tmp t)) w) → xs.map a.eval = args)
    (hC : ∀ w, Grow w0 w → Calls P f args w fun e w' => ∃ v, e = .returned v ∧ Grow w w' ∧ FSd FS o.dst v w') : RunOk P ops FS w0 o := by
  intro a w K Q hG hl hK
  have e := hargs a w hl
  unfold Oper.wp
  have hr : (execOp a.eval o).run P w = .ok (.enter f args) w := by
    have e' : (Array.map a.eval xs) = args := e
    have ef : a.eval (.func f) = .func (.func f) #[] #[] := rfl
    have h := hent args w
    simp [execOp, ho, resolve, e', ef, Deferred.ofValue, invoke, Result.andThen, h]
  rw [hr, Oper.upon_enter]
  refine (hC w hG).mono ?_
  rintro e w' ⟨v, rfl, hg, hf⟩
  exact hK v w' hg hf

end Reg
end Go.Proofs.Ytlelckdcmlpmdaa
