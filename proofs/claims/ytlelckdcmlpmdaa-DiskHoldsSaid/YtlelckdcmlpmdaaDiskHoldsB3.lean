/- Texts that the proof of DiskHolds leans on, part 3. -/
import Derived.Orders
import Derived.RegionTactic
import Derived.Shelf.Abstract
import Derived.ScopeJumps
import Derived.Test.YtlelckdcmlpmdaaDiskHoldsB2
/- A region that draws its order, by facts: one predicate a slot, each operation shown once, whatever the order. -/
namespace Go.Proofs.Ytlelckdcmlpmdaa
open Go Go.RowKit

/-- The world has grown: what lay lies as it lay. -/
def Grow (w w' : World) : Prop := Below w.heap.size w w'
theorem Grow.refl (w : World) : Grow w w := Below.refl _ _
theorem Grow.trans {a b c : World} (h : Grow a b) (k : Grow b c) : Grow a c := Below.trans h (Below.mono k h.size)
theorem Grow.drew (w : World) : Grow w w.drew := (Below.refl _ _).drew
theorem Grow.alloc (w : World) (o : Obj) : Grow w (w.alloc o) := (Below.refl _ _).alloc (Nat.le_refl _) o

namespace Reg
variable {P : Program} {ops : Array Oper} {FS : Tmp → Value → World → Prop}

/-- What is known of an operation's slot. -/
def FSd (FS : Tmp → Value → World → Prop) : Option Tmp → Value → World → Prop
  | some d, v, w => FS d v w
  | none, _, _ => True

/-- An operation is in order: from what is known of the slots that it looks at, it comes to what is claimed of its own. -/
def OpOk (P : Program) (ops : Array Oper) (FS : Tmp → Value → World → Prop) (w0 : World) (o : Oper) : Prop :=
  ∀ (a : Act) (w : World) (K : Act → World → Prop) (Q : Exit → Act → World → Prop), Grow w0 w → (∀ t, (o.looksAt ops).contains t = true → FS t (a.eval (.tmp t)) w) →
    (∀ v w', Grow w w' → FSd FS o.dst v w' → K (a.put o.dst v) w') →
    (if Region.wanted o (yielded ops a.tmps) then o.wp P a w K Q ∨ (o.asks P a w ∧ LetsOut Q) else K (a.put o.dst undef) w)

def AllOk (P : Program) (ops : Array Oper) (FS : Tmp → Value → World → Prop) (w0 : World) : List Oper → Prop
  | [] => True
  | o :: r => OpOk P ops FS w0 o ∧ AllOk P ops FS w0 r

theorem AllOk.get {w0 : World} : ∀ {l : List Oper}, AllOk P ops FS w0 l → ∀ o ∈ l, OpOk P ops FS w0 o
  | [], _, o, h => by cases h
  | x :: r, h, o, hm => by
    rcases List.mem_cons.1 hm with rfl | hm
    · exact h.1
    · exact AllOk.get h.2 o hm

/-- Each edge that binds leads back; each slot that an operation looks at and that the region writes is written by an operation that comes ahead by an edge. -/
def covered (ops : Array Oper) : Bool :=
  ops.toList.zipIdx.all fun (o, i) =>
    (o.after.toList.all fun e => !Region.binds .any e || decide (e.on < i)) &&
    (o.looksAt ops).all fun t => ops.toList.zipIdx.all fun (p, j) => p.dst != some t || (o.after.toList.any fun e => Region.binds .any e && e.on == j)

def Known (ops : Array Oper) (listed : Array Bool) (t : Tmp) : Prop := ∀ (j : Nat) (p : Oper), ops[j]? = some p → p.dst = some t → listed.getD j true = true

structure J (ops : Array Oper) (FS : Tmp → Value → World → Prop) (w0 : World) (n : Nat) (d : List Deferred) (listed : Array Bool) (a : Act) (w : World) : Prop where
  size : a.tmps.size = n
  defers : a.defers = d
  grow : Grow w0 w
  facts : ∀ t, Known ops listed t → FS t (a.eval (.tmp t)) w

theorem eval_put_same {a : Act} {d : Tmp} {v : Value} (h : d < a.tmps.size) : (a.put (some d) v).eval (.tmp d) = v := by
  simp [Act.put, Act.eval, h]
theorem eval_put_other {a : Act} {d t : Tmp} {v : Value} (h : t ≠ d) : (a.put (some d) v).eval (.tmp t) = a.eval (.tmp t) := by
  simp [Act.put, Act.eval, Array.getD_eq_getD_getElem?, Array.getElem?_setIfInBounds, Ne.symm h]

theorem ready_mem {i : Nat} {listed : Array Bool} (h : i ∈ Region.ready .any ops listed) : ∃ o, ops[i]? = some o ∧ listed.getD i true = false ∧ ∀ e ∈ o.after.toList, Region.binds .any e = true → listed.getD e.on false = true := by
  unfold Region.ready at h
  simp only [List.mem_filter, List.mem_range, Bool.and_eq_true, Bool.not_eq_true'] at h
  obtain ⟨hi, h1, h2⟩ := h
  cases ho : ops[i]? with
  | none => simp [ho] at h2
  | some o =>
    refine ⟨o, rfl, h1, ?_⟩
    simp only [ho, Option.map_some, Option.getD_some] at h2
    intro e he hb
    rw [Array.all_eq_true_iff_forall_mem] at h2
    have := h2 e (Array.mem_toList_iff.1 he)
    simpa [hb] using this

theorem covered_spec (h : covered ops = true) {i : Nat} {o : Oper} (ho : ops[i]? = some o) :
    (∀ e ∈ o.after.toList, Region.binds .any e = true → e.on < i) ∧
    (∀ t, (o.looksAt ops).contains t = true → ∀ (j : Nat) (p : Oper), ops[j]? = some p → p.dst = some t → ∃ e ∈ o.after.toList, Region.binds .any e = true ∧ e.on = j) := by
  unfold covered at h
  rw [List.all_eq_true] at h
  have hm : (o, i) ∈ ops.toList.zipIdx := by
    rw [List.mem_zipIdx_iff_getElem?]
    simpa using ho
  have := h _ hm
  simp only [Bool.and_eq_true, List.all_eq_true] at this
  obtain ⟨h1, h2⟩ := this
  constructor
  · intro e he hb
    have := h1 e he
    simpa [hb] using this
  · intro t ht j p hp hd
    have hp' : (p, j) ∈ ops.toList.zipIdx := by
      rw [List.mem_zipIdx_iff_getElem?]
      simpa using hp
    have := h2 t (by simpa using ht) _ hp'
    simp only [hd, bne_self_eq_false, Bool.false_or, List.any_eq_true, Bool.and_eq_true, beq_iff_eq] at this
    obtain ⟨e, he, hb, hj⟩ := this
    exact ⟨e, he, hb, hj⟩

/-- The number of operations that are still to come. -/
def left (listed : Array Bool) : Nat := (listed.toList.filter (! ·)).length

theorem region_wpAny (hm : P.follows .mixedOrders = true) (hcov : covered ops = true) {a0 : Act} {w0 : World} {Q : Exit → Act → World → Prop} (n : Nat) (hn : a0.tmps.size = n)
    (hdst : ∀ o ∈ ops.toList, ∀ d, o.dst = some d → d < n) (FS : Tmp → Value → World → Prop)
    (hstab : ∀ t v w w', FS t v w → Grow w w' → FS t v w')
    (hstart : ∀ t, (∀ o ∈ ops.toList, o.dst ≠ some t) → FS t (a0.eval (.tmp t)) w0)
    (hok : AllOk P ops FS w0 ops.toList)
    (hend : ∀ a w, a.tmps.size = n → a.defers = a0.defers → Grow w0 w → (∀ t, FS t (a.eval (.tmp t)) w) → Q .normal a w) :
    wpAny P .any ops Q ops.size (Array.replicate ops.size false) a0 { w0 with drawn := w0.drawn + 1 } := by
  have key : ∀ (fuel : Nat) (listed : Array Bool) (a : Act) (w : World), listed.size = ops.size → left listed ≤ fuel → J ops FS w0 n a0.defers listed a w → wpAny P .any ops Q fuel listed a w := by
    intro fuel
    have hdone : ∀ (listed : Array Bool) (a : Act) (w : World), listed.size = ops.size → J ops FS w0 n a0.defers listed a w → Region.ready .any ops listed = [] → Q .normal a w := by
      intro listed a w hs hJ hr
      have hall : ∀ i, i < ops.size → listed.getD i true = true := by
        intro i
        induction i using Nat.strongRecOn with
        | _ i ih =>
          intro hi
          cases hl : listed.getD i true with
          | true => rfl
          | false =>
            exfalso
            have : i ∈ Region.ready .any ops listed := by
              unfold Region.ready
              simp only [List.mem_filter, List.mem_range, Bool.and_eq_true, Bool.not_eq_true']
              refine ⟨hi, hl, ?_⟩
              have ho : ops[i]? = some ops[i] := Array.getElem?_eq_getElem hi
              simp only [ho, Option.map_some, Option.getD_some]
              rw [Array.all_eq_true_iff_forall_mem]
              intro e he
              have hc := (covered_spec hcov ho).1 e (Array.mem_toList_iff.2 he)
              cases hb : Region.binds .any e with
              | false => simp
              | true =>
                have hlt := hc hb
                have h1 := ih e.on hlt (by omega)
                have h2 : e.on < listed.size := by omega
                simp only [Array.getD, h2, dif_pos] at h1 ⊢
                simpa using h1
            rw [hr] at this
            cases this
      refine hend a w hJ.size hJ.defers hJ.grow (fun t => hJ.facts t ?_)
      intro j p hp _
      exact hall j (Array.getElem?_eq_some_iff.1 hp).1
    induction fuel with
    | zero =>
      intro listed a w hs hf hJ
      have hr : Region.ready .any ops listed = [] := by
        rcases hr : Region.ready .any ops listed with _ | ⟨i, r⟩
        · rfl
        · exfalso
          obtain ⟨o, ho, hl, _⟩ := ready_mem (ops := ops) (listed := listed) (i := i) (by rw [hr]; simp)
          have hi : i < listed.size := by rw [hs]; exact (Array.getElem?_eq_some_iff.1 ho).1
          have hmem : listed[i] ∈ listed.toList.filter (! ·) := by
            rw [List.mem_filter]
            refine ⟨by simp, ?_⟩
            have hl' : listed[i] = false := by simpa [Array.getD, hi] using hl
            simp [hl']
          have : 0 < left listed := List.length_pos_of_mem hmem
          omega
      exact ⟨hr, hdone listed a w hs hJ hr⟩
    | succ fuel ih =>
      intro listed a w hs hf hJ
      refine ⟨hdone listed a w hs hJ, fun i hi => ?_⟩
      obtain ⟨o, ho, hl, hedges⟩ := ready_mem hi
      have hom : o ∈ ops.toList := by
        obtain ⟨h1, h2⟩ := Array.getElem?_eq_some_iff.1 ho
        subst h2
        simp
      have hisz : i < listed.size := by rw [hs]; exact (Array.getElem?_eq_some_iff.1 ho).1
      have hlook : ∀ t, (o.looksAt ops).contains t = true → FS t (a.eval (.tmp t)) w := by
        intro t ht
        refine hJ.facts t ?_
        intro j p hp hd
        obtain ⟨e, he, hb, rfl⟩ := (covered_spec hcov ho).2 t ht j p hp hd
        have := hedges e he hb
        have hlt : e.on < listed.size := by rw [hs]; exact (Array.getElem?_eq_some_iff.1 hp).1
        simp only [Array.getD, hlt, dif_pos] at this ⊢
        exact this
      have hnext : ∀ v w', Grow w w' → FSd FS o.dst v w' → wpAny P .any ops Q fuel (listed.setIfInBounds i true) (a.put o.dst v) w' := by
        intro v w' hg hv
        refine ih _ _ _ (by simpa using hs) ?_ ⟨?_, ?_, hJ.grow.trans hg, ?_⟩
        · have hl' : listed[i] = false := by simpa [Array.getD, hisz] using hl
          have : left (listed.setIfInBounds i true) < left listed := by
            unfold left
            rw [Array.toList_setIfInBounds]
            have e1 : listed.toList = listed.toList.take i ++ false :: listed.toList.drop (i + 1) := by
              have h3 : listed.toList[i]'(by simpa using hisz) = false := by simpa using hl'
              conv => lhs; rw [← List.take_append_drop i listed.toList, List.drop_eq_getElem_cons (by simpa using hisz), h3]
            rw [List.set_eq_take_append_cons_drop, if_pos (by simpa using hisz)]
            conv => rhs; rw [e1]
            simp
          omega
        · cases hd : o.dst with
          | none => simpa [Act.put] using hJ.size
          | some d => simpa [Act.put] using hJ.size
        · cases hd : o.dst with
          | none => simpa [Act.put] using hJ.defers
          | some d => simpa [Act.put] using hJ.defers
        · intro t ht
          by_cases hdt : o.dst = some t
          · rw [hdt] at hv ⊢
            rw [eval_put_same (by rw [hJ.size]; exact hdst o hom t hdt)]
            exact hv
          · have hk : Known ops listed t := by
              intro j p hp hd
              have := ht j p hp hd
              by_cases e : i = j
              · subst e
                rw [ho] at hp
                injection hp with hp
                subst hp
                exact absurd hd hdt
              · simpa [Array.getD_eq_getD_getElem?, Array.getElem?_setIfInBounds, e] using this
            have := hstab t _ w w' (hJ.facts t hk) hg
            cases hd : o.dst with
            | none => simpa [Act.put] using this
            | some d =>
              rw [eval_put_other (by intro e; subst e; exact hdt hd)]
              exact this
      have := AllOk.get hok o hom a w _ Q hJ.grow hlook hnext
      unfold wpOp
      simp only [ho]
      exact this
  refine key ops.size _ a0 _ (by simp) ?_ ⟨hn, rfl, Grow.drew w0, ?_⟩
  · unfold left
    simp
  · intro t ht
    refine hstab t _ w0 _ (hstart t ?_) (Grow.drew w0)
    intro o ho hd
    obtain ⟨i, hi, rfl⟩ := List.getElem_of_mem ho
    have hi' : i < ops.size := by simpa using hi
    have := ht i ops[i] (Array.getElem?_eq_getElem hi') (by simpa using hd)
    simp [Array.getD, hi'] at this

theorem region (hm : P.follows .mixedOrders = true) (hcov : covered ops = true) {id : Nat} {a0 : Act} {w0 : World} {Q : Exit → Act → World → Prop} (n : Nat) (hn : a0.tmps.size = n)
    (hdst : ∀ o ∈ ops.toList, ∀ d, o.dst = some d → d < n) (FS : Tmp → Value → World → Prop)
    (hstab : ∀ t v w w', FS t v w → Grow w w' → FS t v w')
    (hstart : ∀ t, (∀ o ∈ ops.toList, o.dst ≠ some t) → FS t (a0.eval (.tmp t)) w0)
    (hok : AllOk P ops FS w0 ops.toList)
    (hend : ∀ a w, a.tmps.size = n → a.defers = a0.defers → Grow w0 w → (∀ t, FS t (a.eval (.tmp t)) w) → Q .normal a w) :
    (Code.region id ops true).wp P Q a0 w0 :=
  wp_region_any hm (region_wpAny hm hcov n hn hdst FS hstab hstart hok hend)

/-! ### Rules for single operations -/
variable {w0 : World} {o : Oper}

/-- The operation itself, its guard being met. -/
def RunOk (P : Program) (ops : Array Oper) (FS : Tmp → Value → World → Prop) (w0 : World) (o : Oper) : Prop :=
  ∀ (a : Act) (w : World) (K : Act → World → Prop) (Q : Exit → Act → World → Prop), Grow w0 w → (∀ t, (o.looksAt ops).contains t = true → FS t (a.eval (.tmp t)) w) →
    (∀ v w', Grow w w' → FSd FS o.dst v w' → K (a.put o.dst v) w') → o.wp P a w K Q

theorem ok_none (hg : o.guard = none) (h : RunOk P ops FS w0 o) : OpOk P ops FS w0 o := by
  intro a w K Q hG hl hK
  rw [if_pos (by simp [Region.wanted, hg])]
  exact .inl (h a w K Q hG hl hK)
theorem ok_guard (j : Nat) (want : Bool) (d : Tmp) (hg : o.guard = some (j, want)) (hd : (ops[j]?).bind (·.dst) = some d) (hl : (o.looksAt ops).contains d = true) (hF : ∀ v w, FS d v w → v = .bool want)
    (h : RunOk P ops FS w0 o) : OpOk P ops FS w0 o := by
  intro a w K Q hG hlk hK
  have e := hF _ _ (hlk d hl)
  have hw : Region.wanted o (yielded ops a.tmps) = true := by
    have h2 : a.tmps[d]? = some (.bool want) := by
      replace e : a.tmps.getD d undef = .bool want := e
      rw [Array.getD_eq_getD_getElem?] at e
      cases hx : a.tmps[d]? with
      | none => rw [hx] at e; cases e
      | some x => rw [hx] at e; simpa using e
    simp [Region.wanted, hg, yielded, hd, h2]
  rw [if_pos hw]
  exact .inl (h a w K Q hG hlk hK)

/-- An operand's value is known. -/
def Has (ops : Array Oper) (FS : Tmp → Value → World → Prop) (o : Oper) (x : Operand) (v : Value) : Prop :=
  ∀ (a : Act) (w : World), (∀ t, (o.looksAt ops).contains t = true → FS t (a.eval (.tmp t)) w) → a.eval x = v
theorem has_tmp {t : Tmp} {v : Value} (h : (o.looksAt ops).contains t = true) (hF : ∀ u w, FS t u w → u = v) : Has ops FS o (.tmp t) v := fun _ _ hl => hF _ _ (hl t h)
theorem has_const {v : Value} : Has ops FS o (.const v) v := fun _ _ _ => rfl

theorem run_mv (x : Operand) (ho : o.op = .move x ∨ o.op = .assign x) {v : Value} (hx : Has ops FS o x v) (hd : ∀ w, FSd FS o.dst v w) : RunOk P ops FS w0 o := by
  intro a w K Q hG hl hK
  have e := hx a w hl
  unfold Oper.wp execOp
  rcases ho with ho | ho <;> simp only [ho, Sem.run_pure, Oper.upon_value, e] <;> exact hK v w (Grow.refl w) (hd w)
theorem run_mvF (t : Tmp) (ho : o.op = .move (.tmp t) ∨ o.op = .assign (.tmp t)) (hc : (o.looksAt ops).contains t = true) (hd : ∀ v w, FS t v w → FSd FS o.dst v w) : RunOk P ops FS w0 o := by
  intro a w K Q hG hl hK
  unfold Oper.wp execOp
  rcases ho with ho | ho <;> simp only [ho, Sem.run_pure, Oper.upon_value] <;> exact hK _ w (Grow.refl w) (hd _ _ (hl t hc))
theorem run1 (x : Operand) {u r : Value} (hx : Has ops FS o x u) (hrun : ∀ (ρ : Operand → Value) (w : World), ρ x = u → (execOp ρ o).run P w = .ok (.value r) w) (hd : ∀ w, FSd FS o.dst r w) : RunOk P ops FS w0 o := by
  intro a w K Q hG hl hK
  unfold Oper.wp
  rw [hrun a.eval w (hx a w hl)]
  exact hK r w (Grow.refl w) (hd w)
theorem run2 (x y : Operand) {u v r : Value} (hx : Has ops FS o x u) (hy : Has ops FS o y v) (hrun : ∀ (ρ : Operand → Value) (w : World), ρ x = u → ρ y = v → (execOp ρ o).run P w = .ok (.value r) w) (hd : ∀ w, FSd FS o.dst r w) : RunOk P ops FS w0 o := by
  intro a w K Q hG hl hK
  unfold Oper.wp
  rw [hrun a.eval w (hx a w hl) (hy a w hl)]
  exact hK r w (Grow.refl w) (hd w)
theorem run_pick (x y : Operand) (ho : o.op = .pick x y (.const (.bool false))) {r : Value} (hx : Has ops FS o x (.bool true)) (hy : Has ops FS o y r) (hd : ∀ w, FSd FS o.dst r w) : RunOk P ops FS w0 o := by
  refine run2 x y hx hy (fun ρ w h1 h2 => ?_) hd
  simp only [execOp, ho, h1, asBool, Sem.run_bind, Sem.run_pure, Result.andThen_ok, if_true, h2]
/-- A call of a named function whose arguments are known. -/
theorem run_call (f : FuncId) (xs : Array Operand) (ts : Array TypeId) (ho : o.op = .call { callee := .value (.func f), args := xs, argTypes := ts }) (hent : ∀ args w, (callFunc f args).run P w = .ok (.enter f args) w)
    (args : Array Value) (hargs : ∀ (a : Act) (w : World), (∀ t, (o.looksAt ops).contains t = true → FS t (a.eval (.tmp t)) w) → xs.map a.eval = args)
    (hC : ∀ w, Grow w0 w → Calls P f args w fun e w' => ∃ v, e = .returned v ∧ Grow w w' ∧ FSd FS o.dst v w') : RunOk P ops FS w0 o := by
  intro a w K Q hG hl hK
  have e := hargs a w hl
  unfold Oper.wp
  have hr : (execOp a.eval o).run P w = .ok (.enter f args) w := by
    have e' : (Array.map a.eval xs) = args := e
    have ef : a.eval (.func f) = .func (.func f) #[] #[] := rfl
    have h := hent args w
    simp [execOp, ho, resolve, e', ef, Deferred.ofValue, invoke, Result.andThen, h]
  rw [hr, Oper.upon_enter]
  refine (hC w hG).mono ?_
  rintro e w' ⟨v, rfl, hg, hf⟩
  exact hK v w' hg hf

end Reg
end Go.Proofs.Ytlelckdcmlpmdaa
/- Facts on slots, as data; rules for the operations of a law's last region. -/
namespace Go.Proofs.Ytlelckdcmlpmdaa
open Go Go.RowKit Lou

/-- What may be known of a slot: its value; that it reads as bytes; nothing. -/
inductive Fact where
  | val (v : Value)
  | res (l : List UInt8)
  | any
  | pred (p : Value → World → Prop) (h : ∀ v w w', p v w → Grow w w' → p v w')
def Fact.holds : Fact → Value → World → Prop
  | .val x, v, _ => v = x
  | .res l, v, w => ∃ A c, v = .slice A l.length c ∧ InB w w.heap.size A c l
  | .any, _, _ => True
  | .pred p _, v, w => p v w
theorem Fact.stable (f : Fact) {v : Value} {w w' : World} (h : f.holds v w) (hg : Grow w w') : f.holds v w' := by
  cases f with
  | val x => exact h
  | res l =>
    obtain ⟨A, c, e, hin⟩ := h
    exact ⟨A, c, e, (hin.below hg).more hg.size⟩
  | any => trivial
  | pred p hp => exact hp v w w' h hg
def factOf : List (Nat × Fact) → Nat → Fact
  | [], _ => .any
  | (k, f) :: r, t => if k == t then f else factOf r t
/-- The slots' facts out of a list. -/
def FSof (L : List (Nat × Fact)) (t : Tmp) (v : Value) (w : World) : Prop := (factOf L t).holds v w
theorem FSof.stable (L : List (Nat × Fact)) (t : Tmp) (v : Value) (w w' : World) (h : FSof L t v w) (hg : Grow w w') : FSof L t v w' := Fact.stable _ h hg

def written (ops : Array Oper) (t : Nat) : Bool := ops.toList.any fun o => o.dst == some t
def dstsIn (ops : Array Oper) (n : Nat) : Bool := ops.toList.all fun o => match o.dst with | some d => decide (d < n) | none => true

namespace Reg
/-- What holds of the slots that the region doesn't write. -/
def StartOk (a0 : Act) (w0 : World) : List (Nat × Fact) → Prop
  | [] => True
  | (k, f) :: r => f.holds (a0.eval (.tmp k)) w0 ∧ StartOk a0 w0 r

theorem start_fact {a0 : Act} {w0 : World} {ops : Array Oper} : ∀ (V W : List (Nat × Fact)), StartOk a0 w0 V → (W.all fun p => written ops p.1) = true → ∀ t, (∀ o ∈ ops.toList, o.dst ≠ some t) → (factOf (V ++ W) t).holds (a0.eval (.tmp t)) w0
  | [], [], _, _, t, _ => by simp [factOf, Fact.holds]
  | [], (k, f) :: r, hV, hW, t, ht => by
    simp only [List.all_cons, Bool.and_eq_true] at hW
    simp only [List.nil_append, factOf]
    split
    · rename_i e
      obtain rfl : k = t := by simpa using e
      exfalso
      have := hW.1
      simp only [written, List.any_eq_true, beq_iff_eq] at this
      obtain ⟨o, ho, hd⟩ := this
      exact ht o ho hd
    · exact start_fact [] r hV hW.2 t ht
  | (k, f) :: r, W, hV, hW, t, ht => by
    simp only [List.cons_append, factOf]
    split
    · rename_i e
      obtain rfl : k = t := by simpa using e
      exact hV.1
    · exact start_fact r W hV.2 hW t ht

/-- The region, by two lists of facts: of the slots that it finds, of those that it writes. -/
theorem region_facts {P : Program} {ops : Array Oper} (hm : P.follows .mixedOrders = true) (hcov : covered ops = true) {id : Nat} {a0 : Act} {w0 : World} {Q : Exit → Act → World → Prop} (n : Nat) (hn : a0.tmps.size = n)
    (hdst : dstsIn ops n = true) (V W : List (Nat × Fact)) (hV : StartOk a0 w0 V) (hW : (W.all fun p => written ops p.1) = true)
    (hok : AllOk P ops (FSof (V ++ W)) w0 ops.toList)
    (hend : ∀ a w, a.tmps.size = n → a.defers = a0.defers → Grow w0 w → (∀ t, FSof (V ++ W) t (a.eval (.tmp t)) w) → Q .normal a w) :
    (Code.region id ops true).wp P Q a0 w0 := by
  refine region hm hcov n hn ?_ (FSof (V ++ W)) (FSof.stable _) (start_fact V W hV hW) hok hend
  intro o ho d hd
  unfold dstsIn at hdst
  rw [List.all_eq_true] at hdst
  have := hdst o ho
  simpa [hd] using this

theorem allOk_cons {P : Program} {ops : Array Oper} {FS : Tmp → Value → World → Prop} {w0 : World} {o : Oper} {r : List Oper} (h : OpOk P ops FS w0 o) (k : AllOk P ops FS w0 r) : AllOk P ops FS w0 (o :: r) := ⟨h, k⟩
theorem allOk_nil {P : Program} {ops : Array Oper} {FS : Tmp → Value → World → Prop} {w0 : World} : AllOk P ops FS w0 [] := trivial

section rules
variable {ops : Array Oper} {FS : Tmp → Value → World → Prop} {w0 : World} {o : Oper}

theorem rule_conv (t : Tmp) (l : List UInt8) (ho : o.op = .convert 30 9 (.tmp t)) (hc : (o.looksAt ops).contains t = true) (hF : ∀ v w, FS t v w → (Fact.res l).holds v w) (hd : ∀ w, FSd FS o.dst (.string (str l)) w) : RunOk Try.prog ops FS w0 o := by
  intro a w K Q hG hl hK
  obtain ⟨A, c, e, hin⟩ := hF _ _ (hl t hc)
  have hs := hin.string
  unfold Oper.wp
  have hr : (execOp a.eval o).run Try.prog w = .ok (.value (.string (str l))) w := by
    simp [execOp, ho, e, hs, Result.andThen]
  rw [hr]
  exact hK _ w (Grow.refl w) (hd w)
theorem rule_convI (x : Operand) (S D : TypeId) {u r : Value} (ho : o.op = .convert S D x) (hx : Has ops FS o x u) (hrun : ∀ w, (convert S D u).run Try.prog w = .ok r w) (hd : ∀ w, FSd FS o.dst r w) : RunOk Try.prog ops FS w0 o :=
  run1 x hx (fun ρ w h => by simp [execOp, ho, h, hrun, Result.andThen]) hd
theorem rule_convS (x : Operand) (S D : TypeId) {u r : Value} (ho : o.op = .convert S D x) (hx : Has ops FS o x u) (hrun : ∀ w, Grow w0 w → (convert S D u).run Try.prog w = .ok r w) (hd : ∀ w, FSd FS o.dst r w) : RunOk Try.prog ops FS w0 o := by
  intro a w K Q hG hl hK
  have e := hx a w hl
  unfold Oper.wp
  have hr : (execOp a.eval o).run Try.prog w = .ok (.value r) w := by simp [execOp, ho, e, hrun w hG, Result.andThen]
  rw [hr]
  exact hK r w (Grow.refl w) (hd w)
theorem conv_45_41 (r : Nat) (h : r < 4294967296) (w : World) : (convert 45 41 (.int .u32 r)).run Try.prog w = .ok (.int .u64 r) w := by
  have e : IntKind.u64.wrap (r : Int) = r := by
    show (r : Int) % 18446744073709551616 = r
    omega
  have k : Try.prog.intKind 41 = .u64 := by kernel_rfl
  have h := run_convert_int (P := Try.prog) (w := w) 45 41 .u32 r (by kernel_rfl) (by kernel_rfl)
  rw [k, e] at h
  exact h
theorem conv_41_45 (n : Nat) (w : World) : (convert 41 45 (.int .u64 n)).run Try.prog w = .ok (.int .u32 ((n % 4294967296 : Nat) : Int)) w := by
  have e : IntKind.u32.wrap (n : Int) = ((n % 4294967296 : Nat) : Int) := by
    show (n : Int) % 4294967296 = _
    omega
  have k : Try.prog.intKind 45 = .u32 := by kernel_rfl
  have h := run_convert_int (P := Try.prog) (w := w) 41 45 .u64 n (by kernel_rfl) (by kernel_rfl)
  rw [k, e] at h
  exact h
theorem rule_eqi (x y : Operand) (T T' : TypeId) (k : IntKind) (m : Int) (ho : o.op = .binOp .eql T x y T') (hT : Try.prog.underlying T = some (.int k)) (hx : Has ops FS o x (.int k m)) (hy : Has ops FS o y (.int k m)) (hd : ∀ w, FSd FS o.dst (.bool true) w) : RunOk Try.prog ops FS w0 o :=
  run2 x y hx hy (fun ρ w h1 h2 => by simp [execOp, ho, h1, h2, go_sem]) hd
theorem rule_eqs (x y : Operand) (T T' : TypeId) (s : ByteArray) (ho : o.op = .binOp .eql T x y T') (hT : Try.prog.underlying T = some .string) (hx : Has ops FS o x (.string s)) (hy : Has ops FS o y (.string s)) (hd : ∀ w, FSd FS o.dst (.bool true) w) : RunOk Try.prog ops FS w0 o :=
  run2 x y hx hy (fun ρ w h1 h2 => by simp [execOp, ho, h1, h2, go_sem]) hd
theorem rule_len (t : Tmp) (A : Option Addr) (n c : Nat) (T : TypeId) (hT : Try.prog.underlying T = some (.slice (Try.prog.elem T))) (ho : o.op = .call { callee := .builtin .len, args := #[.tmp t], argTypes := #[T] }) (hx : Has ops FS o (.tmp t) (.slice A n c)) (hd : ∀ w, FSd FS o.dst (.int .i64 (n : Int)) w) : RunOk Try.prog ops FS w0 o :=
  run1 (.tmp t) hx (fun ρ w h => by simp [execOp, ho, h, go_sem, resolve, invoke, run_len_slice _ _ _ _ _ _ hT]) hd
theorem args1 {x : Operand} {u : Value} (h : Has ops FS o x u) : ∀ (a : Act) (w : World), (∀ t, (o.looksAt ops).contains t = true → FS t (a.eval (.tmp t)) w) → Array.map a.eval #[x] = #[u] := fun a w hl => by simp [h a w hl]
theorem args2 {x y : Operand} {u v : Value} (h : Has ops FS o x u) (k : Has ops FS o y v) : ∀ (a : Act) (w : World), (∀ t, (o.looksAt ops).contains t = true → FS t (a.eval (.tmp t)) w) → Array.map a.eval #[x, y] = #[u, v] := fun a w hl => by simp [h a w hl, k a w hl]
theorem args3 {x y z : Operand} {u v r : Value} (h : Has ops FS o x u) (k : Has ops FS o y v) (m : Has ops FS o z r) : ∀ (a : Act) (w : World), (∀ t, (o.looksAt ops).contains t = true → FS t (a.eval (.tmp t)) w) → Array.map a.eval #[x, y, z] = #[u, v, r] := fun a w hl => by simp [h a w hl, k a w hl, m a w hl]
theorem args4 {x y z q : Operand} {u v r s : Value} (h : Has ops FS o x u) (k : Has ops FS o y v) (m : Has ops FS o z r) (j : Has ops FS o q s) : ∀ (a : Act) (w : World), (∀ t, (o.looksAt ops).contains t = true → FS t (a.eval (.tmp t)) w) → Array.map a.eval #[x, y, z, q] = #[u, v, r, s] := fun a w hl => by simp [h a w hl, k a w hl, m a w hl, j a w hl]
end rules

theorem results1 {fn : Func} {P : Program} {a : Act} {w : World} {v : Value} (t : Tmp) (h : fn.results = #[.tmp t]) (hv : a.eval (.tmp t) = v) : (results fn a.tmps).run P w = .ok v w := by
  have e : a.tmps.getD t undef = v := hv
  unfold results
  simp only [h]
  simp [← e, Array.getD_eq_getD_getElem?]
/-- The end of a function of one result, without deferred calls. -/
theorem ends1 {fn : Func} {P : Program} {a : Act} {w : World} {R : Ending → World → Prop} (t : Tmp) (v : Value) (h : fn.results = #[.tmp t]) (hv : a.eval (.tmp t) = v) (hd : a.defers = []) (hR : R (.returned v) w) : Code.wp P Code.ret (bodyPost P fn R) a w :=
  wp_ret (bodyPost_ret_by (results1 t h hv) hd hR)
theorem gives_same {P : Program} {w : World} {f : FuncId} {args : Array Value} {v : Value} (h : Calls P f args w fun e w' => e = .returned v ∧ w = w') : Calls P f args w fun e w' => ∃ u, e = .returned u ∧ Grow w w' ∧ u = v :=
  h.mono (by rintro e w' ⟨rfl, rfl⟩; exact ⟨_, rfl, Grow.refl _, rfl⟩)
theorem gives_grow {P : Program} {w : World} {f : FuncId} {args : Array Value} {v : Value} (h : Calls P f args w fun e w' => e = .returned v ∧ Below w.heap.size w w') : Calls P f args w fun e w' => ∃ u, e = .returned u ∧ Grow w w' ∧ u = v :=
  h.mono (by rintro e w' ⟨rfl, hB⟩; exact ⟨_, rfl, hB, rfl⟩)
theorem gives_res {w : World} {f : FuncId} {args : Array Value} {l : List UInt8} (h : Calls Try.prog f args w (GivesB w l)) : Calls Try.prog f args w fun e w' => ∃ v, e = .returned v ∧ Grow w w' ∧ (Fact.res l).holds v w' :=
  h.mono fun e w' ⟨v, he, hown, hB⟩ => ⟨v, he, hB, hown.inB⟩

/-! ### The same rules over lists of facts: what is looked up is left to the kernel -/
def FD (L : List (Nat × Fact)) : Option Tmp → Fact
  | some d => factOf L d
  | none => .any
theorem fsd {L : List (Nat × Fact)} {d : Option Tmp} {f : Fact} {v : Value} {w : World} (h : FD L d = f) (hv : f.holds v w) : FSd (FSof L) d v w := by
  cases d with
  | none => trivial
  | some d => subst h; exact hv
section lists
variable {L : List (Nat × Fact)} {ops : Array Oper} {w0 : World} {o : Oper} {P : Program}
theorem hs (t : Tmp) (v : Value) (hc : (o.looksAt ops).contains t = true) (hF : factOf L t = .val v) : Has ops (FSof L) o (.tmp t) v :=
  has_tmp hc fun u w h => by
    have h' : (factOf L t).holds u w := h
    rw [hF] at h'
    exact h'
theorem hc (v : Value) : Has ops (FSof L) o (.const v) v := has_const
theorem okg (j : Nat) (want : Bool) (d : Tmp) (hg : o.guard = some (j, want)) (hd : (ops[j]?).bind (·.dst) = some d) (hl : (o.looksAt ops).contains d = true) (hF : factOf L d = .val (.bool want))
    (h : RunOk P ops (FSof L) w0 o) : OpOk P ops (FSof L) w0 o :=
  ok_guard j want d hg hd hl (fun v w h => by
    have h' : (factOf L d).holds v w := h
    rw [hF] at h'
    exact h') h
theorem l_mv (x : Operand) (v : Value) (ho : o.op = .move x ∨ o.op = .assign x) (hx : Has ops (FSof L) o x v) (hd : FD L o.dst = .val v) : RunOk P ops (FSof L) w0 o :=
  run_mv x ho hx fun _ => fsd hd rfl
theorem l_mvF (t : Tmp) (f : Fact) (ho : o.op = .move (.tmp t) ∨ o.op = .assign (.tmp t)) (hc : (o.looksAt ops).contains t = true) (hF : factOf L t = f) (hd : FD L o.dst = f) : RunOk P ops (FSof L) w0 o :=
  run_mvF t ho hc fun v w h => fsd hd (by
    have h' : (factOf L t).holds v w := h
    rw [hF] at h'
    exact h')
theorem l_pick (x y : Operand) (r : Value) (ho : o.op = .pick x y (.const (.bool false))) (hx : Has ops (FSof L) o x (.bool true)) (hy : Has ops (FSof L) o y r) (hd : FD L o.dst = .val r) : RunOk P ops (FSof L) w0 o :=
  run_pick x y ho hx hy fun _ => fsd hd rfl
/-- Any operation of one operand whose run is known. -/
theorem l_run1 (x : Operand) (u r : Value) (hx : Has ops (FSof L) o x u) (hrun : ∀ (ρ : Operand → Value) (w : World), ρ x = u → (execOp ρ o).run P w = .ok (.value r) w) (hd : FD L o.dst = .val r) : RunOk P ops (FSof L) w0 o :=
  run1 x hx hrun fun _ => fsd hd rfl
theorem l_conv (t : Tmp) (l : List UInt8) (ho : o.op = .convert 30 9 (.tmp t)) (hc : (o.looksAt ops).contains t = true) (hF : factOf L t = .res l) (hd : FD L o.dst = .val (.string (str l))) : RunOk Try.prog ops (FSof L) w0 o :=
  rule_conv t l ho hc (fun v w h => by
    have h' : (factOf L t).holds v w := h
    rw [hF] at h'
    exact h') fun _ => fsd hd rfl
theorem l_convS (x : Operand) (S D : TypeId) (u r : Value) (ho : o.op = .convert S D x) (hx : Has ops (FSof L) o x u) (hrun : ∀ w, Grow w0 w → (convert S D u).run Try.prog w = .ok r w) (hd : FD L o.dst = .val r) : RunOk Try.prog ops (FSof L) w0 o :=
  rule_convS x S D ho hx hrun fun _ => fsd hd rfl
theorem l_eqi (x y : Operand) (T T' : TypeId) (k : IntKind) (m : Int) (ho : o.op = .binOp .eql T x y T') (hT : Try.prog.underlying T = some (.int k)) (hx : Has ops (FSof L) o x (.int k m)) (hy : Has ops (FSof L) o y (.int k m)) (hd : FD L o.dst = .val (.bool true)) : RunOk Try.prog ops (FSof L) w0 o :=
  rule_eqi x y T T' k m ho hT hx hy fun _ => fsd hd rfl
theorem l_eqs (x y : Operand) (T T' : TypeId) (s : ByteArray) (ho : o.op = .binOp .eql T x y T') (hT : Try.prog.underlying T = some .string) (hx : Has ops (FSof L) o x (.string s)) (hy : Has ops (FSof L) o y (.string s)) (hd : FD L o.dst = .val (.bool true)) : RunOk Try.prog ops (FSof L) w0 o :=
  rule_eqs x y T T' s ho hT hx hy fun _ => fsd hd rfl
theorem l_eqb (x y : Operand) (T T' : TypeId) (b : Bool) (ho : o.op = .binOp .eql T x y T') (hT : Try.prog.underlying T = some .bool) (hx : Has ops (FSof L) o x (.bool b)) (hy : Has ops (FSof L) o y (.bool b)) (hd : FD L o.dst = .val (.bool true)) : RunOk Try.prog ops (FSof L) w0 o :=
  run2 x y hx hy (fun ρ w h1 h2 => by simp [execOp, ho, h1, h2, go_sem, run_eql_bool _ _ _ _ hT, Result.andThen]) fun _ => fsd hd rfl
theorem l_len (t : Tmp) (A : Option Addr) (n c : Nat) (T : TypeId) (hT : Try.prog.underlying T = some (.slice (Try.prog.elem T))) (ho : o.op = .call { callee := .builtin .len, args := #[.tmp t], argTypes := #[T] }) (hx : Has ops (FSof L) o (.tmp t) (.slice A n c)) (hd : FD L o.dst = .val (.int .i64 (n : Int))) : RunOk Try.prog ops (FSof L) w0 o :=
  rule_len t A n c T hT ho hx fun _ => fsd hd rfl
/-- The length of what reads as bytes. -/
theorem l_lenR (t : Tmp) (l : List UInt8) (T : TypeId) (hT : Try.prog.underlying T = some (.slice (Try.prog.elem T))) (ho : o.op = .call { callee := .builtin .len, args := #[.tmp t], argTypes := #[T] }) (hc : (o.looksAt ops).contains t = true) (hF : factOf L t = .res l) (hd : FD L o.dst = .val (.int .i64 (l.length : Int))) : RunOk Try.prog ops (FSof L) w0 o := by
  intro a w K Q hG hl hK
  have h' : (factOf L t).holds (a.eval (.tmp t)) w := hl t hc
  rw [hF] at h'
  obtain ⟨A, c, e, hin⟩ := h'
  unfold Oper.wp
  have hr : (execOp a.eval o).run Try.prog w = .ok (.value (.int .i64 (l.length : Int))) w := by
    have key : ∀ ρ : Operand → Value, ρ (.tmp t) = .slice A l.length c → (execOp ρ o).run Try.prog w = .ok (.value (.int .i64 (l.length : Int))) w :=
      fun ρ h => by simp [execOp, ho, h, go_sem, resolve, invoke, run_len_slice _ _ _ _ _ _ hT]
    exact key _ e
  rw [hr]
  exact hK _ w (Grow.refl w) (fsd hd rfl)
theorem l_call (f : FuncId) (xs : Array Operand) (ts : Array TypeId) (ho : o.op = .call { callee := .value (.func f), args := xs, argTypes := ts }) (hent : ∀ args w, (callFunc f args).run P w = .ok (.enter f args) w)
    (args : Array Value) (g : Fact) (hargs : ∀ (a : Act) (w : World), (∀ t, (o.looksAt ops).contains t = true → FSof L t (a.eval (.tmp t)) w) → xs.map a.eval = args)
    (hC : ∀ w, Grow w0 w → Calls P f args w fun e w' => ∃ v, e = .returned v ∧ Grow w w' ∧ g.holds v w') (hd : FD L o.dst = g) : RunOk P ops (FSof L) w0 o :=
  run_call f xs ts ho hent args hargs fun w hG => (hC w hG).mono fun _ _ ⟨v, e, hg, hh⟩ => ⟨v, e, hg, fsd hd hh⟩
/-- A call one of whose arguments (the first) reads as bytes. -/
theorem l_callR (f : FuncId) (t : Tmp) (l : List UInt8) (ts : Array TypeId) (ho : o.op = .call { callee := .value (.func f), args := #[.tmp t], argTypes := ts }) (hent : ∀ args w, (callFunc f args).run P w = .ok (.enter f args) w)
    (g : Fact) (hc : (o.looksAt ops).contains t = true) (hF : factOf L t = .res l)
    (hC : ∀ w A c, Grow w0 w → InB w w.heap.size A c l → Calls P f #[.slice A l.length c] w fun e w' => ∃ v, e = .returned v ∧ Grow w w' ∧ g.holds v w') (hd : FD L o.dst = g) : RunOk P ops (FSof L) w0 o := by
  intro a w K Q hG hl hK
  have h' : (factOf L t).holds (a.eval (.tmp t)) w := hl t hc
  rw [hF] at h'
  obtain ⟨A, c, e, hin⟩ := h'
  unfold Oper.wp
  have hr : (execOp a.eval o).run P w = .ok (.enter f #[.slice A l.length c]) w := by
    have ef : a.eval (.func f) = .func (.func f) #[] #[] := rfl
    have h := hent #[.slice A l.length c] w
    simp [execOp, ho, resolve, e, ef, Deferred.ofValue, invoke, Result.andThen, h]
  rw [hr, Oper.upon_enter]
  refine (hC w A c hG hin).mono ?_
  rintro e w' ⟨v, rfl, hg, hf⟩
  exact hK v w' hg (fsd hd hf)
/-- A call one of whose arguments (the only one) is known by a predicate. -/
theorem l_callP (f : FuncId) (t : Tmp) (p : Value → World → Prop) (hp : ∀ v w w', p v w → Grow w w' → p v w') (ts : Array TypeId) (ho : o.op = .call { callee := .value (.func f), args := #[.tmp t], argTypes := ts }) (hent : ∀ args w, (callFunc f args).run P w = .ok (.enter f args) w)
    (g : Fact) (hc : (o.looksAt ops).contains t = true) (hF : factOf L t = .pred p hp)
    (hC : ∀ w u, Grow w0 w → p u w → Calls P f #[u] w fun e w' => ∃ v, e = .returned v ∧ Grow w w' ∧ g.holds v w') (hd : FD L o.dst = g) : RunOk P ops (FSof L) w0 o := by
  intro a w K Q hG hl hK
  have h' : (factOf L t).holds (a.eval (.tmp t)) w := hl t hc
  rw [hF] at h'
  have e : a.eval (.tmp t) = a.eval (.tmp t) := rfl
  revert h' e
  generalize hu : a.eval (.tmp t) = u
  intro h' _
  unfold Oper.wp
  have hr : (execOp a.eval o).run P w = .ok (.enter f #[u]) w := by
    have ef : a.eval (.func f) = .func (.func f) #[] #[] := rfl
    have h := hent #[u] w
    simp [execOp, ho, resolve, hu, ef, Deferred.ofValue, invoke, Result.andThen, h]
  rw [hr, Oper.upon_enter]
  refine (hC w u hG h').mono ?_
  rintro e w' ⟨v, rfl, hg, hf⟩
  exact hK v w' hg (fsd hd hf)
/-- Any operation of two operands whose run is known; the world may grow. -/
theorem l_run2W (x y : Operand) (g : Fact) (u v : Value) (hx : Has ops (FSof L) o x u) (hy : Has ops (FSof L) o y v)
    (hrun : ∀ (ρ : Operand → Value) (w : World), Grow w0 w → ρ x = u → ρ y = v → ∃ r w', (execOp ρ o).run P w = .ok (.value r) w' ∧ Grow w w' ∧ g.holds r w') (hd : FD L o.dst = g) : RunOk P ops (FSof L) w0 o := by
  intro a w K Q hG hl hK
  obtain ⟨r, w', h1, h2, h3⟩ := hrun a.eval w hG (hx a w hl) (hy a w hl)
  unfold Oper.wp
  rw [h1]
  exact hK r w' h2 (fsd hd h3)
theorem l_run1W (x : Operand) (g : Fact) (u : Value) (hx : Has ops (FSof L) o x u)
    (hrun : ∀ (ρ : Operand → Value) (w : World), Grow w0 w → ρ x = u → ∃ r w', (execOp ρ o).run P w = .ok (.value r) w' ∧ Grow w w' ∧ g.holds r w') (hd : FD L o.dst = g) : RunOk P ops (FSof L) w0 o := by
  intro a w K Q hG hl hK
  obtain ⟨r, w', h1, h2, h3⟩ := hrun a.eval w hG (hx a w hl)
  unfold Oper.wp
  rw [h1]
  exact hK r w' h2 (fsd hd h3)
end lists
end Reg
end Go.Proofs.Ytlelckdcmlpmdaa
/- Regions that draw their order, in the midst of a walk: the slots that the region doesn't write keep their values. -/
namespace Go.Proofs.Ytlelckdcmlpmdaa
open Go Go.RowKit Lou
namespace Reg

theorem OpOk.mono {P : Program} {ops : Array Oper} {FS FS' : Tmp → Value → World → Prop} {w0 : World} {o : Oper} (h : OpOk P ops FS w0 o) (h1 : ∀ t v w, FS' t v w → FS t v w) (h2 : ∀ d v w, o.dst = some d → FS d v w → FS' d v w) : OpOk P ops FS' w0 o := by
  intro a w K Q hG hl hK
  refine h a w K Q hG (fun t ht => h1 _ _ _ (hl t ht)) (fun v w' hg hf => hK v w' hg ?_)
  cases hd : o.dst with
  | none => trivial
  | some d =>
    rw [hd] at hf
    exact h2 d v w' hd hf
theorem AllOk.mono {P : Program} {ops : Array Oper} {FS FS' : Tmp → Value → World → Prop} {w0 : World} (h1 : ∀ t v w, FS' t v w → FS t v w) : ∀ {l : List Oper}, (∀ o ∈ l, ∀ d v w, o.dst = some d → FS d v w → FS' d v w) → AllOk P ops FS w0 l → AllOk P ops FS' w0 l
  | [], _, _ => trivial
  | o :: r, h2, h => ⟨h.1.mono h1 (h2 o (List.mem_cons_self ..)), h.2.mono h1 fun o ho => h2 o (List.mem_cons_of_mem _ ho)⟩

def dstsAre (ops : Array Oper) (D : List Nat) : Bool := ops.toList.all fun o => match o.dst with | some d => D.contains d | none => true

/-- As region_facts; what the region doesn't write keeps its value. -/
theorem region_acts {P : Program} {ops : Array Oper} (hm : P.follows .mixedOrders = true) (hcov : covered ops = true) {id : Nat} {a0 : Act} {w0 : World} {Q : Exit → Act → World → Prop} (n : Nat) (hn : a0.tmps.size = n)
    (hdst : dstsIn ops n = true) (D : List Nat) (hD : dstsAre ops D = true) (V W : List (Nat × Fact)) (hV : StartOk a0 w0 V) (hW : (W.all fun p => written ops p.1) = true)
    (hok : AllOk P ops (FSof (V ++ W)) w0 ops.toList)
    (hend : ∀ a w, a.tmps.size = n → a.defers = a0.defers → Grow w0 w → (∀ t, FSof (V ++ W) t (a.eval (.tmp t)) w) → (∀ t, D.contains t = false → a.eval (.tmp t) = a0.eval (.tmp t)) → Q .normal a w) :
    (Code.region id ops true).wp P Q a0 w0 := by
  have hD' : ∀ o ∈ ops.toList, ∀ d, o.dst = some d → D.contains d = true := by
    intro o ho d hd
    unfold dstsAre at hD
    rw [List.all_eq_true] at hD
    have := hD o ho
    simpa [hd] using this
  refine region hm hcov n hn ?_ (fun t v w => FSof (V ++ W) t v w ∧ (D.contains t = false → v = a0.eval (.tmp t))) (fun t v w w' h hg => ⟨FSof.stable _ _ _ _ _ h.1 hg, h.2⟩) (fun t ht => ⟨start_fact V W hV hW t ht, fun _ => rfl⟩)
    (AllOk.mono (fun _ _ _ h => h.1) (fun o ho d v w hd h => ⟨h, fun hn => by rw [hD' o ho d hd] at hn; cases hn⟩) hok) ?_
  · intro o ho d hd
    unfold dstsIn at hdst
    rw [List.all_eq_true] at hdst
    have := hdst o ho
    simpa [hd] using this
  · intro a w h1 h2 h3 h4
    exact hend a w h1 h2 h3 (fun t => (h4 t).1) (fun t => (h4 t).2)

/-- An act out of another by the slots that differ. -/
theorem acts_eq {a a0 : Act} : ∀ (D : List Nat), a.tmps.size = a0.tmps.size → a.defers = a0.defers → (∀ t, D.contains t = false → a.eval (.tmp t) = a0.eval (.tmp t)) → a = D.foldl (fun x d => x.put (some d) (a.eval (.tmp d))) a0 := by
  have size_put : ∀ (x : Act) d v, (x.put (some d) v).tmps.size = x.tmps.size := by intro x d v; simp [Act.put]
  have key : ∀ (D : List Nat) (b : Act), a.tmps.size = b.tmps.size → a.defers = b.defers → (∀ t, D.contains t = false → a.eval (.tmp t) = b.eval (.tmp t)) → a = D.foldl (fun x d => x.put (some d) (a.eval (.tmp d))) b := by
    intro D
    induction D with
    | nil =>
      intro b hs hd h
      have : a.tmps = b.tmps := by
        apply Array.ext hs
        intro i h1 h2
        have := h i rfl
        simpa [Act.eval, Array.getD, h1, h2] using this
      cases a; cases b; simp_all
    | cons d r ih =>
      intro b hs hd h
      rw [List.foldl_cons]
      refine ih _ (by rw [size_put]; exact hs) (by simp [Act.put, hd]) ?_
      intro t ht
      by_cases e : t = d
      · subst e
        by_cases hlt : t < b.tmps.size
        · rw [eval_put_same hlt]
        · have h1 : ¬ t < a.tmps.size := by omega
          simp [Act.put, Act.eval, Array.getD_eq_getD_getElem?, h1, hlt]
      · rw [eval_put_other e]
        exact h t (by simp only [List.contains_cons, Bool.or_eq_false_iff]; exact ⟨by simpa using e, ht⟩)
  exact fun D => key D a0

/-- What a region leaves: the slots of D may differ; F holds. -/
def Left (D : List Nat) (F : Act → World → Prop) (a0 : Act) (w0 : World) (a : Act) (w : World) : Prop := a.tmps.size = a0.tmps.size ∧ a.defers = a0.defers ∧ Grow w0 w ∧ F a w ∧ ∀ t, D.contains t = false → a.eval (.tmp t) = a0.eval (.tmp t)
/-- A stop between a region and what follows. -/
theorem by_stop {P : Program} {C : Code} {Q : Exit → Act → World → Prop} {a0 : Act} {w0 : World} (D : List Nat) (F : Act → World → Prop) (h1 : ∀ Q', (∀ a w, Left D F a0 w0 a w → Q' .normal a w) → C.wp P Q' a0 w0) (h2 : ∀ a w, Left D F a0 w0 a w → Q .normal a w) : C.wp P Q a0 w0 := h1 Q h2

section lists
variable {L : List (Nat × Fact)} {ops : Array Oper} {w0 : World} {o : Oper} {P : Program}
theorem okg_not (j : Nat) (want : Bool) (d : Tmp) (hg : o.guard = some (j, want)) (hd : (ops[j]?).bind (·.dst) = some d) (hl : (o.looksAt ops).contains d = true) (hF : factOf L d = .val (.bool !want)) (hD : FD L o.dst = .any) : OpOk P ops (FSof L) w0 o := by
  intro a w K Q hG hlk hK
  have h' : (factOf L d).holds (a.eval (.tmp d)) w := hlk d hl
  rw [hF] at h'
  have e : a.eval (.tmp d) = .bool !want := h'
  have hw : Region.wanted o (yielded ops a.tmps) = false := by
    have h2 : a.tmps[d]? = some (.bool !want) := by
      replace e : a.tmps.getD d undef = .bool !want := e
      rw [Array.getD_eq_getD_getElem?] at e
      cases hx : a.tmps[d]? with
      | none => rw [hx] at e; cases e
      | some x => rw [hx] at e; simpa using e
    cases want <;> simp [Region.wanted, hg, yielded, hd, h2]
  rw [if_neg (by simp [hw])]
  exact hK undef w (Grow.refl w) (fsd hD trivial)
theorem l_pickF (x y z : Operand) (r : Value) (ho : o.op = .pick x y z) (hx : Has ops (FSof L) o x (.bool false)) (hz : Has ops (FSof L) o z r) (hd : FD L o.dst = .val r) : RunOk P ops (FSof L) w0 o :=
  run2 x z hx hz (fun ρ w h1 h2 => by simp [execOp, ho, h1, h2, asBool, Result.andThen]) fun _ => fsd hd rfl
theorem l_pickT (x y z : Operand) (r : Value) (ho : o.op = .pick x y z) (hx : Has ops (FSof L) o x (.bool true)) (hy : Has ops (FSof L) o y r) (hd : FD L o.dst = .val r) : RunOk P ops (FSof L) w0 o :=
  run2 x y hx hy (fun ρ w h1 h2 => by simp [execOp, ho, h1, h2, asBool, Result.andThen]) fun _ => fsd hd rfl
theorem l_eqsG (x y : Operand) (T T' : TypeId) (s u : ByteArray) (ho : o.op = .binOp .eql T x y T') (hx : Has ops (FSof L) o x (.string s)) (hy : Has ops (FSof L) o y (.string u)) (hd : FD L o.dst = .val (.bool (s.toList == u.toList))) : RunOk P ops (FSof L) w0 o :=
  run2 x y hx hy (fun ρ w h1 h2 => by simp [execOp, ho, h1, h2, go_sem, Result.andThen]) fun _ => fsd hd rfl
theorem l_leq (x y : Operand) (T T' : TypeId) (k : IntKind) (m n : Int) (ho : o.op = .binOp .leq T x y T') (hx : Has ops (FSof L) o x (.int k m)) (hy : Has ops (FSof L) o y (.int k n)) (b : Bool) (hb : decide (m ≤ n) = b) (hd : FD L o.dst = .val (.bool b)) : RunOk P ops (FSof L) w0 o :=
  run2 x y hx hy (fun ρ w h1 h2 => by subst hb; simp [execOp, ho, h1, h2, go_sem, Result.andThen]) fun _ => fsd hd rfl
theorem l_load (x : Operand) (p : Addr) (T : TypeId) (v : Value) (hagg : ∀ w : World, (isAgg T).run P w = .ok false w) (ho : o.op = .load T x) (hx : Has ops (FSof L) o x (.pointer (some p))) (hcell : ∀ w, Grow w0 w → w.cell? p = some v) (hd : FD L o.dst = .val v) : RunOk P ops (FSof L) w0 o := by
  refine l_run1W x (.val v) _ hx (fun ρ w hg h => ⟨v, w, ?_, Grow.refl _, rfl⟩) hd
  have hc := hcell w hg
  simp [execOp, ho, h, go_sem, hagg, hc, Result.andThen]
theorem l_idx (x y : Operand) (p : Addr) (T e : TypeId) (n k : Nat) (hT : P.underlying T = some (.array n e)) (hk : k < n) (hs : ∀ w : World, (sizeOf e).run P w = .ok 1 w) (ho : o.op = .indexAddr T x y) (hx : Has ops (FSof L) o x (.pointer (some p))) (hy : Has ops (FSof L) o y (.int .i64 (k : Int))) (hd : FD L o.dst = .val (.pointer (some (p.add k)))) : RunOk P ops (FSof L) w0 o := by
  refine run2 x y hx hy (fun ρ w h1 h2 => ?_) fun _ => fsd hd rfl
  simp [execOp, ho, h1, h2, go_sem, hT, hk, hs, Result.andThen]
end lists
end Reg
end Go.Proofs.Ytlelckdcmlpmdaa
/- Blocks of slices of bytes, as facts of slots; Concat of them. -/
namespace Go.Proofs.Ytlelckdcmlpmdaa
open Go Go.RowKit Lou

/-- A row of slices of bytes, in a block. -/
def Lists (ls : List (List UInt8)) (v : Value) (w : World) : Prop :=
  ∃ b, v = .slice (some ⟨b, 0, none⟩) ls.length ls.length ∧ b < w.heap.size ∧ ∀ j (h : j < ls.length), ∃ A c, w.cell? ⟨b, j, none⟩ = some (.slice A ls[j].length c) ∧ InB w w.heap.size A c ls[j]
theorem lists_stable (ls : List (List UInt8)) : ∀ v w w', Lists ls v w → Grow w w' → Lists ls v w' := by
  rintro v w w' ⟨b, hv, hb, h⟩ hg
  refine ⟨b, hv, Nat.lt_of_lt_of_le hb hg.size, fun j hj => ?_⟩
  obtain ⟨A, c, h1, h2⟩ := h j hj
  exact ⟨A, c, (hg.cell (p := ⟨b, j, none⟩) hb).trans h1, (h2.below hg).more hg.size⟩
/-- .. as pieces. -/
theorem Lists.pieces {ls : List (List UInt8)} {v : Value} {w : World} (h : Lists ls v w) (hm : ls.length ≤ 1000) : ∃ b, ∃ zs : List (Piece w w.heap.size), v = .slice (some ⟨b, 0, none⟩) zs.length zs.length ∧ zs.map Piece.l = ls ∧ InLL w w.heap.size (some ⟨b, 0, none⟩) zs.length zs := by
  obtain ⟨b, rfl, hb, h⟩ := h
  have key : ∀ n, n ≤ ls.length → ∃ zs : List (Piece w w.heap.size), zs.length = n ∧ zs.map Piece.l = ls.take n ∧ ∀ j (hj : j < zs.length), w.cell? ⟨b, j, none⟩ = some zs[j].val := by
    intro n
    induction n with
    | zero => exact fun _ => ⟨[], rfl, by simp, fun j hj => by simp at hj⟩
    | succ n ih =>
      intro hn
      obtain ⟨zs, h1, h2, h3⟩ := ih (by omega)
      obtain ⟨A, c, h4, h5⟩ := h n (by omega)
      refine ⟨zs ++ [⟨((A, c), ls[n]), h5⟩], by simp [h1], ?_, fun j hj => ?_⟩
      · rw [List.map_append, h2, List.take_succ_eq_append_getElem (by omega)]
        rfl
      · by_cases e : j < zs.length
        · rw [List.getElem_append_left e]
          exact h3 j e
        · have : j = n := by simp at hj; omega
          subst this
          rw [List.getElem_append_right (by omega)]
          simp only [h1, Nat.sub_self, List.getElem_cons_zero]
          exact h4
  obtain ⟨zs, h1, h2, h3⟩ := key ls.length (Nat.le_refl _)
  refine ⟨b, zs, by rw [h1], by rw [h2, List.take_length], ⟨Nat.le_refl _, by omega, fun _ => ⟨b, 0, rfl, hb, fun j hj => by rw [Nat.zero_add]; exact h3 j hj⟩⟩⟩
theorem concatL_gives {ls : List (List UInt8)} {v : Value} {w : World} (h : Lists ls v w) (hm : ls.length ≤ 1000) (hf : ls.flatten.length ≤ 1000000000) : Calls Try.prog 142 #[v] w (GivesB w ls.flatten) := by
  obtain ⟨b, zs, rfl, hz, hI⟩ := h.pieces hm
  have := concat_gives w (some ⟨b, 0, none⟩) zs.length zs hI (by rw [hz]; exact hf)
  rw [hz] at this
  exact this
theorem sumLs_gives {ls : List (List UInt8)} {v : Value} {w : World} (h : Lists ls v w) (hm : ls.length ≤ 1000) : Calls Try.prog 29 #[v] w fun e W' => e = .returned (.int .u32 (sumL ls.flatten : Int)) ∧ Below w.heap.size w W' := by
  obtain ⟨b, zs, rfl, hz, hI⟩ := h.pieces hm
  have := sum_gives w (some ⟨b, 0, none⟩) zs.length zs hI
  rw [hz] at this
  exact this
/-- The block that a call of the variadic kind lays. -/
theorem Lists.new {w : World} (xs : List ((Option Addr × Nat) × List UInt8)) (h : ∀ x ∈ xs, InB w w.heap.size x.1.1 x.1.2 x.2) :
    Lists (xs.map (·.2)) (.slice (some ⟨w.heap.size, 0, none⟩) xs.length xs.length) (w.alloc (.cells (xs.map fun x => Value.slice x.1.1 x.2.length x.1.2).toArray 30)) := by
  refine ⟨w.heap.size, by simp, by simp, fun j hj => ?_⟩
  have hj' : j < xs.length := by simpa using hj
  refine ⟨xs[j].1.1, xs[j].1.2, ?_, ?_⟩
  · rw [(BlkIs.new w 30 _).cell]
    simp [hj']
  · have := h xs[j] (List.getElem_mem hj')
    rw [List.getElem_map]
    exact (this.below ((Below.refl _ w).alloc (Nat.le_refl _) _)).more (by simp)
theorem OwnB.base {w : World} {b b' : Nat} {v : Value} {l : List UInt8} (h : OwnB w b v l) (hb : b' ≤ b) : OwnB w b' v l := by
  refine ⟨h.1, ?_⟩
  rcases h.2 with h | ⟨g, cap, cur, h1, h2, h3⟩
  · exact .inl h
  · exact .inr ⟨g, cap, cur, h1, by omega, h3⟩
theorem GivesB.from {w w1 : World} {l : List UInt8} {e : Ending} {w' : World} (h : GivesB w1 l e w') (hb : Below w.heap.size w w1) : GivesB w l e w' := by
  obtain ⟨v, he, hown, hB⟩ := h
  exact ⟨v, he, hown.base hb.size, hb.trans (hB.mono hb.size)⟩
/-- Concat of two, in a block just laid; of three. -/
theorem concat2_gives (W : World) (A A2 : Option Addr) (c c2 : Nat) (l l2 : List UInt8) (hin : InB W W.heap.size A c l) (hin2 : InB W W.heap.size A2 c2 l2) (hf : l.length + l2.length ≤ 1000000000) :
    Calls Try.prog 142 #[.slice (some ⟨W.heap.size, 0, none⟩) 2 2] (W.alloc (.cells #[.slice A l.length c, .slice A2 l2.length c2] 30)) (GivesB W (l ++ l2)) := by
  have hN := Lists.new (w := W) [((A, c), l), ((A2, c2), l2)] (by
    intro x hx
    simp only [List.mem_cons, List.not_mem_nil, or_false] at hx
    rcases hx with rfl | rfl
    · exact hin
    · exact hin2)
  have h := concatL_gives hN (by simp) (by simpa using hf)
  refine h.mono fun e w' hg => ?_
  have := hg.from ((Below.refl _ W).alloc (Nat.le_refl _) _)
  simpa using this

namespace Reg
variable {L : List (Nat × Fact)} {ops : Array Oper} {w0 : World} {o : Oper}
theorem l_build4 (t1 t2 t3 t4 : Tmp) (l1 l2 l3 l4 : List UInt8) (ho : o.op = .buildSlice 168 4 #[(0, .tmp t1), (1, .tmp t2), (2, .tmp t3), (3, .tmp t4)])
    (c1 : (o.looksAt ops).contains t1 = true) (c2 : (o.looksAt ops).contains t2 = true) (c3 : (o.looksAt ops).contains t3 = true) (c4 : (o.looksAt ops).contains t4 = true)
    (f1 : factOf L t1 = .res l1) (f2 : factOf L t2 = .res l2) (f3 : factOf L t3 = .res l3) (f4 : factOf L t4 = .res l4) (hd : FD L o.dst = .pred (Lists [l1, l2, l3, l4]) (lists_stable _)) : RunOk Try.prog ops (FSof L) w0 o := by
  intro a w K Q hG hl hK
  have g1 : (factOf L t1).holds (a.eval (.tmp t1)) w := hl t1 c1
  have g2 : (factOf L t2).holds (a.eval (.tmp t2)) w := hl t2 c2
  have g3 : (factOf L t3).holds (a.eval (.tmp t3)) w := hl t3 c3
  have g4 : (factOf L t4).holds (a.eval (.tmp t4)) w := hl t4 c4
  rw [f1] at g1
  rw [f2] at g2
  rw [f3] at g3
  rw [f4] at g4
  obtain ⟨A1, k1, e1, h1⟩ := g1
  obtain ⟨A2, k2, e2, h2⟩ := g2
  obtain ⟨A3, k3, e3, h3⟩ := g3
  obtain ⟨A4, k4, e4, h4⟩ := g4
  have hN := Lists.new (w := w) [((A1, k1), l1), ((A2, k2), l2), ((A3, k3), l3), ((A4, k4), l4)] (by
    intro x hx
    simp only [List.mem_cons, List.not_mem_nil, or_false] at hx
    rcases hx with rfl | rfl | rfl | rfl
    · exact h1
    · exact h2
    · exact h3
    · exact h4)
  have key : ∀ ρ : Operand → Value, ρ (.tmp t1) = .slice A1 l1.length k1 → ρ (.tmp t2) = .slice A2 l2.length k2 → ρ (.tmp t3) = .slice A3 l3.length k3 → ρ (.tmp t4) = .slice A4 l4.length k4 →
      (execOp ρ o).run Try.prog w = .ok (.value (.slice (some ⟨w.heap.size, 0, none⟩) 4 4)) (w.alloc (.cells #[.slice A1 l1.length k1, .slice A2 l2.length k2, .slice A3 l3.length k3, .slice A4 l4.length k4] 30)) :=
    fun ρ h1 h2 h3 h4 => by simp [execOp, ho, h1, h2, h3, h4, go_sem, Result.andThen]
  unfold Oper.wp
  rw [key _ e1 e2 e3 e4]
  exact hK _ _ (Grow.alloc _ _) (fsd hd hN)
end Reg
end Go.Proofs.Ytlelckdcmlpmdaa
/- frame: Check, place, Sectors, FrameAt, PageAt. -/
namespace Go.Proofs.Ytlelckdcmlpmdaa
open Go Go.RowKit Lou

def planOk (fr pg : Int) : Bool := isIn 1 2000 [fr] && isIn 1 2000 [pg]
theorem planOk_iff (fr pg : Int) : planOk fr pg = true ↔ (1 ≤ fr ∧ fr ≤ 2000) ∧ (1 ≤ pg ∧ pg ≤ 2000) := by
  simp [planOk, isIn_one]

theorem InN.one (W : World) (x : Int) : InN (W.alloc (.cells #[.int .i64 x] 3)) (some ⟨W.heap.size, 0, none⟩) [x] := ⟨fun _ => ⟨_, _, rfl, fun j hj => by
  obtain rfl : j = 0 := by simpa using hj
  exact (BlkIs.new W 3 #[.int .i64 x]).boxed⟩⟩
theorem withinOne_gives (W : World) (lo hi x : Int) :
    Calls Try.prog 126 #[.int .i64 lo, .int .i64 hi, .slice (some ⟨W.heap.size, 0, none⟩) 1 1] (W.alloc (.cells #[.int .i64 x] 3)) fun e w' => e = .returned (.bool (isIn lo hi [x])) ∧ Below W.heap.size W w' :=
  (within_gives (W.alloc (.cells #[.int .i64 x] 3)) (some ⟨W.heap.size, 0, none⟩) 1 [x] (InN.one W x) (fun g o e => by injection e with e; injection e with e1; subst e1; simp) (by simp) lo hi).mono fun e w' ⟨he, hB⟩ =>
    ⟨he, ((Below.refl _ W).alloc (Nat.le_refl _) _).trans (hB.mono (by simp))⟩

set_option maxRecDepth 100000 in
set_option maxHeartbeats 1000000 in
theorem check_gives (fr pg : Int) (w : World) :
    Calls Try.prog 61 #[.agg #[.int .i64 fr, .int .i64 pg]] w fun e w' => e = .returned (.int .i64 (if planOk fr pg then 0 else 2)) ∧ Below w.heap.size w w' := by
  have hb := BlkIs.new w 90 #[.int .i64 fr, .int .i64 pg]
  have hB0 : Below w.heap.size w (w.alloc (.cells #[.int .i64 fr, .int .i64 pg] 90)) := (Below.refl _ w).alloc (Nat.le_refl _) _
  obtain ⟨v, hv⟩ : ∃ v : Int, v = if planOk fr pg then 0 else 2 := ⟨_, rfl⟩
  rw [← hv]
  have hV := Lib.hid hv
  clear hv
  go_enter Try.func61, Try.ntmps61
  have H := withinOne_gives (w.alloc (.cells #[.int .i64 fr, .int .i64 pg] 90)) 1 2000 fr
  rw [World.size_alloc] at H
  cases h1 : isIn 1 2000 [fr] with
  | false =>
    rw [h1] at H
    have e2 : v = 2 := by rw [hV.out]; simp [planOk, h1]
    subst e2
    go_wp2_with (go_at_call 126; refine H.mono ?_; rintro e w1 ⟨rfl, hB⟩)
    go_ret
    exact ⟨rfl, hB0.trans (hB.mono (by simp))⟩
  | true =>
    rw [h1] at H
    go_wp2_with fail
    refine H.mono ?_
    clear H
    rintro e w1 ⟨rfl, hB⟩
    have hb1 := hb.below hB (by simp)
    have hc1 : w1.cell? ⟨w.heap.size, 1, none⟩ = some (.int .i64 pg) := by rw [hb1.cell]; rfl
    have hB1 := hB0.trans (hB.mono (by simp))
    have H := withinOne_gives w1 1 2000 pg
    go_wp2_with fail
    refine H.mono ?_
    clear H
    rintro e w2 ⟨rfl, hB2⟩
    cases h2 : isIn 1 2000 [pg] with
    | false =>
      have e2 : v = 2 := by rw [hV.out]; simp [planOk, h2]
      subst e2
      go_wp2
      go_ret
      exact ⟨rfl, hB1.trans (hB2.mono hB1.size)⟩
    | true =>
      have e2 : v = 0 := by rw [hV.out]; simp [planOk, h1, h2]
      subst e2
      go_wp2
      go_ret
      exact ⟨rfl, hB1.trans (hB2.mono hB1.size)⟩

def plE (ok : Bool) (i many : Int) : Int := if ok then (if 0 ≤ i ∧ i < many then 0 else 4) else 2
def PlNone (e : Int) (a : Act) : Prop := ∃ u0 u1 u2 u3 u4 u5 u6 u7 u8 u10 u11 u12 u13 u14 u15 u16 u17 u18 u19 u20 u21 u22 u23, a = { tmps := #[u0, u1, u2, u3, u4, u5, u6, u7, u8, .int .i64 e, u10, u11, u12, u13, u14, u15, u16, u17, u18, u19, u20, u21, u22, u23], defers := [] }

set_option maxRecDepth 100000 in
set_option maxHeartbeats 2000000 in
theorem place_gives (fr pg i many r : Int) (g : FuncId) (lb : Array Value) (eg : ∀ args w, (callFunc g args).run Try.prog w = .ok (.enter g args) w) (w : World)
    (hof : planOk fr pg = true → 0 ≤ i → i < many → ∀ W, Below w.heap.size w W → Calls Try.prog g lb W fun e w' => e = .returned (.int .i64 r) ∧ W = w') :
    Calls Try.prog 122 #[.agg #[.int .i64 fr, .int .i64 pg], .int .i64 i, .int .i64 many, .func (.func g) #[] lb] w fun e w' =>
      e = .returned (.tuple #[.int .i64 (if plE (planOk fr pg) i many = 0 then r else 0), .int .i64 (plE (planOk fr pg) i many)]) ∧ Below w.heap.size w w' := by
  have hB0 : Below w.heap.size w (w.alloc (.cells #[.int .i64 fr, .int .i64 pg] 90)) := (Below.refl _ w).alloc (Nat.le_refl _) _
  obtain ⟨v, hv⟩ : ∃ v : Int, v = plE (planOk fr pg) i many := ⟨_, rfl⟩
  obtain ⟨u, hu⟩ : ∃ u : Int, u = if v = 0 then r else 0 := ⟨_, rfl⟩
  rw [← hv, ← hu]
  have hV := Lib.hid hv
  have hU := Lib.hid hu
  clear hv hu
  go_enter Try.func122, Try.ntmps122
  go_wp2_with fail
  refine wp_scope_jumps (rest := ?rest) 0 (fun a w' => Hid (u = 0) ∧ PlNone v a ∧ Below w.heap.size w w') (fun _ _ => 0) ?hf ?first ?pass
  case hf => exact rfl
  case pass =>
    rintro a w' ⟨hn, ⟨u0, u1, u2, u3, u4, u5, u6, u7, u8, u10, u11, u12, u13, u14, u15, u16, u17, u18, u19, u20, u21, u22, u23, rfl⟩, hB⟩
    go_wp2
    simp only [Exit.jump]
    go_wp2
    refine bodyPost_ret (results_tmp2 rfl _ _ _) rfl ?_
    have e := hn.out
    subst e
    exact ⟨rfl, hB⟩
  case first =>
    have H := check_gives fr pg (w.alloc (.cells #[.int .i64 fr, .int .i64 pg] 90))
    cases hp : planOk fr pg with
    | false =>
      rw [hp] at H
      have e2 : v = 2 := by rw [hV.out, hp]; rfl
      have eu : Hid (u = 0) := Lib.hid (by rw [hU.out, e2]; rfl)
      subst e2
      go_wp2_with (go_at_call 61; refine H.mono ?_; rintro e w1 ⟨rfl, hB⟩)
      go_step3
      exact ⟨rfl, eu, by repeat (first | exact rfl | apply Exists.intro), hB0.trans (hB.mono (by simp))⟩
    | true =>
      rw [hp] at H
      by_cases h1 : 0 ≤ i ∧ i < many
      · have e2 : v = 0 := by rw [hV.out, hp]; simp [plE, h1]
        have eu : u = r := by rw [hU.out, e2]; rfl
        subst e2 eu
        have hof := hof hp h1.1 h1.2
        obtain ⟨h1, h2⟩ := h1
        go_wp2_with (go_at_call 61; refine H.mono ?_; rintro e w1 ⟨rfl, hB⟩)
        refine (hof _ (hB0.trans (hB.mono (by simp)))).mono ?_
        rintro e w2 ⟨rfl, rfl⟩
        go_wp2
        simp only [Exit.jump]
        refine bodyPost_ret (results_tmp2 rfl _ _ _) rfl ?_
        exact ⟨rfl, hB0.trans (hB.mono (by simp))⟩
      · have e2 : v = 4 := by rw [hV.out, hp]; simp [plE, h1]
        have eu : Hid (u = 0) := Lib.hid (by rw [hU.out, e2]; rfl)
        subst e2
        have h2 : i < 0 ∨ (0 ≤ i ∧ many ≤ i) := by omega
        clear h1
        rcases h2 with h2 | ⟨h2, h3⟩
        · go_wp2_with (go_at_call 61; refine H.mono ?_; rintro e w1 ⟨rfl, hB⟩)
          go_step3
          exact ⟨rfl, eu, by repeat (first | exact rfl | apply Exists.intro), hB0.trans (hB.mono (by simp))⟩
        · go_wp2_with (go_at_call 61; refine H.mono ?_; rintro e w1 ⟨rfl, hB⟩)
          go_step3
          exact ⟨rfl, eu, by repeat (first | exact rfl | apply Exists.intro), hB0.trans (hB.mono (by simp))⟩
end Go.Proofs.Ytlelckdcmlpmdaa
/- frame.fits. -/
namespace Go.Proofs.Ytlelckdcmlpmdaa
open Go Go.RowKit Lou

/-- A head, as a value. -/
def headCells (s e : Nat) (z c : Int) : Array Value := #[.int .u64 (s : Int), .int .u64 (e : Int), .int .i64 z, .int .i64 c]
def headOk (z c : Int) : Bool := isIn 0 2000 [z] && isIn 0 2000 [c]
theorem headOk_iff (z c : Int) : headOk z c = true ↔ (0 ≤ z ∧ z ≤ 2000) ∧ (0 ≤ c ∧ c ≤ 2000) := by
  simp [headOk, isIn_one]

set_option maxRecDepth 100000 in
set_option maxHeartbeats 1000000 in
theorem fits_gives (s e : Nat) (z c : Int) (w : World) :
    Calls Try.prog 136 #[.agg #[.int .u64 (s : Int), .int .u64 (e : Int), .int .i64 z, .int .i64 c]] w fun x w' => x = .returned (.bool (headOk z c)) ∧ Below w.heap.size w w' := by
  have hb := BlkIs.new w 109 #[.int .u64 (s : Int), .int .u64 (e : Int), .int .i64 z, .int .i64 c]
  have hB0 : Below w.heap.size w (w.alloc (.cells #[.int .u64 (s : Int), .int .u64 (e : Int), .int .i64 z, .int .i64 c] 109)) := (Below.refl _ w).alloc (Nat.le_refl _) _
  have H := withinOne_gives (w.alloc (.cells #[.int .u64 (s : Int), .int .u64 (e : Int), .int .i64 z, .int .i64 c] 109)) 0 2000 z
  rw [World.size_alloc] at H
  obtain ⟨v, hv⟩ : ∃ v : Bool, v = headOk z c := ⟨_, rfl⟩
  rw [← hv]
  have hV := Lib.hid hv
  clear hv
  go_enter Try.func136, Try.ntmps136
  cases h1 : isIn 0 2000 [z] with
  | false =>
    rw [h1] at H
    have e2 : v = false := by rw [hV.out]; simp [headOk, h1]
    subst e2
    go_wp2_with (go_at_call 126; refine H.mono ?_; rintro e w1 ⟨rfl, hB⟩)
    go_ret
    exact ⟨rfl, hB0.trans (hB.mono (by simp))⟩
  | true =>
    rw [h1] at H
    go_wp2_with fail
    refine H.mono ?_
    clear H
    rintro e w1 ⟨rfl, hB⟩
    have hb1 := hb.below hB (by simp)
    have hc1 : w1.cell? ⟨w.heap.size, 3, none⟩ = some (.int .i64 c) := by rw [hb1.cell]; rfl
    have hB1 := hB0.trans (hB.mono (by simp))
    have H := withinOne_gives w1 0 2000 c
    have e2 : v = isIn 0 2000 [c] := by rw [hV.out]; simp [headOk, h1]
    generalize isIn 0 2000 [c] = b at *
    subst e2
    go_wp2_with fail
    refine H.mono ?_
    clear H
    rintro e w2 ⟨rfl, hB2⟩
    go_wp2
    go_ret
    exact ⟨rfl, hB1.trans (hB2.mono hB1.size)⟩
end Go.Proofs.Ytlelckdcmlpmdaa
/- math/bits.Mul of small numbers. -/
namespace Go.Proofs.Ytlelckdcmlpmdaa
open Go Go.RowKit Lou

theorem and_mask (x : Nat) (h : x < 4294967296) : bits .and .u64 (x : Int) 4294967295 = (x : Int) := by
  have h2 := u64_and_nat x 4294967295 (by omega) (by omega)
  have e : x &&& 4294967295 = x % 4294967296 := Nat.and_two_pow_sub_one_eq_mod x 32
  rw [e, Nat.mod_eq_of_lt h] at h2
  exact h2
set_option maxRecDepth 100000 in
set_option maxHeartbeats 1000000 in
theorem mul64_gives (x y : Nat) (hx : x < 65536) (hy : y < 65536) (w : World) : Calls Try.prog 223 #[.int .u64 x, .int .u64 y] w fun e w' => e = .returned (.tuple #[.int .u64 0, .int .u64 ((x * y : Nat) : Int)]) ∧ w = w' := by
  have hxy : x * y < 4294967296 := Nat.mul_lt_mul'' hx hy
  have e1 := and_mask x (by omega)
  have e2 := and_mask y (by omega)
  have e3 := and_mask (x * y) hxy
  have h0 : (x : Int) / 4294967296 = 0 := by omega
  have h1 : (y : Int) / 4294967296 = 0 := by omega
  have h2 : ((x * y : Nat) : Int) / 4294967296 = 0 := by omega
  have h3 : IntKind.u64.wrap ((x * y : Nat) : Int) = ((x * y : Nat) : Int) := by
    show ((x * y : Nat) : Int) % 18446744073709551616 = _
    omega
  have h4 : IntKind.u64.wrap 0 = 0 := by decide
  have hm : ((x * y : Nat) : Int) = (x : Int) * (y : Int) := by simp
  rw [hm] at e3 h2 h3 ⊢
  have h5 : bits .and .u64 0 4294967295 = 0 := and_mask 0 (by omega)
  clear hm hxy hx hy
  go_enter Try.func223, Try.ntmps223
  go_wp2
  refine bodyPost_ret (results_tmp2 rfl _ _ _) rfl ?_
  exact ⟨rfl, rfl⟩
set_option maxRecDepth 100000 in
set_option maxHeartbeats 1000000 in
theorem mul_gives (x y : Nat) (hx : x < 65536) (hy : y < 65536) (w : World) : Calls Try.prog 205 #[.int .u64 x, .int .u64 y] w fun e w' => e = .returned (.tuple #[.int .u64 0, .int .u64 ((x * y : Nat) : Int)]) ∧ w = w' := by
  have H := mul64_gives x y hx hy w
  generalize x * y = z at *
  go_enter Try.func205, Try.ntmps205
  go_wp2_with fail
  refine H.mono ?_
  rintro e w' ⟨rfl, rfl⟩
  go_wp2
  refine bodyPost_ret (results_tmp2 rfl _ _ _) rfl ?_
  exact ⟨rfl, rfl⟩
end Go.Proofs.Ytlelckdcmlpmdaa
/- A region that draws its order, by an invariant of whatever kind: over which operations are done, the slots, the world. -/
namespace Go.Proofs.Ytlelckdcmlpmdaa
open Go Go.RowKit
namespace Reg
variable {P : Program} {ops : Array Oper}

/-- Each edge that binds leads back. -/
def backs (ops : Array Oper) : Bool := ops.toList.zipIdx.all fun (o, i) => o.after.toList.all fun e => !Region.binds .any e || decide (e.on < i)
/-- Slot t, looked at by o (number i): each operation that writes it comes ahead by an edge. -/
def ahead (ops : Array Oper) (o : Oper) (t : Nat) : Bool := ops.toList.zipIdx.all fun (p, j) => p.dst != some t || (o.after.toList.any fun e => Region.binds .any e && e.on == j)
/-- .. each operation that writes it waits for number i. -/
def waits (ops : Array Oper) (i : Nat) (t : Nat) : Bool := ops.toList.zipIdx.all fun (p, _) => p.dst != some t || (p.after.toList.any fun e => Region.binds .any e && e.on == i)
theorem backs_spec (h : backs ops = true) {i : Nat} {o : Oper} (ho : ops[i]? = some o) : ∀ e ∈ o.after.toList, Region.binds .any e = true → e.on < i := by
  unfold backs at h
  rw [List.all_eq_true] at h
  have hm : (o, i) ∈ ops.toList.zipIdx := by
    rw [List.mem_zipIdx_iff_getElem?]
    simpa using ho
  have := h _ hm
  simp only [List.all_eq_true] at this
  intro e he hb
  have := this e he
  simpa [hb] using this
theorem ahead_spec {o : Oper} {t : Nat} (h : ahead ops o t = true) {j : Nat} {p : Oper} (hp : ops[j]? = some p) (hd : p.dst = some t) : ∃ e ∈ o.after.toList, Region.binds .any e = true ∧ e.on = j := by
  unfold ahead at h
  rw [List.all_eq_true] at h
  have hm : (p, j) ∈ ops.toList.zipIdx := by
    rw [List.mem_zipIdx_iff_getElem?]
    simpa using hp
  have := h _ hm
  simp only [hd, bne_self_eq_false, Bool.false_or, List.any_eq_true, Bool.and_eq_true, beq_iff_eq] at this
  obtain ⟨e, he, hb, hj⟩ := this
  exact ⟨e, he, hb, hj⟩
theorem waits_spec {i t : Nat} (h : waits ops i t = true) {j : Nat} {p : Oper} (hp : ops[j]? = some p) (hd : p.dst = some t) : ∃ e ∈ p.after.toList, Region.binds .any e = true ∧ e.on = i := by
  unfold waits at h
  rw [List.all_eq_true] at h
  have hm : (p, j) ∈ ops.toList.zipIdx := by
    rw [List.mem_zipIdx_iff_getElem?]
    simpa using hp
  have := h _ hm
  simp only [hd, bne_self_eq_false, Bool.false_or, List.any_eq_true, Bool.and_eq_true, beq_iff_eq] at this
  obtain ⟨e, he, hb, hj⟩ := this
  exact ⟨e, he, hb, hj⟩

/-- One operation, in whatever order: where it is ready it leads from the invariant to the invariant. -/
def StepOk (P : Program) (ops : Array Oper) (Inv : Array Bool → Act → World → Prop) (i : Nat) (o : Oper) : Prop :=
  ∀ (listed : Array Bool) (a : Act) (w : World) (K : Act → World → Prop) (Q : Exit → Act → World → Prop), listed.size = ops.size → listed.getD i true = false → (∀ e ∈ o.after.toList, Region.binds .any e = true → listed.getD e.on false = true) →
    Inv listed a w → (∀ v w', Inv (listed.setIfInBounds i true) (a.put o.dst v) w' → K (a.put o.dst v) w') →
    (if Region.wanted o (yielded ops a.tmps) then o.wp P a w K Q ∨ (o.asks P a w ∧ LetsOut Q) else K (a.put o.dst undef) w)

theorem region_inv (hm : P.follows .mixedOrders = true) (hcov : backs ops = true) {id : Nat} {a0 : Act} {w0 : World} {Q : Exit → Act → World → Prop} (Inv : Array Bool → Act → World → Prop)
    (h0 : Inv (Array.replicate ops.size false) a0 w0.drew) (hstep : ∀ i o, ops[i]? = some o → StepOk P ops Inv i o)
    (hend : ∀ listed a w, listed.size = ops.size → (∀ i, i < ops.size → listed.getD i true = true) → Inv listed a w → Q .normal a w) :
    (Code.region id ops true).wp P Q a0 w0 := by
  refine wp_region_any hm ?_
  have key : ∀ (fuel : Nat) (listed : Array Bool) (a : Act) (w : World), listed.size = ops.size → left listed ≤ fuel → Inv listed a w → wpAny P .any ops Q fuel listed a w := by
    intro fuel
    have hdone : ∀ (listed : Array Bool) (a : Act) (w : World), listed.size = ops.size → Inv listed a w → Region.ready .any ops listed = [] → Q .normal a w := by
      intro listed a w hs hJ hr
      refine hend listed a w hs ?_ hJ
      intro i
      induction i using Nat.strongRecOn with
      | _ i ih =>
        intro hi
        cases hl : listed.getD i true with
        | true => rfl
        | false =>
          exfalso
          have : i ∈ Region.ready .any ops listed := by
            unfold Region.ready
            simp only [List.mem_filter, List.mem_range, Bool.and_eq_true, Bool.not_eq_true']
            refine ⟨hi, hl, ?_⟩
            have ho : ops[i]? = some ops[i] := Array.getElem?_eq_getElem hi
            simp only [ho, Option.map_some, Option.getD_some]
            rw [Array.all_eq_true_iff_forall_mem]
            intro e he
            have hc := backs_spec hcov ho e (Array.mem_toList_iff.2 he)
            cases hb : Region.binds .any e with
            | false => simp
            | true =>
              have hlt := hc hb
              have h1 := ih e.on hlt (by omega)
              have h2 : e.on < listed.size := by omega
              simp only [Array.getD, h2, dif_pos] at h1 ⊢
              simpa using h1
          rw [hr] at this
          cases this
    induction fuel with
    | zero =>
      intro listed a w hs hf hJ
      have hr : Region.ready .any ops listed = [] := by
        rcases hr : Region.ready .any ops listed with _ | ⟨i, r⟩
        · rfl
        · exfalso
          obtain ⟨o, ho, hl, _⟩ := ready_mem (ops := ops) (listed := listed) (i := i) (by rw [hr]; simp)
          have hi : i < listed.size := by rw [hs]; exact (Array.getElem?_eq_some_iff.1 ho).1
          have hmem : listed[i] ∈ listed.toList.filter (! ·) := by
            rw [List.mem_filter]
            refine ⟨by simp, ?_⟩
            have hl' : listed[i] = false := by simpa [Array.getD, hi] using hl
            simp [hl']
          have : 0 < left listed := List.length_pos_of_mem hmem
          omega
      exact ⟨hr, hdone listed a w hs hJ hr⟩
    | succ fuel ih =>
      intro listed a w hs hf hJ
      refine ⟨hdone listed a w hs hJ, fun i hi => ?_⟩
      obtain ⟨o, ho, hl, hedges⟩ := ready_mem hi
      have hisz : i < listed.size := by rw [hs]; exact (Array.getElem?_eq_some_iff.1 ho).1
      have hnext : ∀ v w', Inv (listed.setIfInBounds i true) (a.put o.dst v) w' → wpAny P .any ops Q fuel (listed.setIfInBounds i true) (a.put o.dst v) w' := by
        intro v w' hv
        refine ih _ _ _ (by simpa using hs) ?_ hv
        have hl' : listed[i] = false := by simpa [Array.getD, hisz] using hl
        have : left (listed.setIfInBounds i true) < left listed := by
          unfold left
          rw [Array.toList_setIfInBounds]
          have e1 : listed.toList = listed.toList.take i ++ false :: listed.toList.drop (i + 1) := by
            have h3 : listed.toList[i]'(by simpa using hisz) = false := by simpa using hl'
            conv => lhs; rw [← List.take_append_drop i listed.toList, List.drop_eq_getElem_cons (by simpa using hisz), h3]
          rw [List.set_eq_take_append_cons_drop, if_pos (by simpa using hisz)]
          conv => rhs; rw [e1]
          simp
        omega
      have := hstep i o ho listed a w (fun a' w' => wpAny P .any ops Q fuel (listed.setIfInBounds i true) a' w') Q hs hl hedges hJ hnext
      unfold wpOp
      simp only [ho]
      exact this
  refine key ops.size _ a0 _ (by simp) ?_ h0
  unfold left
  simp
end Reg
end Go.Proofs.Ytlelckdcmlpmdaa
/- Regions that draw their order and write: facts on slots, and an invariant beside them. -/
namespace Go.Proofs.Ytlelckdcmlpmdaa
open Go Go.RowKit Lou
namespace Reg
variable {P : Program} {ops : Array Oper}

abbrev WInv := Array Bool → Act → World → Prop
structure J2 (ops : Array Oper) (FS : Tmp → Value → World → Prop) (a0 : Act) (D : List Nat) (WI : WInv) (listed : Array Bool) (a : Act) (w : World) : Prop where
  size : a.tmps.size = a0.tmps.size
  defers : a.defers = a0.defers
  facts : ∀ t, Known ops listed t → FS t (a.eval (.tmp t)) w
  wi : WI listed a w
  rest : ∀ t, D.contains t = false → a.eval (.tmp t) = a0.eval (.tmp t)
  old : ∀ t, (∀ (j : Nat) (p : Oper), ops[j]? = some p → p.dst = some t → listed.getD j true = false) → a.eval (.tmp t) = a0.eval (.tmp t)
  closed : ∀ (j : Nat) (p : Oper), ops[j]? = some p → listed.getD j true = true → ∀ e ∈ p.after.toList, Region.binds .any e = true → listed.getD e.on false = true

/-- An operation is in order: from what is known of the slots that it looks at and the invariant, it comes to what is claimed of its own and the invariant; what is known of other slots stays known. -/
def Op2 (P : Program) (ops : Array Oper) (a0 : Act) (FS : Tmp → Value → World → Prop) (WI : WInv) (i : Nat) (o : Oper) : Prop :=
  ∀ (listed : Array Bool) (a : Act) (w : World) (K : Act → World → Prop) (Q : Exit → Act → World → Prop), listed.size = ops.size → listed.getD i true = false → (∀ e ∈ o.after.toList, Region.binds .any e = true → listed.getD e.on false = true) →
    WI listed a w → (∀ t, (o.looksAt ops).contains t = true → ahead ops o t = true → FS t (a.eval (.tmp t)) w) → (∀ t, waits ops i t = true → a.eval (.tmp t) = a0.eval (.tmp t)) →
    (∀ v w', (∀ t u, FS t u w → FS t u w') → FSd FS o.dst v w' → WI (listed.setIfInBounds i true) (a.put o.dst v) w' → K (a.put o.dst v) w') →
    (if Region.wanted o (yielded ops a.tmps) then o.wp P a w K Q ∨ (o.asks P a w ∧ LetsOut Q) else K (a.put o.dst undef) w)
def AllOp2 (P : Program) (ops : Array Oper) (a0 : Act) (FS : Tmp → Value → World → Prop) (WI : WInv) : Nat → List Oper → Prop
  | _, [] => True
  | k, o :: r => Op2 P ops a0 FS WI k o ∧ AllOp2 P ops a0 FS WI (k + 1) r
theorem AllOp2.get {a0 : Act} {FS : Tmp → Value → World → Prop} {WI : WInv} : ∀ {l : List Oper} {k : Nat}, AllOp2 P ops a0 FS WI k l → ∀ i o, l[i]? = some o → Op2 P ops a0 FS WI (k + i) o
  | [], _, _, i, o, h => by simp at h
  | x :: r, k, h, 0, o, ho => by
    simp at ho
    subst ho
    exact h.1
  | x :: r, k, h, i + 1, o, ho => by
    have := AllOp2.get h.2 i o (by simpa using ho)
    rw [show k + (i + 1) = k + 1 + i from by omega]
    exact this

/-- An operation by the rules of the plain kind, whatever the world. -/
theorem op2_of {a0 : Act} {FS : Tmp → Value → World → Prop} {WI : WInv} {i : Nat} {o : Oper} (hst : ∀ t v w w', FS t v w → Grow w w' → FS t v w') (h : ∀ w0, OpOk P ops FS w0 o) (hah : ((o.looksAt ops).all (ahead ops o)) = true)
    (hWI : ∀ listed a v w w', WI listed a w → Grow w w' → WI (listed.setIfInBounds i true) (a.put o.dst v) w') : Op2 P ops a0 FS WI i o := by
  intro listed a w K Q hs hl he hw hlook _ hK
  exact h w a w K Q (Grow.refl w) (fun t ht => hlook t ht (by
    rw [List.all_eq_true] at hah
    exact hah t (by simpa using ht))) (fun v w' hg hf => hK v w' (fun t u hu => hst t u w w' hu hg) hf (hWI _ _ _ _ _ hw hg))

theorem region2 (hm : P.follows .mixedOrders = true) (hcov : backs ops = true) {id : Nat} {a0 : Act} {w0 : World} {Q : Exit → Act → World → Prop} (n : Nat) (hn : a0.tmps.size = n) (hdst : dstsIn ops n = true) (D : List Nat) (hD : dstsAre ops D = true)
    (FS : Tmp → Value → World → Prop) (WI : WInv) (hstart : ∀ t, (∀ o ∈ ops.toList, o.dst ≠ some t) → FS t (a0.eval (.tmp t)) w0.drew) (h0 : WI (Array.replicate ops.size false) a0 w0.drew)
    (hok : AllOp2 P ops a0 FS WI 0 ops.toList)
    (hend : ∀ listed a w, (∀ i, i < ops.size → listed.getD i true = true) → J2 ops FS a0 D WI listed a w → (∀ t, FS t (a.eval (.tmp t)) w) → Q .normal a w) :
    (Code.region id ops true).wp P Q a0 w0 := by
  have hD' : ∀ o ∈ ops.toList, ∀ d, o.dst = some d → D.contains d = true := by
    intro o ho d hd
    unfold dstsAre at hD
    rw [List.all_eq_true] at hD
    have := hD o ho
    simpa [hd] using this
  have hdst' : ∀ o ∈ ops.toList, ∀ d, o.dst = some d → d < n := by
    intro o ho d hd
    unfold dstsIn at hdst
    rw [List.all_eq_true] at hdst
    have := hdst o ho
    simpa [hd] using this
  refine region_inv hm hcov (J2 ops FS a0 D WI) ⟨rfl, rfl, ?_, h0, fun _ _ => rfl, fun _ _ => rfl, fun j p hp h => by
    have hj := (Array.getElem?_eq_some_iff.1 hp).1
    simp [Array.getD, hj] at h⟩ ?_ ?_
  · intro t ht
    refine hstart t ?_
    intro o ho hd
    obtain ⟨i, hi, rfl⟩ := List.getElem_of_mem ho
    have hi' : i < ops.size := by simpa using hi
    have := ht i ops[i] (Array.getElem?_eq_getElem hi') (by simpa using hd)
    simp [Array.getD, hi'] at this
  · intro i o ho listed a w K Q' hs hl hedges hJ hK
    have hom : o ∈ ops.toList := by
      obtain ⟨h1, h2⟩ := Array.getElem?_eq_some_iff.1 ho
      subst h2
      simp
    have hisz : i < listed.size := by rw [hs]; exact (Array.getElem?_eq_some_iff.1 ho).1
    have hold : ∀ t, waits ops i t = true → a.eval (.tmp t) = a0.eval (.tmp t) := by
      intro t ht
      refine hJ.old t ?_
      intro j p hp hd
      obtain ⟨e, he, hb, rfl⟩ := waits_spec ht hp hd
      cases hl2 : listed.getD j true with
      | false => rfl
      | true =>
        have := hJ.closed j p hp hl2 e he hb
        simp only [Array.getD, hisz, dif_pos] at this hl
        rw [hl] at this
        cases this
    have hlook : ∀ t, (o.looksAt ops).contains t = true → ahead ops o t = true → FS t (a.eval (.tmp t)) w := by
      intro t _ ht
      refine hJ.facts t ?_
      intro j p hp hd
      obtain ⟨e, he, hb, rfl⟩ := ahead_spec ht hp hd
      have := hedges e he hb
      have hlt : e.on < listed.size := by rw [hs]; exact (Array.getElem?_eq_some_iff.1 hp).1
      simp only [Array.getD, hlt, dif_pos] at this ⊢
      exact this
    have hop := hok.get i o (by simpa using ho)
    rw [Nat.zero_add] at hop
    refine hop listed a w K Q' hs hl hedges hJ.wi hlook hold ?_
    intro v w' hst hv hwi
    refine hK v w' ⟨?_, ?_, ?_, hwi, ?_, ?_, ?_⟩
    · cases hd : o.dst with
      | none => simpa [Act.put] using hJ.size
      | some d => simpa [Act.put] using hJ.size
    · cases hd : o.dst with
      | none => simpa [Act.put] using hJ.defers
      | some d => simpa [Act.put] using hJ.defers
    · intro t ht
      by_cases hdt : o.dst = some t
      · rw [hdt] at hv ⊢
        rw [eval_put_same (by rw [hJ.size, hn]; exact hdst' o hom t hdt)]
        exact hv
      · have hk : Known ops listed t := by
          intro j p hp hd
          have := ht j p hp hd
          by_cases e : i = j
          · subst e
            rw [ho] at hp
            injection hp with hp
            subst hp
            exact absurd hd hdt
          · simpa [Array.getD_eq_getD_getElem?, Array.getElem?_setIfInBounds, e] using this
        have := hst t _ (hJ.facts t hk)
        cases hd : o.dst with
        | none => simpa [Act.put] using this
        | some d =>
          rw [eval_put_other (by intro e; subst e; exact hdt hd)]
          exact this
    · intro t ht
      cases hd : o.dst with
      | none => simpa [Act.put] using hJ.rest t ht
      | some d =>
        rw [eval_put_other (by intro e; subst e; rw [hD' o hom t hd] at ht; cases ht)]
        exact hJ.rest t ht
    · intro t ht
      have hdt : o.dst ≠ some t := by
        intro hd
        have := ht i o ho hd
        simp [Array.getD_eq_getD_getElem?, Array.getElem?_setIfInBounds, hisz] at this
      have := hJ.old t (fun j p hp hd => by
        have h2 := ht j p hp hd
        have hij : i ≠ j := by
          intro e
          subst e
          rw [ho] at hp
          injection hp with hp
          subst hp
          exact hdt hd
        simpa [Array.getD_eq_getD_getElem?, Array.getElem?_setIfInBounds, hij] using h2)
      cases hd : o.dst with
      | none => simpa [Act.put] using this
      | some d =>
        rw [eval_put_other (by intro e; subst e; exact hdt hd)]
        exact this
    · intro j p hp hlj e he hb
      have hup : ∀ k, listed.getD k false = true → (listed.setIfInBounds i true).getD k false = true := by
        intro k hk
        by_cases e : i = k
        · subst e
          simp [Array.getD_eq_getD_getElem?, Array.getElem?_setIfInBounds, hisz]
        · simpa [Array.getD_eq_getD_getElem?, Array.getElem?_setIfInBounds, e] using hk
      by_cases e2 : i = j
      · subst e2
        rw [ho] at hp
        injection hp with hp
        subst hp
        exact hup _ (hedges e he hb)
      · refine hup _ (hJ.closed j p hp ?_ e he hb)
        simpa [Array.getD_eq_getD_getElem?, Array.getElem?_setIfInBounds, e2] using hlj
  · intro listed a w hs hall hJ
    refine hend listed a w hall hJ (fun t => hJ.facts t ?_)
    intro j p hp _
    exact hall j (Array.getElem?_eq_some_iff.1 hp).1
/-- region2 by two lists of facts. -/
theorem region2_facts {P : Program} {ops : Array Oper} (hm : P.follows .mixedOrders = true) (hcov : backs ops = true) {id : Nat} {a0 : Act} {w0 : World} {Q : Exit → Act → World → Prop} (n : Nat) (hn : a0.tmps.size = n) (hdst : dstsIn ops n = true) (D : List Nat) (hD : dstsAre ops D = true)
    (V W : List (Nat × Fact)) (hV : StartOk a0 w0.drew V) (hW : (W.all fun p => written ops p.1) = true) (WI : WInv) (h0 : WI (Array.replicate ops.size false) a0 w0.drew)
    (hok : AllOp2 P ops a0 (FSof (V ++ W)) WI 0 ops.toList)
    (hend : ∀ listed a w, (∀ i, i < ops.size → listed.getD i true = true) → J2 ops (FSof (V ++ W)) a0 D WI listed a w → (∀ t, FSof (V ++ W) t (a.eval (.tmp t)) w) → Q .normal a w) :
    (Code.region id ops true).wp P Q a0 w0 :=
  region2 hm hcov n hn hdst D hD (FSof (V ++ W)) WI (fun t ht => start_fact V W hV hW t ht) h0 hok hend
/-- The move of a slot that the region writes later. -/
theorem op2_mv_old {a0 : Act} {FS : Tmp → Value → World → Prop} {WI : WInv} {i : Nat} {o : Oper} (t : Tmp) (hg : o.guard = none) (ho : o.op = .move (.tmp t) ∨ o.op = .assign (.tmp t)) (hw : waits ops i t = true) (hd : ∀ w, FSd FS o.dst (a0.eval (.tmp t)) w)
    (hWI : ∀ listed a v w w', WI listed a w → Grow w w' → WI (listed.setIfInBounds i true) (a.put o.dst v) w') : Op2 P ops a0 FS WI i o := by
  intro listed a w K Q hs hl he hwi _ hold hK
  have e := hold t hw
  rw [if_pos (by simp [Region.wanted, hg])]
  left
  unfold Oper.wp execOp
  rcases ho with ho | ho <;> simp only [ho, Sem.run_pure, Oper.upon_value, e] <;> exact hK _ w (fun _ _ h => h) (hd w) (hWI _ _ _ _ _ hwi (Grow.refl w))
/-- Facts of values alone hold in whatever world. -/
def allVal : List (Nat × Fact) → Bool
  | [] => true
  | (_, .val _) :: r => allVal r
  | (_, .any) :: r => allVal r
  | _ => false
theorem factOf_val : ∀ {L : List (Nat × Fact)}, allVal L = true → ∀ t v w w', (factOf L t).holds v w → (factOf L t).holds v w'
  | [], _, t, v, w, w', h => h
  | (k, .val x) :: r, hv, t, v, w, w', h => by
    simp only [factOf] at h ⊢
    split
    · rename_i e
      rw [if_pos e] at h
      exact h
    · rename_i e
      rw [if_neg e] at h
      exact factOf_val (L := r) hv t v w w' h
  | (k, .any) :: r, hv, t, v, w, w', h => by
    simp only [factOf] at h ⊢
    split
    · trivial
    · rename_i e
      rw [if_neg e] at h
      exact factOf_val (L := r) hv t v w w' h
  | (k, .res l) :: r, hv, _, _, _, _, _ => by cases hv
  | (k, .pred p q) :: r, hv, _, _, _, _, _ => by cases hv
end Reg
end Go.Proofs.Ytlelckdcmlpmdaa
