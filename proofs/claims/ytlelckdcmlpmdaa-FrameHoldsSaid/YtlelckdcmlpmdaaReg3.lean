/- Regions that draw their order and write: facts on slots, and an invariant beside them. -/
import Derived.Test.YtlelckdcmlpmdaaReg2
import Derived.Test.YtlelckdcmlpmdaaActs
namespace Go.Proofs.Ytlelckdcmlpmdaa
open Go Go.RowKit Lou
namespace Reg
variable {P : Program} {ops : Array Oper}

abbrev WInv := Array Bool → Act → World → Prop
structure J2 (ops : Array Oper) (FS : Tmp → Value → World → Prop) (a0 : Act) (D : List Nat) (WI : WInv) (listed : Array Bool) (a : Act) (w : World) : Prop where
  size : a.tmps.size = a0.tmps.size
  defers : a.defers = a0.defers
  facts : ∀ t, Known ops listed t → FS t (a.eval (.tmp t)) w
  wi : WI listed a w
  rest : ∀ t, D.contains t = false → a.eval (.tmp t) = a0.eval (.tmp t)
  old : ∀ t, (∀ (j : Nat) (p : Oper), ops[j]? = some p → p.dst = some t → listed.getD j true = false) → a.eval (.tmp t) = a0.eval (.tmp t)
  closed : ∀ (j : Nat) (p : Oper), ops[j]? = some p → listed.getD j true = true → ∀ e ∈ p.after.toList, Region.binds .any e = true → listed.getD e.on false = true

/-- An operation is in order: from what is known of the slots that it looks at and the invariant, it comes to what is claimed of its own and the invariant; what is known of other slots stays known. -/
def Op2 (P : Program) (ops : Array Oper) (a0 : Act) (FS : Tmp → Value → World → Prop) (WI : WInv) (i : Nat) (o : Oper) : Prop :=
  ∀ (listed : Array Bool) (a : Act) (w : World) (K : Act → World → Prop) (Q : Exit → Act → World → Prop), listed.size = ops.size → listed.getD i true = false → (∀ e ∈ o.after.toList, Region.binds .any e = true → listed.getD e.on false = true) →
    WI listed a w → (∀ t, (o.looksAt ops).contains t = true → ahead ops o t = true → FS t (a.eval (.tmp t)) w) → (∀ t, waits ops i t = true → a.eval (.tmp t) = a0.eval (.tmp t)) →
    (∀ v w', (∀ t u, FS t u w → FS t u w') → FSd FS o.dst v w' → WI (listed.setIfInBounds i true) (a.put o.dst v) w' → K (a.put o.dst v) w') →
    (if Region.wanted o (yielded ops a.tmps) then o.wp P a w K Q ∨ (o.asks P a w ∧ LetsOut Q) else K (a.put o.dst undef) w)
def AllOp2 (P : Program) (ops : Array Oper) (a0 : Act) (FS : Tmp → Value → World → Prop) (WI : WInv) : Nat → List Oper → Prop
  | _, [] => True
  | k, o :: r => Op2 P ops a0 FS WI k o ∧ AllOp2 P ops a0 FS WI (k + 1) r
theorem AllOp2.get {a0 : Act} {FS : Tmp → Value → World → Prop} {WI : WInv} : ∀ {l : List Oper} {k : Nat}, AllOp2 P ops a0 FS WI k l → ∀ i o, l[i]? = some o → Op2 P ops a0 FS WI (k + i) o
  | [], _, _, i, o, h => by simp at h
  | x :: r, k, h, 0, o, ho => by
    simp at ho
    subst ho
    exact h.1
  | x :: r, k, h, i + 1, o, ho => by
    have := AllOp2.get h.2 i o (by simpa using ho)
    rw [show k + (i + 1) = k + 1 + i from by omega]
    exact this

/-- An operation by the rules of the plain kind, whatever the world. -/
theorem op2_of {a0 : Act} {FS : Tmp → Value → World → Prop} {WI : WInv} {i : Nat} {o : Oper} (hst : ∀ t v w w', FS t v w → Grow w w' → FS t v w') (h : ∀ w0, OpOk P ops FS w0 o) (hah : ((o.looksAt ops).all (ahead ops o)) = true)
    (hWI : ∀ listed a v w w', WI listed a w → Grow w w' → WI (listed.setIfInBounds i true) (a.put o.dst v) w') : Op2 P ops a0 FS WI i o := by
  intro listed a w K Q hs hl he hw hlook _ hK
  exact h w a w K Q (Grow.refl w) (fun t ht => hlook t ht (by
    rw [List.all_eq_true] at hah
    exact hah t (by simpa using ht))) (fun v w' hg hf => hK v w' (fun t u hu => hst t u w w' hu hg) hf (hWI _ _ _ _ _ hw hg))

theorem region2 (hm : P.follows .mixedOrders = true) (hcov : backs ops = true) {id : Nat} {a0 : Act} {w0 : World} {Q : Exit → Act → World → Prop} (n : Nat) (hn : a0.tmps.size = n) (hdst : dstsIn ops n = true) (D : List Nat) (hD : dstsAre ops D = true)
    (FS : Tmp → Value → World → Prop) (WI : WInv) (hstart : ∀ t, (∀ o ∈ ops.toList, o.dst ≠ some t) → FS t (a0.eval (.tmp t)) w0.drew) (h0 : WI (Array.replicate ops.size false) a0 w0.drew)
    (hok : AllOp2 P ops a0 FS WI 0 ops.toList)
    (hend : ∀ listed a w, (∀ i, i < ops.size → listed.getD i true = true) → J2 ops FS a0 D WI listed a w → (∀ t, FS t (a.eval (.tmp t)) w) → Q .normal a w) :
    (Code.region id ops true).wp P Q a0 w0 := by
  have hD' : ∀ o ∈ ops.toList, ∀ d, o.dst = some d → D.contains d = true := by
    intro o ho d hd
    unfold dstsAre at hD
    rw [List.all_eq_true] at hD
    have := hD o ho
    simpa [hd] using this
  have hdst' : ∀ o ∈ ops.toList, ∀ d, o.dst = some d → d < n := by
    intro o ho d hd
    unfold dstsIn at hdst
    rw [List.all_eq_true] at hdst
    have := hdst o ho
    simpa [hd] using this
  refine region_inv hm hcov (J2 ops FS a0 D WI) ⟨rfl, rfl, ?_, h0, fun _ _ => rfl, fun _ _ => rfl, fun j p hp h => by
    have hj := (Array.getElem?_eq_some_iff.1 hp).1
    simp [Array.getD, hj] at h⟩ ?_ ?_
  · intro t ht
    refine hstart t ?_
    intro o ho hd
    obtain ⟨i, hi, rfl⟩ := List.getElem_of_mem ho
    have hi' : i < ops.size := by simpa using hi
    have := ht i ops[i] (Array.getElem?_eq_getElem hi') (by simpa using hd)
    simp [Array.getD, hi'] at this
  · intro i o ho listed a w K Q' hs hl hedges hJ hK
    have hom : o ∈ ops.toList := by
      obtain ⟨h1, h2⟩ := Array.getElem?_eq_some_iff.1 ho
      subst h2
      simp
    have hisz : i < listed.size := by rw [hs]; exact (Array.getElem?_eq_some_iff.1 ho).1
    have hold : ∀ t, waits ops i t = true → a.eval (.tmp t) = a0.eval (.tmp t) := by
      intro t ht
      refine hJ.old t ?_
      intro j p hp hd
      obtain ⟨e, he, hb, rfl⟩ := waits_spec ht hp hd
      cases hl2 : listed.getD j true with
      | false => rfl
      | true =>
        have := hJ.closed j p hp hl2 e he hb
        simp only [Array.getD, hisz, dif_pos] at this hl
        rw [hl] at this
        cases this
    have hlook : ∀ t, (o.looksAt ops).contains t = true → ahead ops o t = true → FS t (a.eval (.tmp t)) w := by
      intro t _ ht
      refine hJ.facts t ?_
      intro j p hp hd
      obtain ⟨e, he, hb, rfl⟩ := ahead_spec ht hp hd
      have := hedges e he hb
      have hlt : e.on < listed.size := by rw [hs]; exact (Array.getElem?_eq_some_iff.1 hp).1
      simp only [Array.getD, hlt, dif_pos] at this ⊢
      exact this
    have hop := hok.get i o (by simpa using ho)
    rw [Nat.zero_add] at hop
    refine hop listed a w K Q' hs hl hedges hJ.wi hlook hold ?_
    intro v w' hst hv hwi
    refine hK v w' ⟨?_, ?_, ?_, hwi, ?_, ?_, ?_⟩
    · cases hd : o.dst with
      | none => simpa [Act.put] using hJ.size
      | some d => simpa [Act.put] using hJ.size
    · cases hd : o.dst with
      | none => simpa [Act.put] using hJ.defers
      | some d => simpa [Act.put] using hJ.defers
    · intro t ht
      by_cases hdt : o.dst = some t
      · rw [hdt] at hv ⊢
        rw [eval_put_same (by rw [hJ.size, hn]; exact hdst' o hom t hdt)]
        exact hv
      · have hk : Known ops listed t := by
          intro j p hp hd
          have := ht j p hp hd
          by_cases e : i = j
          · subst e
            rw [ho] at hp
            injection hp with hp
            subst hp
            exact absurd hd hdt
          · simpa [Array.getD_eq_getD_getElem?, Array.getElem?_setIfInBounds, e] using this
        have := hst t _ (hJ.facts t hk)
        cases hd : o.dst with
        | none => simpa [Act.put] using this
        | some d =>
          rw [eval_put_other (by intro e; subst e; exact hdt hd)]
          exact this
    · intro t ht
      cases hd : o.dst with
      | none => simpa [Act.put] using hJ.rest t ht
      | some d =>
        rw [eval_put_other (by intro e; subst e; rw [hD' o hom t hd] at ht; cases ht)]
        exact hJ.rest t ht
    · intro t ht
      have hdt : o.dst ≠ some t := by
        intro hd
        have := ht i o ho hd
        simp [Array.getD_eq_getD_getElem?, Array.getElem?_setIfInBounds, hisz] at this
      have := hJ.old t (fun j p hp hd => by
        have h2 := ht j p hp hd
        have hij : i ≠ j := by
          intro e
          subst e
          rw [ho] at hp
          injection hp with hp
          subst hp
          exact hdt hd
        simpa [Array.getD_eq_getD_getElem?, Array.getElem?_setIfInBounds, hij] using h2)
      cases hd : o.dst with
      | none => simpa [Act.put] using this
      | some d =>
        rw [eval_put_other (by intro e; subst e; exact hdt hd)]
        exact this
    · intro j p hp hlj e he hb
      have hup : ∀ k, listed.getD k false = true → (listed.setIfInBounds i true).getD k false = true := by
        intro k hk
        by_cases e : i = k
        · subst e
          simp [Array.getD_eq_getD_getElem?, Array.getElem?_setIfInBounds, hisz]
        · simpa [Array.getD_eq_getD_getElem?, Array.getElem?_setIfInBounds, e] using hk
      by_cases e2 : i = j
      · subst e2
        rw [ho] at hp
        injection hp with hp
        subst hp
        exact hup _ (hedges e he hb)
      · refine hup _ (hJ.closed j p hp ?_ e he hb)
        simpa [Array.getD_eq_getD_getElem?, Array.getElem?_setIfInBounds, e2] using hlj
  · intro listed a w hs hall hJ
    refine hend listed a w hall hJ (fun t => hJ.facts t ?_)
    intro j p hp _
    exact hall j (Array.getElem?_eq_some_iff.1 hp).1
/-- region2 by two lists of facts. -/
theorem region2_facts {P : Program} {ops : Array Oper} (hm : P.follows .mixedOrders = true) (hcov : backs ops = true) {id : Nat} {a0 : Act} {w0 : World} {Q : Exit → Act → World → Prop} (n : Nat) (hn : a0.tmps.size = n) (hdst : dstsIn ops n = true) (D : List Nat) (hD : dstsAre ops D = true)
    (V W : List (Nat × Fact)) (hV : StartOk a0 w0.drew V) (hW : (W.all fun p => written ops p.1) = true) (WI : WInv) (h0 : WI (Array.replicate ops.size false) a0 w0.drew)
    (hok : AllOp2 P ops a0 (FSof (V ++ W)) WI 0 ops.toList)
    (hend : ∀ listed a w, (∀ i, i < ops.size → listed.getD i true = true) → J2 ops (FSof (V ++ W)) a0 D WI listed a w → (∀ t, FSof (V ++ W) t (a.eval (.tmp t)) w) → Q .normal a w) :
    (Code.region id ops true).wp P Q a0 w0 :=
  region2 hm hcov n hn hdst D hD (FSof (V ++ W)) WI (fun t ht => start_fact V W hV hW t ht) h0 hok hend
/-- The move of a slot that the region writes later. -/
theorem op2_mv_old {a0 : Act} {FS : Tmp → Value → World → Prop} {WI : WInv} {i : Nat} {o : Oper} (t : Tmp) (hg : o.guard = none) (ho : o.op = .move (.tmp t) ∨ o.op = .assign (.tmp t)) (hw : waits ops i t = true) (hd : ∀ w, FSd FS o.dst (a0.eval (.tmp t)) w)
    (hWI : ∀ listed a v w w', WI listed a w → Grow w w' → WI (listed.setIfInBounds i true) (a.put o.dst v) w') : Op2 P ops a0 FS WI i o := by
  intro listed a w K Q hs hl he hwi _ hold hK
  have e := hold t hw
  rw [if_pos (by simp [Region.wanted, hg])]
  left
  unfold Oper.wp execOp
  rcases ho with ho | ho <;> simp only [ho, Sem.run_pure, Oper.upon_value, e] <;> exact hK _ w (fun _ _ h => h) (hd w) (hWI _ _ _ _ _ hwi (Grow.refl w))
/-- Facts of values alone hold in whatever world. -/
def allVal : List (Nat × Fact) → Bool
  | [] => true
  | (_, .val _) :: r => allVal r
  | (_, .any) :: r => allVal r
  | _ => false
theorem factOf_val : ∀ {L : List (Nat × Fact)}, allVal L = true → ∀ t v w w', (factOf L t).holds v w → (factOf L t).holds v w'
  | [], _, t, v, w, w', h => h
  | (k, .val x) :: r, hv, t, v, w, w', h => by
    simp only [factOf] at h ⊢
    split
    · rename_i e
      rw [if_pos e] at h
      exact h
    · rename_i e
      rw [if_neg e] at h
      exact factOf_val (L := r) hv t v w w' h
  | (k, .any) :: r, hv, t, v, w, w', h => by
    simp only [factOf] at h ⊢
    split
    · trivial
    · rename_i e
      rw [if_neg e] at h
      exact factOf_val (L := r) hv t v w w' h
  | (k, .res l) :: r, hv, _, _, _, _, _ => by cases hv
  | (k, .pred p q) :: r, hv, _, _, _, _, _ => by cases hv
end Reg
end Go.Proofs.Ytlelckdcmlpmdaa
