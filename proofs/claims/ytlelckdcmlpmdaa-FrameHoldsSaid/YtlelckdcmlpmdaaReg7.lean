/- A region whose last operations wait for all ahead of them: facts for the others, then a plain list. -/
import Derived.Test.YtlelckdcmlpmdaaReg6
namespace Go.Proofs.Ytlelckdcmlpmdaa
open Go Go.RowKit Lou
namespace Reg
variable {P : Program} {ops : Array Oper}

/-- From m on, each operation waits for all ahead of it. -/
def tailOk (ops : Array Oper) (m : Nat) : Bool := (List.range ops.size).all fun i => decide (i < m) || (List.range i).all fun j => edge ops i j
theorem tail_edge {m i j : Nat} (h : tailOk ops m = true) (hi : i < ops.size) (hm : m ≤ i) (hj : j < i) : edge ops i j = true := by
  unfold tailOk at h
  rw [List.all_eq_true] at h
  have := h i (by simpa using hi)
  simp only [Bool.or_eq_true, decide_eq_true_eq, List.all_eq_true] at this
  rcases this with h | h
  · omega
  · exact h j (by simpa using hj)
theorem listed_of_edge {i j : Nat} {o : Oper} {listed : Array Bool} (he : edge ops i j = true) (ho : ops[i]? = some o) (hed : ∀ e ∈ o.after.toList, Region.binds .any e = true → listed.getD e.on false = true) : listed.getD j false = true := by
  simp only [edge, ho, List.any_eq_true, Bool.and_eq_true, beq_iff_eq] at he
  obtain ⟨e, hm, hb, rfl⟩ := he
  exact hed e hm hb

/-- One operation, in whatever order, for one post. -/
def StepQ (P : Program) (ops : Array Oper) (Q : Exit → Act → World → Prop) (Inv : Array Bool → Act → World → Prop) (i : Nat) (o : Oper) : Prop :=
  ∀ (listed : Array Bool) (a : Act) (w : World) (K : Act → World → Prop), listed.size = ops.size → listed.getD i true = false → (∀ e ∈ o.after.toList, Region.binds .any e = true → listed.getD e.on false = true) →
    Inv listed a w → (∀ a' w', Inv (listed.setIfInBounds i true) a' w' → K a' w') →
    (if Region.wanted o (yielded ops a.tmps) then o.wp P a w K Q ∨ (o.asks P a w ∧ LetsOut Q) else K (a.put o.dst undef) w)
theorem region_invQ (hm : P.follows .mixedOrders = true) (hcov : backs ops = true) {id : Nat} {a0 : Act} {w0 : World} {Q : Exit → Act → World → Prop} (Inv : Array Bool → Act → World → Prop)
    (h0 : Inv (Array.replicate ops.size false) a0 w0.drew) (hstep : ∀ i o, ops[i]? = some o → StepQ P ops Q Inv i o)
    (hend : ∀ listed a w, listed.size = ops.size → (∀ i, i < ops.size → listed.getD i true = true) → Inv listed a w → Q .normal a w) :
    (Code.region id ops true).wp P Q a0 w0 := by
  refine wp_region_any hm ?_
  have key : ∀ (fuel : Nat) (listed : Array Bool) (a : Act) (w : World), listed.size = ops.size → left listed ≤ fuel → Inv listed a w → wpAny P .any ops Q fuel listed a w := by
    intro fuel
    have hdone : ∀ (listed : Array Bool) (a : Act) (w : World), listed.size = ops.size → Inv listed a w → Region.ready .any ops listed = [] → Q .normal a w := by
      intro listed a w hs hJ hr
      refine hend listed a w hs ?_ hJ
      intro i
      induction i using Nat.strongRecOn with
      | _ i ih =>
        intro hi
        cases hl : listed.getD i true with
        | true => rfl
        | false =>
          exfalso
          have : i ∈ Region.ready .any ops listed := by
            unfold Region.ready
            simp only [List.mem_filter, List.mem_range, Bool.and_eq_true, Bool.not_eq_true']
            refine ⟨hi, hl, ?_⟩
            have ho : ops[i]? = some ops[i] := Array.getElem?_eq_getElem hi
            simp only [ho, Option.map_some, Option.getD_some]
            rw [Array.all_eq_true_iff_forall_mem]
            intro e he
            have hc := backs_spec hcov ho e (Array.mem_toList_iff.2 he)
            cases hb : Region.binds .any e with
            | false => simp
            | true =>
              have hlt := hc hb
              have h1 := ih e.on hlt (by omega)
              have h2 : e.on < listed.size := by omega
              simp only [Array.getD, h2, dif_pos] at h1 ⊢
              simpa using h1
          rw [hr] at this
          cases this
    induction fuel with
    | zero =>
      intro listed a w hs hf hJ
      have hr : Region.ready .any ops listed = [] := by
        rcases hr : Region.ready .any ops listed with _ | ⟨i, r⟩
        · rfl
        · exfalso
          obtain ⟨o, ho, hl, _⟩ := ready_mem (ops := ops) (listed := listed) (i := i) (by rw [hr]; simp)
          have hi : i < listed.size := by rw [hs]; exact (Array.getElem?_eq_some_iff.1 ho).1
          have hmem : listed[i] ∈ listed.toList.filter (! ·) := by
            rw [List.mem_filter]
            refine ⟨by simp, ?_⟩
            have hl' : listed[i] = false := by simpa [Array.getD, hi] using hl
            simp [hl']
          have : 0 < left listed := List.length_pos_of_mem hmem
          omega
      exact ⟨hr, hdone listed a w hs hJ hr⟩
    | succ fuel ih =>
      intro listed a w hs hf hJ
      refine ⟨hdone listed a w hs hJ, fun i hi => ?_⟩
      obtain ⟨o, ho, hl, hedges⟩ := ready_mem hi
      have hisz : i < listed.size := by rw [hs]; exact (Array.getElem?_eq_some_iff.1 ho).1
      have hnext : ∀ a' w', Inv (listed.setIfInBounds i true) a' w' → wpAny P .any ops Q fuel (listed.setIfInBounds i true) a' w' := by
        intro a' w' hv
        refine ih _ _ _ (by simpa using hs) ?_ hv
        have hl' : listed[i] = false := by simpa [Array.getD, hisz] using hl
        have : left (listed.setIfInBounds i true) < left listed := by
          unfold left
          rw [Array.toList_setIfInBounds]
          have e1 : listed.toList = listed.toList.take i ++ false :: listed.toList.drop (i + 1) := by
            have h3 : listed.toList[i]'(by simpa using hisz) = false := by simpa using hl'
            conv => lhs; rw [← List.take_append_drop i listed.toList, List.drop_eq_getElem_cons (by simpa using hisz), h3]
          rw [List.set_eq_take_append_cons_drop, if_pos (by simpa using hisz)]
          conv => rhs; rw [e1]
          simp
        omega
      have := hstep i o ho listed a w (fun a' w' => wpAny P .any ops Q fuel (listed.setIfInBounds i true) a' w') hs hl hedges hJ hnext
      unfold wpOp
      simp only [ho]
      exact this
  refine key ops.size _ a0 _ (by simp) ?_ h0
  unfold left
  simp
/-- What is left of a list of operations, one behind the other. -/
def Rest (P : Program) (ops : Array Oper) (Q : Exit → Act → World → Prop) (i : Nat) (a : Act) (w : World) : Prop := wpList P ops Q (ops.toList.drop i) a w

theorem region_tail (hm : P.follows .mixedOrders = true) (hcov : backs ops = true) {id : Nat} {a0 : Act} {w0 : World} {Q : Exit → Act → World → Prop} (n : Nat) (hn : a0.tmps.size = n) (hdst : dstsIn ops n = true) (m : Nat) (hmt : m ≤ ops.size) (ht : tailOk ops m = true) (hgd : ((ops.toList.drop m).all fun o => o.guard.isNone) = true) (D : List Nat) (hD : dstsAre (ops.extract 0 m) D = true)
    (FS : Tmp → Value → World → Prop) (hstab : ∀ t v w w', FS t v w → Grow w w' → FS t v w') (hah : (ops.toList.take m).all (fun o => (o.looksAt ops).all (ahead ops o)) = true)
    (hstart : ∀ t, (∀ o ∈ ops.toList.take m, o.dst ≠ some t) → FS t (a0.eval (.tmp t)) w0) (hok : AllOk P ops FS w0 (ops.toList.take m))
    (hend : ∀ a w, a.tmps.size = n → a.defers = a0.defers → Grow w0 w → (∀ t, FS t (a.eval (.tmp t)) w) → (∀ t, D.contains t = false → a.eval (.tmp t) = a0.eval (.tmp t)) → Rest P ops Q m a w) :
    (Code.region id ops true).wp P Q a0 w0 := by
  have hdst' : ∀ o ∈ ops.toList, ∀ d, o.dst = some d → d < n := by
    intro o ho d hd
    unfold dstsIn at hdst
    rw [List.all_eq_true] at hdst
    have := hdst o ho
    simpa [hd] using this
  have hD' : ∀ (i : Nat) (o : Oper), i < m → ops[i]? = some o → ∀ d, o.dst = some d → D.contains d = true := by
    intro i o him ho d hd
    unfold dstsAre at hD
    rw [List.all_eq_true] at hD
    have hmem : o ∈ (ops.extract 0 m).toList := by
      simp only [Array.toList_extract, List.extract_eq_take_drop, List.drop_zero, Nat.sub_zero]
      have : (ops.toList.take m)[i]? = some o := by
        rw [List.getElem?_take, if_pos him]
        simpa using ho
      exact List.mem_of_getElem? this
    have := hD o hmem
    simpa [hd] using this
  let J1 : Array Bool → Act → World → Prop := fun listed a w => a.tmps.size = n ∧ a.defers = a0.defers ∧ Grow w0 w ∧ (∀ t, (∀ (j : Nat) (p : Oper), j < m → ops[j]? = some p → p.dst = some t → listed.getD j true = true) → FS t (a.eval (.tmp t)) w) ∧ (∀ t, D.contains t = false → a.eval (.tmp t) = a0.eval (.tmp t))
  let Inv : Array Bool → Act → World → Prop := fun listed a w => ((∀ j, m ≤ j → j < ops.size → listed.getD j true = false) ∧ J1 listed a w) ∨ ∃ i, m < i ∧ i ≤ ops.size ∧ (∀ j, j < i → listed.getD j true = true) ∧ (∀ j, i ≤ j → j < ops.size → listed.getD j true = false) ∧ Rest P ops Q i a w
  have hrest : ∀ listed a w, (∀ j, j < m → listed.getD j true = true) → J1 listed a w → Rest P ops Q m a w := by
    rintro listed a w hall ⟨h1, h2, h3, h4, h5⟩
    exact hend a w h1 h2 h3 (fun t => h4 t fun j p hj _ _ => hall j hj) h5
  refine region_invQ hm hcov Inv ?_ ?_ ?_
  · left
    refine ⟨fun j _ hj => by simp [Array.getD, hj], hn, rfl, Grow.drew w0, ?_, fun _ _ => rfl⟩
    intro t ht
    refine hstab t _ w0 _ (hstart t ?_) (Grow.drew w0)
    intro o ho hd
    obtain ⟨i, hi, rfl⟩ := List.getElem_of_mem ho
    have hi' : i < m ∧ i < ops.size := by simp at hi; omega
    have := ht i ops[i] hi'.1 (Array.getElem?_eq_getElem hi'.2) (by simpa using hd)
    simp [Array.getD, hi'.2] at this
  · intro i o ho listed a w K hs hl hedges hInv hK
    have hisz0 : i < ops.size := (Array.getElem?_eq_some_iff.1 ho).1
    have hisz : i < listed.size := by omega
    have hom : o ∈ ops.toList := List.mem_of_getElem? (by simpa using ho)
    have hff : ∀ j, j < ops.size → (listed.getD j true = true ↔ listed.getD j false = true) := by
      intro j hj
      have : j < listed.size := by omega
      simp [Array.getD, this]
    have hset : ∀ j, j < ops.size → j ≠ i → (listed.setIfInBounds i true).getD j true = listed.getD j true := by
      intro j _ hji
      simp [Array.getD_eq_getD_getElem?, Array.getElem?_setIfInBounds, Ne.symm hji]
    have hseti : (listed.setIfInBounds i true).getD i true = true := by
      simp [Array.getD_eq_getD_getElem?, Array.getElem?_setIfInBounds, hisz]
    by_cases him : i < m
    · rcases hInv with ⟨hno, h1, h2, h3, h4, h5⟩ | ⟨q, hq, _, hall, _⟩
      · have hlook : ∀ t, (o.looksAt ops).contains t = true → FS t (a.eval (.tmp t)) w := by
          intro t htl
          refine h4 t ?_
          intro j p hj hp hd
          have hmem : o ∈ ops.toList.take m := by
            have : (ops.toList.take m)[i]? = some o := by
              rw [List.getElem?_take, if_pos him]
              simpa using ho
            exact List.mem_of_getElem? this
          rw [List.all_eq_true] at hah
          have h6 := hah o hmem
          rw [List.all_eq_true] at h6
          obtain ⟨e, he, hb, rfl⟩ := ahead_spec (h6 t (by simpa using htl)) hp hd
          rw [hff _ (Array.getElem?_eq_some_iff.1 hp).1]
          exact hedges e he hb
        have hmem : o ∈ ops.toList.take m := by
          have : (ops.toList.take m)[i]? = some o := by
            rw [List.getElem?_take, if_pos him]
            simpa using ho
          exact List.mem_of_getElem? this
        refine AllOk.get hok o hmem a w K Q h3 hlook ?_
        intro v w' hg hv
        refine hK _ w' (.inl ⟨?_, ?_, ?_, h3.trans hg, ?_, ?_⟩)
        · intro j hmj hj
          rw [hset j hj (by omega)]
          exact hno j hmj hj
        · cases hd : o.dst with
          | none => simpa [Act.put] using h1
          | some d => simpa [Act.put] using h1
        · cases hd : o.dst with
          | none => simpa [Act.put] using h2
          | some d => simpa [Act.put] using h2
        · intro t htk
          by_cases hdt : o.dst = some t
          · rw [hdt] at hv ⊢
            rw [eval_put_same (by rw [h1]; exact hdst' o hom t hdt)]
            exact hv
          · have := hstab t _ w w' (h4 t fun j p hj hp hd => by
              have h7 := htk j p hj hp hd
              have hji : j ≠ i := by
                intro e
                subst e
                rw [ho] at hp
                injection hp with hp
                subst hp
                exact hdt hd
              rw [hset j (Array.getElem?_eq_some_iff.1 hp).1 hji] at h7
              exact h7) hg
            cases hd : o.dst with
            | none => simpa [Act.put] using this
            | some d =>
              rw [eval_put_other (by intro e; subst e; exact hdt hd)]
              exact this
        · intro t htD
          cases hd : o.dst with
          | none => simpa [Act.put] using h5 t htD
          | some d =>
            rw [eval_put_other (by intro e; subst e; rw [hD' i o him ho t hd] at htD; cases htD)]
            exact h5 t htD
      · exfalso
        rw [hall i (by omega)] at hl
        cases hl
    · have hm' : m ≤ i := by omega
      have hbefore : ∀ j, j < i → listed.getD j true = true := by
        intro j hj
        rw [hff j (by omega)]
        exact listed_of_edge (tail_edge ht hisz0 hm' hj) ho hedges
      have hR : Rest P ops Q i a w ∧ (∀ j, i ≤ j → j < ops.size → listed.getD j true = false) := by
        rcases hInv with ⟨hno, hJ⟩ | ⟨q, hq, hqs, hall, hnone, hR⟩
        · have : i = m := by
            rcases Nat.lt_or_ge m i with h | h
            · have h8 := hbefore m h
              rw [hno m (Nat.le_refl _) (by omega)] at h8
              cases h8
            · omega
          subst this
          exact ⟨hrest listed a w hbefore hJ, hno⟩
        · have : i = q := by
            rcases Nat.lt_trichotomy i q with h | h | h
            · rw [hall i h] at hl; cases hl
            · exact h
            · have h8 := hbefore q h
              rw [hnone q (Nat.le_refl _) (by omega)] at h8
              cases h8
          subst this
          exact ⟨hR, hnone⟩
      obtain ⟨hR, hnone⟩ := hR
      have hdrop : ops.toList.drop i = o :: ops.toList.drop (i + 1) := by
        have hi2 : i < ops.toList.length := by simpa using hisz0
        rw [List.drop_eq_getElem_cons hi2]
        congr 1
        have : ops.toList[i]? = some o := by simpa using ho
        rw [List.getElem?_eq_getElem hi2] at this
        injection this
      unfold Rest at hR
      rw [hdrop] at hR
      have hgn : o.guard = none := by
        rw [List.all_eq_true] at hgd
        have hmem : o ∈ ops.toList.drop m := by
          have : (ops.toList.drop m)[i - m]? = some o := by
            rw [List.getElem?_drop, show m + (i - m) = i from by omega]
            simpa using ho
          exact List.mem_of_getElem? this
        have := hgd o hmem
        cases hg : o.guard with
        | none => rfl
        | some x => rw [hg] at this; cases this
      have hw : Region.wanted o (yielded ops a.tmps) = true := by simp [Region.wanted, hgn]
      simp only [wpList, hw, if_true] at hR
      rw [if_pos hw]
      refine Or.imp ?_ (fun x => x) hR
      refine Oper.wp_mono ?_
      intro a' w' h9
      refine hK a' w' (.inr ⟨i + 1, by omega, by omega, ?_, ?_, h9⟩)
      · intro j hj
        by_cases e : j = i
        · subst e
          exact hseti
        · rw [hset j (by omega) e]
          exact hbefore j (by omega)
      · intro j hj hjs
        rw [hset j hjs (by omega)]
        exact hnone j (by omega) hjs
  · rintro listed a w hs hall (⟨hno, hJ⟩ | ⟨q, hq, hqs, hallq, hnone, hR⟩)
    · have hR := hrest listed a w (fun j hj => hall j (by omega)) hJ
      rcases Nat.lt_or_ge m ops.size with h | h
      · have := hall m h
        rw [hno m (Nat.le_refl _) h] at this
        cases this
      · unfold Rest at hR
        rw [List.drop_of_length_le (by simpa using h)] at hR
        exact hR
    · rcases Nat.lt_or_ge q ops.size with h | h
      · have := hall q h
        rw [hnone q (Nat.le_refl _) h] at this
        cases this
      · unfold Rest at hR
        rw [List.drop_of_length_le (by simpa using h)] at hR
        exact hR
/-- region_tail by two lists of facts. -/
theorem region_tail_facts (hm : P.follows .mixedOrders = true) (hcov : backs ops = true) {id : Nat} {a0 : Act} {w0 : World} {Q : Exit → Act → World → Prop} (n : Nat) (hn : a0.tmps.size = n) (hdst : dstsIn ops n = true) (m : Nat) (hmt : m ≤ ops.size) (ht : tailOk ops m = true) (hgd : ((ops.toList.drop m).all fun o => o.guard.isNone) = true) (D : List Nat) (hD : dstsAre (ops.extract 0 m) D = true)
    (V W : List (Nat × Fact)) (hV : StartOk a0 w0 V) (hW : (W.all fun p => written (ops.extract 0 m) p.1) = true) (hah : (ops.toList.take m).all (fun o => (o.looksAt ops).all (ahead ops o)) = true) (hok : AllOk P ops (FSof (V ++ W)) w0 (ops.toList.take m))
    (hend : ∀ a w, a.tmps.size = n → a.defers = a0.defers → Grow w0 w → (∀ t, FSof (V ++ W) t (a.eval (.tmp t)) w) → (∀ t, D.contains t = false → a.eval (.tmp t) = a0.eval (.tmp t)) → Rest P ops Q m a w) :
    (Code.region id ops true).wp P Q a0 w0 := by
  refine region_tail hm hcov n hn hdst m hmt ht hgd D hD (FSof (V ++ W)) (FSof.stable _) hah ?_ hok hend
  intro t h
  refine start_fact (ops := ops.extract 0 m) V W hV hW t ?_
  intro o ho
  refine h o ?_
  simpa [Array.toList_extract, List.extract_eq_take_drop] using ho
end Reg
end Go.Proofs.Ytlelckdcmlpmdaa
