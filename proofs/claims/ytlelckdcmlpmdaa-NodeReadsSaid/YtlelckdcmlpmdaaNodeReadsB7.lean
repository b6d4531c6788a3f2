/- Texts that the proof of NodeReads leans on, part 7. -/
import Derived.Lib.SlBytesConst
import Derived.Test.YtlelckdcmlpmdaaNodeReadsB6
/- Regions that draw their order and write: facts on slots, and an invariant beside them. -/
namespace Go.Proofs.Ytlelckdcmlpmdaa
open Go Go.RowKit Lou
namespace Reg
variable {P : Program} {ops : Array Oper}

abbrev WInv := Array Bool → Act → World → Prop
structure J2 (ops : Array Oper) (FS : Tmp → Value → World → Prop) (a0 : Act) (D : List Nat) (WI : WInv) (listed : Array Bool) (a : Act) (w : World) : Prop where
  size : a.tmps.size = a0.tmps.size
  defers : a.defers = a0.defers
  facts : ∀ t, Known ops listed t → FS t (a.eval (.tmp t)) w
  wi : WI listed a w
  rest : ∀ t, D.contains t = false → a.eval (.tmp t) = a0.eval (.tmp t)
  old : ∀ t, (∀ (j : Nat) (p : Oper), ops[j]? = some p → p.dst = some t → listed.getD j true = false) → a.eval (.tmp t) = a0.eval (.tmp t)
  closed : ∀ (j : Nat) (p : Oper), ops[j]? = some p → listed.getD j true = true → ∀ e ∈ p.after.toList, Region.binds .any e = true → listed.getD e.on false = true

/-- An operation is in order: from what is known of the slots that it looks at and the invariant, it comes to what is claimed of its own and the invariant; what is known of other slots stays known. -/
def Op2 (P : Program) (ops : Array Oper) (a0 : Act) (FS : Tmp → Value → World → Prop) (WI : WInv) (i : Nat) (o : Oper) : Prop :=
  ∀ (listed : Array Bool) (a : Act) (w : World) (K : Act → World → Prop) (Q : Exit → Act → World → Prop), listed.size = ops.size → listed.getD i true = false → (∀ e ∈ o.after.toList, Region.binds .any e = true → listed.getD e.on false = true) →
    WI listed a w → (∀ t, (o.looksAt ops).contains t = true → ahead ops o t = true → FS t (a.eval (.tmp t)) w) → (∀ t, waits ops i t = true → a.eval (.tmp t) = a0.eval (.tmp t)) →
    (∀ v w', (∀ t u, FS t u w → FS t u w') → FSd FS o.dst v w' → WI (listed.setIfInBounds i true) (a.put o.dst v) w' → K (a.put o.dst v) w') →
    (if Region.wanted o (yielded ops a.tmps) then o.wp P a w K Q ∨ (o.asks P a w ∧ LetsOut Q) else K (a.put o.dst undef) w)
def AllOp2 (P : Program) (ops : Array Oper) (a0 : Act) (FS : Tmp → Value → World → Prop) (WI : WInv) : Nat → List Oper → Prop
  | _, [] => True
  | k, o :: r => Op2 P ops a0 FS WI k o ∧ AllOp2 P ops a0 FS WI (k + 1) r
theorem AllOp2.get {a0 : Act} {FS : Tmp → Value → World → Prop} {WI : WInv} : ∀ {l : List Oper} {k : Nat}, AllOp2 P ops a0 FS WI k l → ∀ i o, l[i]? = some o → Op2 P ops a0 FS WI (k + i) o
  | [], _, _, i, o, h => by simp at h
  | x :: r, k, h, 0, o, ho => by
    simp at ho
    subst ho
    exact h.1
  | x :: r, k, h, i + 1, o, ho => by
    have := AllOp2.get h.2 i o (by simpa using ho)
    rw [show k + (i + 1) = k + 1 + i from by omega]
    exact this

/-- An operation by the rules of the plain kind, whatever the world. -/
theorem op2_of {a0 : Act} {FS : Tmp → Value → World → Prop} {WI : WInv} {i : Nat} {o : Oper} (hst : ∀ t v w w', FS t v w → Grow w w' → FS t v w') (h : ∀ w0, OpOk P ops FS w0 o) (hah : ((o.looksAt ops).all (ahead ops o)) = true)
    (hWI : ∀ listed a v w w', WI listed a w → Grow w w' → WI (listed.setIfInBounds i true) (a.put o.dst v) w') : Op2 P ops a0 FS WI i o := by
  intro listed a w K Q hs hl he hw hlook _ hK
  exact h w a w K Q (Grow.refl w) (fun t ht => hlook t ht (by
    rw [List.all_eq_true] at hah
    exact hah t (by simpa using ht))) (fun v w' hg hf => hK v w' (fun t u hu => hst t u w w' hu hg) hf (hWI _ _ _ _ _ hw hg))

theorem region2 (hm : P.follows .mixedOrders = true) (hcov : backs ops = true) {id : Nat} {a0 : Act} {w0 : World} {Q : Exit → Act → World → Prop} (n : Nat) (hn : a0.tmps.size = n) (hdst : dstsIn ops n = true) (D : List Nat) (hD : dstsAre ops D = true)
    (FS : Tmp → Value → World → Prop) (WI : WInv) (hstart : ∀ t, (∀ o ∈ ops.toList, o.dst ≠ some t) → FS t (a0.eval (.tmp t)) w0.drew) (h0 : WI (Array.replicate ops.size false) a0 w0.drew)
    (hok : AllOp2 P ops a0 FS WI 0 ops.toList)
    (hend : ∀ listed a w, (∀ i, i < ops.size → listed.getD i true = true) → J2 ops FS a0 D WI listed a w → (∀ t, FS t (a.eval (.tmp t)) w) → Q .normal a w) :
    (Code.region id ops true).wp P Q a0 w0 := by
  have hD' : ∀ o ∈ ops.toList, ∀ d, o.dst = some d → D.contains d = true := by
    intro o ho d hd
    unfold dstsAre at hD
    rw [List.all_eq_true] at hD
    have := hD o ho
    simpa [hd] using this
  have hdst' : ∀ o ∈ ops.toList, ∀ d, o.dst = some d → d < n := by
    intro o ho d hd
    unfold dstsIn at hdst
    rw [List.all_eq_true] at hdst
    have := hdst o ho
    simpa [hd] using this
  refine region_inv hm hcov (J2 ops FS a0 D WI) ⟨rfl, rfl, ?_, h0, fun _ _ => rfl, fun _ _ => rfl, fun j p hp h => by
    have hj := (Array.getElem?_eq_some_iff.1 hp).1
    simp [Array.getD, hj] at h⟩ ?_ ?_
  · intro t ht
    refine hstart t ?_
    intro o ho hd
    obtain ⟨i, hi, rfl⟩ := List.getElem_of_mem ho
    have hi' : i < ops.size := by simpa using hi
    have := ht i ops[i] (Array.getElem?_eq_getElem hi') (by simpa using hd)
    simp [Array.getD, hi'] at this
  · intro i o ho listed a w K Q' hs hl hedges hJ hK
    have hom : o ∈ ops.toList := by
      obtain ⟨h1, h2⟩ := Array.getElem?_eq_some_iff.1 ho
      subst h2
      simp
    have hisz : i < listed.size := by rw [hs]; exact (Array.getElem?_eq_some_iff.1 ho).1
    have hold : ∀ t, waits ops i t = true → a.eval (.tmp t) = a0.eval (.tmp t) := by
      intro t ht
      refine hJ.old t ?_
      intro j p hp hd
      obtain ⟨e, he, hb, rfl⟩ := waits_spec ht hp hd
      cases hl2 : listed.getD j true with
      | false => rfl
      | true =>
        have := hJ.closed j p hp hl2 e he hb
        simp only [Array.getD, hisz, dif_pos] at this hl
        rw [hl] at this
        cases this
    have hlook : ∀ t, (o.looksAt ops).contains t = true → ahead ops o t = true → FS t (a.eval (.tmp t)) w := by
      intro t _ ht
      refine hJ.facts t ?_
      intro j p hp hd
      obtain ⟨e, he, hb, rfl⟩ := ahead_spec ht hp hd
      have := hedges e he hb
      have hlt : e.on < listed.size := by rw [hs]; exact (Array.getElem?_eq_some_iff.1 hp).1
      simp only [Array.getD, hlt, dif_pos] at this ⊢
      exact this
    have hop := hok.get i o (by simpa using ho)
    rw [Nat.zero_add] at hop
    refine hop listed a w K Q' hs hl hedges hJ.wi hlook hold ?_
    intro v w' hst hv hwi
    refine hK v w' ⟨?_, ?_, ?_, hwi, ?_, ?_, ?_⟩
    · cases hd : o.dst with
      | none => simpa [Act.put] using hJ.size
      | some d => simpa [Act.put] using hJ.size
    · cases hd : o.dst with
      | none => simpa [Act.put] using hJ.defers
      | some d => simpa [Act.put] using hJ.defers
    · intro t ht
      by_cases hdt : o.dst = some t
      · rw [hdt] at hv ⊢
        rw [eval_put_same (by rw [hJ.size, hn]; exact hdst' o hom t hdt)]
        exact hv
      · have hk : Known ops listed t := by
          intro j p hp hd
          have := ht j p hp hd
          by_cases e : i = j
          · subst e
            rw [ho] at hp
            injection hp with hp
            subst hp
            exact absurd hd hdt
          · simpa [Array.getD_eq_getD_getElem?, Array.getElem?_setIfInBounds, e] using this
        have := hst t _ (hJ.facts t hk)
        cases hd : o.dst with
        | none => simpa [Act.put] using this
        | some d =>
          rw [eval_put_other (by intro e; subst e; exact hdt hd)]
          exact this
    · intro t ht
      cases hd : o.dst with
      | none => simpa [Act.put] using hJ.rest t ht
      | some d =>
        rw [eval_put_other (by intro e; subst e; rw [hD' o hom t hd] at ht; cases ht)]
        exact hJ.rest t ht
    · intro t ht
      have hdt : o.dst ≠ some t := by
        intro hd
        have := ht i o ho hd
        simp [Array.getD_eq_getD_getElem?, Array.getElem?_setIfInBounds, hisz] at this
      have := hJ.old t (fun j p hp hd => by
        have h2 := ht j p hp hd
        have hij : i ≠ j := by
          intro e
          subst e
          rw [ho] at hp
          injection hp with hp
          subst hp
          exact hdt hd
        simpa [Array.getD_eq_getD_getElem?, Array.getElem?_setIfInBounds, hij] using h2)
      cases hd : o.dst with
      | none => simpa [Act.put] using this
      | some d =>
        rw [eval_put_other (by intro e; subst e; exact hdt hd)]
        exact this
    · intro j p hp hlj e he hb
      have hup : ∀ k, listed.getD k false = true → (listed.setIfInBounds i true).getD k false = true := by
        intro k hk
        by_cases e : i = k
        · subst e
          simp [Array.getD_eq_getD_getElem?, Array.getElem?_setIfInBounds, hisz]
        · simpa [Array.getD_eq_getD_getElem?, Array.getElem?_setIfInBounds, e] using hk
      by_cases e2 : i = j
      · subst e2
        rw [ho] at hp
        injection hp with hp
        subst hp
        exact hup _ (hedges e he hb)
      · refine hup _ (hJ.closed j p hp ?_ e he hb)
        simpa [Array.getD_eq_getD_getElem?, Array.getElem?_setIfInBounds, e2] using hlj
  · intro listed a w hs hall hJ
    refine hend listed a w hall hJ (fun t => hJ.facts t ?_)
    intro j p hp _
    exact hall j (Array.getElem?_eq_some_iff.1 hp).1
/-- region2 by two lists of facts. -/
theorem region2_facts {P : Program} {ops : Array Oper} (hm : P.follows .mixedOrders = true) (hcov : backs ops = true) {id : Nat} {a0 : Act} {w0 : World} {Q : Exit → Act → World → Prop} (n : Nat) (hn : a0.tmps.size = n) (hdst : dstsIn ops n = true) (D : List Nat) (hD : dstsAre ops D = true)
    (V W : List (Nat × Fact)) (hV : StartOk a0 w0.drew V) (hW : (W.all fun p => written ops p.1) = true) (WI : WInv) (h0 : WI (Array.replicate ops.size false) a0 w0.drew)
    (hok : AllOp2 P ops a0 (FSof (V ++ W)) WI 0 ops.toList)
    (hend : ∀ listed a w, (∀ i, i < ops.size → listed.getD i true = true) → J2 ops (FSof (V ++ W)) a0 D WI listed a w → (∀ t, FSof (V ++ W) t (a.eval (.tmp t)) w) → Q .normal a w) :
    (Code.region id ops true).wp P Q a0 w0 :=
  region2 hm hcov n hn hdst D hD (FSof (V ++ W)) WI (fun t ht => start_fact V W hV hW t ht) h0 hok hend
/-- The move of a slot that the region writes later. -/
theorem op2_mv_old {a0 : Act} {FS : Tmp → Value → World → Prop} {WI : WInv} {i : Nat} {o : Oper} (t : Tmp) (hg : o.guard = none) (ho : o.op = .move (.tmp t) ∨ o.op = .assign (.tmp t)) (hw : waits ops i t = true) (hd : ∀ w, FSd FS o.dst (a0.eval (.tmp t)) w)
    (hWI : ∀ listed a v w w', WI listed a w → Grow w w' → WI (listed.setIfInBounds i true) (a.put o.dst v) w') : Op2 P ops a0 FS WI i o := by
  intro listed a w K Q hs hl he hwi _ hold hK
  have e := hold t hw
  rw [if_pos (by simp [Region.wanted, hg])]
  left
  unfold Oper.wp execOp
  rcases ho with ho | ho <;> simp only [ho, Sem.run_pure, Oper.upon_value, e] <;> exact hK _ w (fun _ _ h => h) (hd w) (hWI _ _ _ _ _ hwi (Grow.refl w))
/-- Facts of values alone hold in whatever world. -/
def allVal : List (Nat × Fact) → Bool
  | [] => true
  | (_, .val _) :: r => allVal r
  | (_, .any) :: r => allVal r
  | _ => false
theorem factOf_val : ∀ {L : List (Nat × Fact)}, allVal L = true → ∀ t v w w', (factOf L t).holds v w → (factOf L t).holds v w'
  | [], _, t, v, w, w', h => h
  | (k, .val x) :: r, hv, t, v, w, w', h => by
    simp only [factOf] at h ⊢
    split
    · rename_i e
      rw [if_pos e] at h
      exact h
    · rename_i e
      rw [if_neg e] at h
      exact factOf_val (L := r) hv t v w w' h
  | (k, .any) :: r, hv, t, v, w, w', h => by
    simp only [factOf] at h ⊢
    split
    · trivial
    · rename_i e
      rw [if_neg e] at h
      exact factOf_val (L := r) hv t v w w' h
  | (k, .res l) :: r, hv, _, _, _, _, _ => by cases hv
  | (k, .pred p q) :: r, hv, _, _, _, _, _ => by cases hv
end Reg
end Go.Proofs.Ytlelckdcmlpmdaa
/- Regions that draw their order and change what the call itself owns (rows that grow, variables that are laid and stored): each such thing is a chain of stages; facts on slots tell nothing of its block. -/
namespace Go.Proofs.Ytlelckdcmlpmdaa
open Go Go.RowKit Lou
namespace Reg
variable {P : Program} {ops : Array Oper}

/-- Where a stage's value lies: in a slot; or it is known. -/
inductive Src where
  | slot (t : Tmp)
  | given (v : Value)
def Src.get (a : Act) : Src → Value
  | .slot t => a.eval (.tmp t)
  | .given v => v
structure Stage where
  /-- the operation that leads to it (none: it stands from the beginning) -/
  i : Option Nat
  s : Src
  p : Value → World → Prop
  b : Value → Option Nat
  st : ∀ v w w', p v w → (∀ k, b v = some k → w'.heap[k]? = w.heap[k]?) → p v w'
  lt : ∀ v w k, p v w → b v = some k → k < w.heap.size
def Stage.done (listed : Array Bool) (x : Stage) : Bool := match x.i with | none => true | some i => listed.getD i false
def current (listed : Array Bool) : List Stage → Option Stage
  | [] => none
  | x :: r => if x.done listed then some x else current listed r
abbrev Ghost := Nat → Option Nat
def upd (g : Ghost) (k : Nat) (b : Option Nat) : Ghost := fun j => if j = k then b else g j
def Lt (g : Ghost) (w : World) : Prop := ∀ k b, g k = some b → b < w.heap.size
def StageAt (g : Option Nat) (a : Act) (w : World) : Option Stage → Prop
  | none => g = none
  | some x => x.p (x.s.get a) w ∧ g = x.b (x.s.get a)
structure WC (B : Nat) (w00 : World) (cs : List (List Stage)) (g : Ghost) (listed : Array Bool) (a : Act) (w : World) : Prop where
  below : Below B w00 w
  base : B ≤ w.heap.size
  at_ : ∀ k c, cs[k]? = some c → StageAt (g k) a w (current listed c)
  out : ∀ k, cs[k]? = none → g k = none
  apart : ∀ j k b, j ≠ k → g j = some b → g k ≠ some b
  ge : ∀ k b, g k = some b → B ≤ b
theorem WC.lt {B : Nat} {w00 : World} {cs : List (List Stage)} {g : Ghost} {listed : Array Bool} {a : Act} {w : World} (h : WC B w00 cs g listed a w) : Lt g w := by
  intro k b hb
  cases hc : cs[k]? with
  | none => rw [h.out k hc] at hb; cases hb
  | some c =>
    have := h.at_ k c hc
    cases hx : current listed c with
    | none => rw [hx] at this; rw [show g k = none from this] at hb; cases hb
    | some x =>
      rw [hx] at this
      obtain ⟨h1, h2⟩ := this
      rw [h2] at hb
      exact x.lt _ _ _ h1 hb

def edge (ops : Array Oper) (i j : Nat) : Bool := match ops[i]? with | some o => o.after.toList.any fun e => Region.binds .any e && e.on == j | none => false
/-- Each stage's operation waits for the one ahead of it. -/
def chained (ops : Array Oper) : List Stage → Bool
  | [] => true
  | x :: r => (match r with | [] => true | y :: _ => match x.i, y.i with | some i, some j => edge ops i j | some _, none => true | none, _ => false) && chained ops r
def idx (cs : List (List Stage)) : List Nat := cs.flatten.filterMap (·.i)
/-- A slot that a stage names is written by its own operation, or by one that it waits for. -/
def slotsOk (ops : Array Oper) (cs : List (List Stage)) : Bool :=
  ops.toList.zipIdx.all fun (o, j) => cs.flatten.all fun y => match y.s with
    | .given _ => true
    | .slot t => o.dst != some t || (match y.i with | none => false | some i => i == j || edge ops i j)
def chainsOk (ops : Array Oper) (cs : List (List Stage)) : Bool := cs.all (chained ops) && slotsOk ops cs

abbrev Closed (ops : Array Oper) (listed : Array Bool) : Prop := ∀ (j : Nat) (p : Oper), ops[j]? = some p → listed.getD j true = true → ∀ e ∈ p.after.toList, Region.binds .any e = true → listed.getD e.on false = true
theorem getD_tf {listed : Array Bool} {j : Nat} (h : listed.getD j false = true) : listed.getD j true = true := by
  by_cases hj : j < listed.size
  · simpa [Array.getD, hj] using h
  · simp [Array.getD, hj] at h
theorem edge_closed {listed : Array Bool} (hcl : Closed ops listed) {i j : Nat} (he : edge ops i j = true) (hi : listed.getD i false = true) : listed.getD j false = true := by
  unfold edge at he
  cases ho : ops[i]? with
  | none => rw [ho] at he; cases he
  | some o =>
    rw [ho] at he
    simp only [List.any_eq_true, Bool.and_eq_true, beq_iff_eq] at he
    obtain ⟨e, hm, hb, rfl⟩ := he
    exact hcl i o ho (getD_tf hi) e hm hb
/-- What is behind a stage that is not yet there is not there. -/
theorem chain_none {listed : Array Bool} (hcl : Closed ops listed) : ∀ (later : List Stage) (x : Stage) (pre : List Stage), chained ops (later ++ x :: pre) = true → x.done listed = false → ∀ y ∈ later, y.done listed = false
  | [], _, _, _, _, y, hy => by cases hy
  | z :: r, x, pre, hch, hx, y, hy => by
    have hch' : chained ops (r ++ x :: pre) = true := by
      simp only [List.cons_append, chained, Bool.and_eq_true] at hch
      exact hch.2
    have ih := chain_none hcl r x pre hch' hx
    rcases List.mem_cons.1 hy with rfl | hy
    · obtain ⟨n, q, hn⟩ : ∃ n q, r ++ x :: pre = n :: q := by
        cases r with
        | nil => exact ⟨x, pre, rfl⟩
        | cons n q => exact ⟨n, q ++ x :: pre, rfl⟩
      have hnd : n.done listed = false := by
        cases r with
        | nil =>
          injection hn with h1 _
          rw [← h1]
          exact hx
        | cons m q' =>
          injection hn with h1 _
          rw [← h1]
          exact ih m (List.mem_cons_self ..)
      simp only [List.cons_append, hn, chained, Bool.and_eq_true] at hch
      have he := hch.1
      cases hyi : y.i with
      | none => rw [hyi] at he; cases he
      | some i =>
        rw [hyi] at he
        cases hni : n.i with
        | none => simp [Stage.done, hni] at hnd
        | some j =>
          rw [hni] at he
          cases hq : y.done listed with
          | false => rfl
          | true =>
            simp only [Stage.done, hyi] at hq
            have := edge_closed hcl he hq
            simp only [Stage.done, hni] at hnd
            rw [this] at hnd
            cases hnd
    · exact ih y hy
theorem current_skip {listed : Array Bool} : ∀ (later r : List Stage), (∀ y ∈ later, y.done listed = false) → current listed (later ++ r) = current listed r
  | [], r, _ => rfl
  | y :: l, r, h => by
    simp only [List.cons_append, current, h y (List.mem_cons_self ..)]
    exact current_skip l r fun z hz => h z (List.mem_cons_of_mem _ hz)
theorem current_mem {listed : Array Bool} : ∀ {c : List Stage} {x : Stage}, current listed c = some x → x ∈ c ∧ x.done listed = true
  | [], x, h => by cases h
  | y :: r, x, h => by
    simp only [current] at h
    split at h
    · rename_i hy
      injection h with h
      subst h
      exact ⟨List.mem_cons_self .., hy⟩
    · obtain ⟨h1, h2⟩ := current_mem h
      exact ⟨List.mem_cons_of_mem _ h1, h2⟩
theorem done_set {listed : Array Bool} {i : Nat} {x : Stage} (hi : x.i ≠ some i) : x.done (listed.setIfInBounds i true) = x.done listed := by
  unfold Stage.done
  cases hx : x.i with
  | none => rfl
  | some j =>
    have : i ≠ j := fun e => hi (by rw [hx, e])
    simp [Array.getD_eq_getD_getElem?, Array.getElem?_setIfInBounds, this]
theorem current_set {listed : Array Bool} {i : Nat} : ∀ {c : List Stage}, (∀ x ∈ c, x.i ≠ some i) → current (listed.setIfInBounds i true) c = current listed c
  | [], _ => rfl
  | x :: r, h => by
    simp only [current, done_set (h x (List.mem_cons_self ..))]
    rw [current_set fun y hy => h y (List.mem_cons_of_mem _ hy)]
/-- The value of a stage that is there is not touched by an operation that is yet to come. -/
theorem src_put {cs : List (List Stage)} (hso : slotsOk ops cs = true) {listed : Array Bool} (hcl : Closed ops listed) {i : Nat} {o : Oper} (ho : ops[i]? = some o) (hs : listed.size = ops.size) (hl : listed.getD i true = false) {k : Nat} {c : List Stage} (hc : cs[k]? = some c) {x : Stage} (hx : x ∈ c) (hd : x.done listed = true) (a : Act) (v : Value) :
    x.s.get (a.put o.dst v) = x.s.get a := by
  cases hxs : x.s with
  | given u => rfl
  | slot t =>
    show (a.put o.dst v).eval (.tmp t) = a.eval (.tmp t)
    cases hod : o.dst with
    | none => rfl
    | some d =>
      refine eval_put_other ?_
      intro e
      subst e
      unfold slotsOk at hso
      rw [List.all_eq_true] at hso
      have hm : (o, i) ∈ ops.toList.zipIdx := by
        rw [List.mem_zipIdx_iff_getElem?]
        simpa using ho
      have h1 := hso _ hm
      simp only [List.all_eq_true] at h1
      have h2 := h1 x (List.mem_flatten.2 ⟨c, List.mem_of_getElem? hc, hx⟩)
      have hlt : i < listed.size := by rw [hs]; exact (Array.getElem?_eq_some_iff.1 ho).1
      have hlf : listed.getD i false = false := by
        simpa [Array.getD, hlt] using hl
      rw [hxs] at h2
      simp only [hod, bne_self_eq_false, Bool.false_or] at h2
      cases hxi : x.i with
      | none => rw [hxi] at h2; cases h2
      | some j =>
        rw [hxi] at h2
        simp only [Stage.done, hxi] at hd
        simp only [Bool.or_eq_true, beq_iff_eq] at h2
        rcases h2 with rfl | h2
        · rw [hlf] at hd; cases hd
        · rw [edge_closed hcl h2 hd] at hlf; cases hlf
theorem idx_mem {cs : List (List Stage)} {k : Nat} {c : List Stage} {x : Stage} {i : Nat} (hc : cs[k]? = some c) (hx : x ∈ c) (hi : x.i = some i) : i ∈ idx cs := by
  unfold idx
  rw [List.mem_filterMap]
  exact ⟨x, List.mem_flatten.2 ⟨c, List.mem_of_getElem? hc, hx⟩, hi⟩
end Reg
end Go.Proofs.Ytlelckdcmlpmdaa
/- Regions with chains: the theorem, and the rules for an operation. -/
namespace Go.Proofs.Ytlelckdcmlpmdaa
open Go Go.RowKit Lou
namespace Reg
variable {P : Program} {ops : Array Oper}

structure J4 (ops : Array Oper) (FS : Ghost → Tmp → Value → World → Prop) (a0 : Act) (D : List Nat) (B : Nat) (w00 : World) (cs : List (List Stage)) (g : Ghost) (listed : Array Bool) (a : Act) (w : World) : Prop where
  size : a.tmps.size = a0.tmps.size
  defers : a.defers = a0.defers
  facts : ∀ t, Known ops listed t → FS g t (a.eval (.tmp t)) w
  wc : WC B w00 cs g listed a w
  rest : ∀ t, D.contains t = false → a.eval (.tmp t) = a0.eval (.tmp t)
  old : ∀ t, (∀ (j : Nat) (p : Oper), ops[j]? = some p → p.dst = some t → listed.getD j true = false) → a.eval (.tmp t) = a0.eval (.tmp t)
  closed : Closed ops listed

def Op4 (P : Program) (ops : Array Oper) (a0 : Act) (FS : Ghost → Tmp → Value → World → Prop) (B : Nat) (w00 : World) (cs : List (List Stage)) (i : Nat) (o : Oper) : Prop :=
  ∀ (g : Ghost) (listed : Array Bool) (a : Act) (w : World) (K : Act → World → Prop) (Q : Exit → Act → World → Prop), ops[i]? = some o → listed.size = ops.size → listed.getD i true = false → (∀ e ∈ o.after.toList, Region.binds .any e = true → listed.getD e.on false = true) → Closed ops listed →
    WC B w00 cs g listed a w → (∀ t, (o.looksAt ops).contains t = true → ahead ops o t = true → FS g t (a.eval (.tmp t)) w) → (∀ t, waits ops i t = true → a.eval (.tmp t) = a0.eval (.tmp t)) → (∀ d, o.dst = some d → d < a.tmps.size) →
    (∀ g' v w', (∀ t u, FS g t u w → FS g' t u w') → FSd (FS g') o.dst v w' → WC B w00 cs g' (listed.setIfInBounds i true) (a.put o.dst v) w' → K (a.put o.dst v) w') →
    (if Region.wanted o (yielded ops a.tmps) then o.wp P a w K Q ∨ (o.asks P a w ∧ LetsOut Q) else K (a.put o.dst undef) w)
def AllOp4 (P : Program) (ops : Array Oper) (a0 : Act) (FS : Ghost → Tmp → Value → World → Prop) (B : Nat) (w00 : World) (cs : List (List Stage)) : Nat → List Oper → Prop
  | _, [] => True
  | k, o :: r => Op4 P ops a0 FS B w00 cs k o ∧ AllOp4 P ops a0 FS B w00 cs (k + 1) r
theorem AllOp4.get {a0 : Act} {FS : Ghost → Tmp → Value → World → Prop} {B : Nat} {w00 : World} {cs : List (List Stage)} : ∀ {l : List Oper} {k : Nat}, AllOp4 P ops a0 FS B w00 cs k l → ∀ i o, l[i]? = some o → Op4 P ops a0 FS B w00 cs (k + i) o
  | [], _, _, i, o, h => by simp at h
  | x :: r, k, h, 0, o, ho => by
    simp at ho
    subst ho
    exact h.1
  | x :: r, k, h, i + 1, o, ho => by
    have := AllOp4.get h.2 i o (by simpa using ho)
    rw [show k + (i + 1) = k + 1 + i from by omega]
    exact this

theorem region4 (hm : P.follows .mixedOrders = true) (hcov : backs ops = true) {id : Nat} {a0 : Act} {w0 : World} {Q : Exit → Act → World → Prop} (n : Nat) (hn : a0.tmps.size = n) (hdst : dstsIn ops n = true) (D : List Nat) (hD : dstsAre ops D = true)
    (FS : Ghost → Tmp → Value → World → Prop) (B : Nat) (w00 : World) (cs : List (List Stage)) (g0 : Ghost) (hstart : ∀ t, (∀ o ∈ ops.toList, o.dst ≠ some t) → FS g0 t (a0.eval (.tmp t)) w0.drew) (h0 : WC B w00 cs g0 (Array.replicate ops.size false) a0 w0.drew)
    (hok : AllOp4 P ops a0 FS B w00 cs 0 ops.toList)
    (hend : ∀ g listed a w, listed.size = ops.size → (∀ i, i < ops.size → listed.getD i true = true) → J4 ops FS a0 D B w00 cs g listed a w → (∀ t, FS g t (a.eval (.tmp t)) w) → Q .normal a w) :
    (Code.region id ops true).wp P Q a0 w0 := by
  have hD' : ∀ o ∈ ops.toList, ∀ d, o.dst = some d → D.contains d = true := by
    intro o ho d hd
    unfold dstsAre at hD
    rw [List.all_eq_true] at hD
    have := hD o ho
    simpa [hd] using this
  have hdst' : ∀ o ∈ ops.toList, ∀ d, o.dst = some d → d < n := by
    intro o ho d hd
    unfold dstsIn at hdst
    rw [List.all_eq_true] at hdst
    have := hdst o ho
    simpa [hd] using this
  refine region_inv hm hcov (fun listed a w => ∃ g, J4 ops FS a0 D B w00 cs g listed a w) ⟨g0, rfl, rfl, ?_, h0, fun _ _ => rfl, fun _ _ => rfl, fun j p hp h => by
    have hj := (Array.getElem?_eq_some_iff.1 hp).1
    simp [Array.getD, hj] at h⟩ ?_ ?_
  · intro t ht
    refine hstart t ?_
    intro o ho hd
    obtain ⟨i, hi, rfl⟩ := List.getElem_of_mem ho
    have hi' : i < ops.size := by simpa using hi
    have := ht i ops[i] (Array.getElem?_eq_getElem hi') (by simpa using hd)
    simp [Array.getD, hi'] at this
  · rintro i o ho listed a w K Q' hs hl hedges ⟨g, hJ⟩ hK
    have hom : o ∈ ops.toList := by
      obtain ⟨h1, h2⟩ := Array.getElem?_eq_some_iff.1 ho
      subst h2
      simp
    have hisz : i < listed.size := by rw [hs]; exact (Array.getElem?_eq_some_iff.1 ho).1
    have hold : ∀ t, waits ops i t = true → a.eval (.tmp t) = a0.eval (.tmp t) := by
      intro t ht
      refine hJ.old t ?_
      intro j p hp hd
      obtain ⟨e, he, hb, rfl⟩ := waits_spec ht hp hd
      cases hl2 : listed.getD j true with
      | false => rfl
      | true =>
        have := hJ.closed j p hp hl2 e he hb
        simp only [Array.getD, hisz, dif_pos] at this hl
        rw [hl] at this
        cases this
    have hlook : ∀ t, (o.looksAt ops).contains t = true → ahead ops o t = true → FS g t (a.eval (.tmp t)) w := by
      intro t _ ht
      refine hJ.facts t ?_
      intro j p hp hd
      obtain ⟨e, he, hb, rfl⟩ := ahead_spec ht hp hd
      have := hedges e he hb
      have hlt : e.on < listed.size := by rw [hs]; exact (Array.getElem?_eq_some_iff.1 hp).1
      simp only [Array.getD, hlt, dif_pos] at this ⊢
      exact this
    have hop := hok.get i o (by simpa using ho)
    rw [Nat.zero_add] at hop
    refine hop g listed a w K Q' ho hs hl hedges hJ.closed hJ.wc hlook hold (fun d hd => by rw [hJ.size, hn]; exact hdst' o hom d hd) ?_
    intro g' v w' hst hv hwi
    refine hK v w' ⟨g', ?_, ?_, ?_, hwi, ?_, ?_, ?_⟩
    · cases hd : o.dst with
      | none => simpa [Act.put] using hJ.size
      | some d => simpa [Act.put] using hJ.size
    · cases hd : o.dst with
      | none => simpa [Act.put] using hJ.defers
      | some d => simpa [Act.put] using hJ.defers
    · intro t ht
      by_cases hdt : o.dst = some t
      · rw [hdt] at hv ⊢
        rw [eval_put_same (by rw [hJ.size, hn]; exact hdst' o hom t hdt)]
        exact hv
      · have hk : Known ops listed t := by
          intro j p hp hd
          have := ht j p hp hd
          by_cases e : i = j
          · subst e
            rw [ho] at hp
            injection hp with hp
            subst hp
            exact absurd hd hdt
          · simpa [Array.getD_eq_getD_getElem?, Array.getElem?_setIfInBounds, e] using this
        have := hst t _ (hJ.facts t hk)
        cases hd : o.dst with
        | none => simpa [Act.put] using this
        | some d =>
          rw [eval_put_other (by intro e; subst e; exact hdt hd)]
          exact this
    · intro t ht
      cases hd : o.dst with
      | none => simpa [Act.put] using hJ.rest t ht
      | some d =>
        rw [eval_put_other (by intro e; subst e; rw [hD' o hom t hd] at ht; cases ht)]
        exact hJ.rest t ht
    · intro t ht
      have hdt : o.dst ≠ some t := by
        intro hd
        have := ht i o ho hd
        simp [Array.getD_eq_getD_getElem?, Array.getElem?_setIfInBounds, hisz] at this
      have := hJ.old t (fun j p hp hd => by
        have h2 := ht j p hp hd
        have hij : i ≠ j := by
          intro e
          subst e
          rw [ho] at hp
          injection hp with hp
          subst hp
          exact hdt hd
        simpa [Array.getD_eq_getD_getElem?, Array.getElem?_setIfInBounds, hij] using h2)
      cases hd : o.dst with
      | none => simpa [Act.put] using this
      | some d =>
        rw [eval_put_other (by intro e; subst e; exact hdt hd)]
        exact this
    · intro j p hp hlj e he hb
      have hup : ∀ k, listed.getD k false = true → (listed.setIfInBounds i true).getD k false = true := by
        intro k hk
        by_cases e : i = k
        · subst e
          simp [Array.getD_eq_getD_getElem?, Array.getElem?_setIfInBounds, hisz]
        · simpa [Array.getD_eq_getD_getElem?, Array.getElem?_setIfInBounds, e] using hk
      by_cases e2 : i = j
      · subst e2
        rw [ho] at hp
        injection hp with hp
        subst hp
        exact hup _ (hedges e he hb)
      · refine hup _ (hJ.closed j p hp ?_ e he hb)
        simpa [Array.getD_eq_getD_getElem?, Array.getElem?_setIfInBounds, e2] using hlj
  · rintro listed a w hs hall ⟨g, hJ⟩
    refine hend g listed a w hs hall hJ (fun t => hJ.facts t ?_)
    intro j p hp _
    exact hall j (Array.getElem?_eq_some_iff.1 hp).1

section rules
variable {a0 : Act} {FS : Ghost → Tmp → Value → World → Prop} {B : Nat} {w00 : World} {cs : List (List Stage)} {i : Nat} {o : Oper}
/-- An operation that leaves what lay as it was. -/
theorem WC.plain (hok : chainsOk ops cs = true) (hi : (idx cs).contains i = false) {g : Ghost} {listed : Array Bool} {a : Act} {w w' : World} (h : WC B w00 cs g listed a w) (ho : ops[i]? = some o) (hs : listed.size = ops.size) (hl : listed.getD i true = false) (hcl : Closed ops listed) (hg : Grow w w') (v : Value) :
    WC B w00 cs g (listed.setIfInBounds i true) (a.put o.dst v) w' := by
  have hso : slotsOk ops cs = true := by
    unfold chainsOk at hok
    simp only [Bool.and_eq_true] at hok
    exact hok.2
  have hni : ∀ (k : Nat) (c : List Stage), cs[k]? = some c → ∀ x ∈ c, x.i ≠ some i := by
    intro k c hc x hx e
    have := idx_mem hc hx e
    simp at hi
    exact hi this
  refine ⟨h.below.trans (hg.mono h.base), Nat.le_trans h.base hg.size, ?_, h.out, h.apart, h.ge⟩
  intro k c hc
  rw [current_set (hni k c hc)]
  have := h.at_ k c hc
  cases hx : current listed c with
  | none => rw [hx] at this; exact this
  | some x =>
    rw [hx] at this
    obtain ⟨hxm, hxd⟩ := current_mem hx
    have e := src_put hso hcl ho hs hl hc hxm hxd a v
    obtain ⟨h1, h2⟩ := this
    refine ⟨?_, ?_⟩
    · rw [e]
      exact x.st _ _ _ h1 fun b hb => hg.block b (x.lt _ _ _ h1 hb)
    · rw [e]
      exact h2
theorem op4_of (hok : chainsOk ops cs = true) (hi : (idx cs).contains i = false) (hst : ∀ g t v w w', FS g t v w → Grow w w' → FS g t v w') (h : ∀ g w0, Lt g w0 → OpOk P ops (FS g) w0 o) (hah : ((o.looksAt ops).all (ahead ops o)) = true) : Op4 P ops a0 FS B w00 cs i o := by
  intro g listed a w K Q ho hs hl he hcl hw hlook _ _ hK
  exact h g w hw.lt a w K Q (Grow.refl w) (fun t ht => hlook t ht (by
    rw [List.all_eq_true] at hah
    exact hah t (by simpa using ht))) (fun v w' hg hf => hK g v w' (fun t u hu => hst g t u w w' hu hg) hf (hw.plain hok hi ho hs hl hcl hg v))
/-- The move of a slot that the region writes later. -/
theorem op4_mv_old (hok : chainsOk ops cs = true) (hi : (idx cs).contains i = false) (t : Tmp) (hg : o.guard = none) (hop : o.op = .move (.tmp t) ∨ o.op = .assign (.tmp t)) (hw : waits ops i t = true) (hd : ∀ g w, FSd (FS g) o.dst (a0.eval (.tmp t)) w) : Op4 P ops a0 FS B w00 cs i o := by
  intro g listed a w K Q ho hs hl he hcl hwc _ hold _ hK
  have e := hold t hw
  rw [if_pos (by simp [Region.wanted, hg])]
  left
  unfold Oper.wp execOp
  rcases hop with hop | hop <;> simp only [hop, Sem.run_pure, Oper.upon_value, e] <;> exact hK g _ w (fun _ _ h => h) (hd g w) (hwc.plain hok hi ho hs hl hcl (Grow.refl w) _)
theorem chained_at : ∀ (later r : List Stage), chained ops (later ++ r) = true → chained ops r = true
  | [], _, h => h
  | z :: q, r, h => by
    simp only [List.cons_append, chained, Bool.and_eq_true] at h
    exact chained_at q r h.2
/-- An operation that leads from a stage of chain k to the next one. -/
theorem op4_stage (hok : chainsOk ops cs = true) (k : Nat) (later : List Stage) (x : Stage) (pre : List Stage) (hc : cs[k]? = some (later ++ x :: pre)) (hxi : x.i = some i) (hu1 : later.all (fun y => y.i != some i) = true) (hu2 : (cs.zipIdx.all fun (c, j) => j == k || c.all fun y => y.i != some i) = true) (hg : o.guard = none)
    (hst : ∀ g k gb t u w w', Lt g w → w.grownBy w' (g k) → (gb = g k ∨ ∀ b, gb = some b → w.heap.size ≤ b) → FS g t u w → FS (upd g k gb) t u w')
    (hrun : ∀ (g : Ghost) (a : Act) (w : World) (K : Act → World → Prop) (Q : Exit → Act → World → Prop), Lt g w → B ≤ w.heap.size → Below B w00 w → (∀ t, (o.looksAt ops).contains t = true → ahead ops o t = true → FS g t (a.eval (.tmp t)) w) → StageAt (g k) a w pre.head? → (∀ d, o.dst = some d → d < a.tmps.size) →
      (∀ v w' gb, w.grownBy w' (g k) → (gb = g k ∨ ∀ b, gb = some b → w.heap.size ≤ b) → x.p (x.s.get (a.put o.dst v)) w' → gb = x.b (x.s.get (a.put o.dst v)) → FSd (FS (upd g k gb)) o.dst v w' → K (a.put o.dst v) w') → o.wp P a w K Q) : Op4 P ops a0 FS B w00 cs i o := by
  intro g listed a w K Q ho hs hl he hcl hw hlook _ hdl hK
  rw [if_pos (by simp [Region.wanted, hg])]
  left
  have hok' := hok
  unfold chainsOk at hok'
  simp only [Bool.and_eq_true, List.all_eq_true] at hok'
  obtain ⟨hch, hso⟩ := hok'
  have hchk := hch _ (List.mem_of_getElem? hc)
  have hisz : i < listed.size := by rw [hs]; exact (Array.getElem?_eq_some_iff.1 ho).1
  have hlf : listed.getD i false = false := by simpa [Array.getD, hisz] using hl
  have hxd : x.done listed = false := by simpa [Stage.done, hxi] using hlf
  have hlat := chain_none hcl later x pre hchk hxd
  have hcur : current listed (later ++ x :: pre) = pre.head? := by
    rw [current_skip later _ hlat]
    simp only [current, hxd]
    cases hp : pre with
    | nil => rfl
    | cons y r =>
      have hyd : y.done listed = true := by
        have h2 : chained ops (x :: y :: r) = true := by
          rw [hp] at hchk
          exact chained_at _ _ hchk
        simp only [chained, Bool.and_eq_true, hxi] at h2
        have h3 := h2.1
        unfold Stage.done
        cases hyi : y.i with
        | none => rfl
        | some j =>
          rw [hyi] at h3
          simp only [edge, ho, List.any_eq_true, Bool.and_eq_true, beq_iff_eq] at h3
          obtain ⟨e, hm, hb, rfl⟩ := h3
          exact he e hm hb
      simp [current, hyd]
  have hpre := hw.at_ k _ hc
  rw [hcur] at hpre
  refine hrun g a w K Q hw.lt hw.base hw.below hlook hpre hdl ?_
  intro v w' gb hgr hgb hxp hxb hfd
  have hlater : ∀ y ∈ later, y.i ≠ some i := by
    intro y hy
    rw [List.all_eq_true] at hu1
    simpa using hu1 y hy
  have hother : ∀ (j : Nat) (c : List Stage), cs[j]? = some c → j ≠ k → ∀ y ∈ c, y.i ≠ some i := by
    intro j c hjc hjk y hy
    rw [List.all_eq_true] at hu2
    have := hu2 (c, j) (by rw [List.mem_zipIdx_iff_getElem?]; exact hjc)
    simp only [Bool.or_eq_true, beq_iff_eq, List.all_eq_true] at this
    rcases this with h | h
    · exact absurd h hjk
    · simpa using h y hy
  have hlt := hw.lt
  refine hK (upd g k gb) v w' (fun t u hu => hst g k gb t u w w' hlt hgr hgb hu) hfd ⟨hw.below.trans (grown_below hgr hw.base (fun r hr => hw.ge k r hr)), Nat.le_trans hw.base hgr.size, ?_, ?_, ?_, ?_⟩
  · intro j c hjc
    by_cases hjk : j = k
    · subst hjk
      rw [hc] at hjc
      injection hjc with hjc
      subst hjc
      have e : current (listed.setIfInBounds i true) (later ++ x :: pre) = some x := by
        rw [current_skip later _ (fun y hy => by rw [done_set (hlater y hy)]; exact hlat y hy)]
        have : x.done (listed.setIfInBounds i true) = true := by
          simp [Stage.done, hxi, Array.getD_eq_getD_getElem?, Array.getElem?_setIfInBounds, hisz]
        simp [current, this]
      rw [e]
      simp only [upd, if_true]
      exact ⟨hxp, hxb⟩
    · rw [current_set (hother j c hjc hjk)]
      have h1 := hw.at_ j c hjc
      simp only [upd, if_neg hjk]
      cases hy : current listed c with
      | none => rw [hy] at h1; exact h1
      | some y =>
        rw [hy] at h1
        obtain ⟨hym, hyd⟩ := current_mem hy
        have e := src_put hso hcl ho hs hl hjc hym hyd a v
        obtain ⟨h2, h3⟩ := h1
        refine ⟨?_, by rw [e]; exact h3⟩
        rw [e]
        refine y.st _ _ _ h2 fun b hb => hgr.block b (y.lt _ _ _ h2 hb) ?_
        intro e2
        exact hw.apart j k b hjk (by rw [h3]; exact hb) e2.symm
  · intro j hj
    have hjk : j ≠ k := by
      intro e
      subst e
      rw [hc] at hj
      cases hj
    simp only [upd, if_neg hjk]
    exact hw.out j hj
  · intro j1 j2 b h12 h1
    by_cases e1 : j1 = k
    · subst e1
      have e2 : ¬ j2 = j1 := fun e => h12 e.symm
      simp only [upd, if_true] at h1
      simp only [upd, if_neg e2]
      intro h2
      rcases hgb with hgb | hgb
      · rw [hgb] at h1
        exact hw.apart j1 j2 b h12 h1 h2
      · have h3 := hgb b h1
        have := hlt j2 b h2
        omega
    · simp only [upd, if_neg e1] at h1
      by_cases e2 : j2 = k
      · subst e2
        simp only [upd, if_true]
        intro h2
        rcases hgb with hgb | hgb
        · rw [hgb] at h2
          exact hw.apart j1 j2 b h12 h1 h2
        · have h3 := hgb b h2
          have := hlt j1 b h1
          omega
      · simp only [upd, if_neg e2]
        exact hw.apart j1 j2 b h12 h1
  · intro j b hj
    by_cases e1 : j = k
    · subst e1
      simp only [upd, if_true] at hj
      rcases hgb with hgb | hgb
      · rw [hgb] at hj
        exact hw.ge j b hj
      · have h3 := hgb b hj
        have := hw.base
        omega
    · simp only [upd, if_neg e1] at hj
      exact hw.ge j b hj
/-- Operation i waits for the stage's. -/
def behind (ops : Array Oper) (i : Nat) : Option Nat → Bool
  | none => true
  | some j => edge ops i j
/-- An operation that reads what a chain holds. -/
theorem op4_read (hok : chainsOk ops cs = true) (hi : (idx cs).contains i = false) (k : Nat) (later : List Stage) (y : Stage) (pre : List Stage) (hc : cs[k]? = some (later ++ y :: pre)) (hyi : behind ops i y.i = true)
    (hlat : ∀ listed, Closed ops listed → listed.getD i false = false → ∀ z ∈ later, z.done listed = false) (hg : o.guard = none) (hst : ∀ g t v w w', FS g t v w → Grow w w' → FS g t v w')
    (h : ∀ (g : Ghost) (a : Act) (w : World) (K : Act → World → Prop) (Q : Exit → Act → World → Prop), Lt g w → B ≤ w.heap.size → Below B w00 w → (∀ t, (o.looksAt ops).contains t = true → ahead ops o t = true → FS g t (a.eval (.tmp t)) w) → y.p (y.s.get a) w → g k = y.b (y.s.get a) →
      (∀ v w', Grow w w' → FSd (FS g) o.dst v w' → K (a.put o.dst v) w') → o.wp P a w K Q) : Op4 P ops a0 FS B w00 cs i o := by
  intro g listed a w K Q ho hs hl he hcl hw hlook _ _ hK
  rw [if_pos (by simp [Region.wanted, hg])]
  left
  have hisz : i < listed.size := by rw [hs]; exact (Array.getElem?_eq_some_iff.1 ho).1
  have hlf : listed.getD i false = false := by simpa [Array.getD, hisz] using hl
  have hyd : y.done listed = true := by
    unfold Stage.done
    cases hy : y.i with
    | none => rfl
    | some j =>
      rw [hy] at hyi
      simp only [behind, edge, ho, List.any_eq_true, Bool.and_eq_true, beq_iff_eq] at hyi
      obtain ⟨e, hm, hb, rfl⟩ := hyi
      exact he e hm hb
  have hcur : current listed (later ++ y :: pre) = some y := by
    rw [current_skip later _ (hlat listed hcl hlf)]
    simp [current, hyd]
  have hat := hw.at_ k _ hc
  rw [hcur] at hat
  exact h g a w K Q hw.lt hw.base hw.below hlook hat.1 hat.2 fun v w' hgr hf => hK g v w' (fun t u hu => hst g t u w w' hu hgr) hf (hw.plain hok hi ho hs hl hcl hgr v)
theorem later_nil (i : Nat) : ∀ listed, Closed ops listed → listed.getD i false = false → ∀ z ∈ ([] : List Stage), z.done listed = false := fun _ _ _ z hz => by cases hz
/-- What every stage of a region's end holds. -/
theorem J4.end_ {D : List Nat} {g : Ghost} {listed : Array Bool} {a : Act} {w : World} (h : J4 ops FS a0 D B w00 cs g listed a w) (hall : ∀ i, i < ops.size → listed.getD i true = true) (hs : listed.size = ops.size) (k : Nat) (x : Stage) (r : List Stage) (hc : cs[k]? = some (x :: r)) (hx : ∀ i, x.i = some i → i < ops.size) : x.p (x.s.get a) w ∧ g k = x.b (x.s.get a) := by
  have h1 := h.wc.at_ k _ hc
  have hd : x.done listed = true := by
    unfold Stage.done
    cases hi : x.i with
    | none => rfl
    | some i =>
      have hlt : i < ops.size := hx i hi
      have := hall i hlt
      have hl : i < listed.size := by omega
      simpa [Array.getD, hl] using this
  simp only [current, hd, if_true] at h1
  exact h1
end rules
end Reg
end Go.Proofs.Ytlelckdcmlpmdaa
/- octet.Four, Eight and what they call; louperef03.Fixed: fixed bytes. -/
namespace Go.Proofs.Ytlelckdcmlpmdaa
open Go Go.RowKit Lou

set_option maxRecDepth 100000 in
theorem four1_gives (n b : Nat) (hb : b ≤ 31) (w : World) : Calls Try.prog 106 #[.int .u32 n, .int .i64 b] w fun e w' => e = .returned (.int .u8 ((n / 2 ^ b % 256 : Nat) : Int)) ∧ w = w' := by
  go_enter Try.func106, Try.ntmps106
  go_wp2
  go_ret
  exact ⟨by simp, rfl⟩

set_option maxRecDepth 100000 in
theorem eight1_gives (n b : Nat) (hb : b ≤ 63) (w : World) : Calls Try.prog 108 #[.int .u64 n, .int .i64 b] w fun e w' => e = .returned (.int .u8 ((n / 2 ^ b % 256 : Nat) : Int)) ∧ w = w' := by
  go_enter Try.func108, Try.ntmps108
  go_wp2
  go_ret
  exact ⟨by simp, rfl⟩

/-- What fixed has told when k bytes are still to come. -/
def FixAt (m n k : Nat) (pre : List UInt8) : Prop := pre ++ fixL k n = fixL m n ∧ pre.length + k = m
theorem FixAt.start (m n : Nat) : FixAt m n m [] := ⟨rfl, by simp⟩
theorem FixAt.next {m n k : Nat} {pre : List UInt8} (h : FixAt m n (k + 1) pre) : FixAt m n k (pre ++ [UInt8.ofNat (n / 2 ^ (8 * k) % 256)]) := by
  refine ⟨?_, by have := h.2; simp; omega⟩
  rw [← h.1, fixL_succ, List.append_assoc, List.singleton_append]
  congr 2
  apply UInt8.toNat_inj.1
  rw [show (256 : Nat) ^ k = 2 ^ (8 * k) from by rw [Nat.pow_mul]]
  simp [UInt8.toNat_ofNat']
theorem FixAt.last {m n : Nat} {pre : List UInt8} (h : FixAt m n 0 pre) : pre = fixL m n := by
  have := h.1
  simpa [fixL] using this

set_option maxRecDepth 100000 in
set_option maxHeartbeats 1000000 in
theorem fixed32_gives (m n : Nat) (hm : m ≤ 4) (w : World) : Calls Try.prog 105 #[.int .u32 n, .int .i64 m, .func (.func 106) #[] #[]] w (GivesB w (fixL m n)) := by
  obtain ⟨i0, hi, hz0, hz1, hz2⟩ := info_parts inf_u8
  go_enter Try.func105, Try.ntmps105
  go_wp2_with fail
  go_loopw [6, 7] (fun v i wr => ∃ (k : Nat) (pre : List UInt8), Hid (FixAt m n k pre) ∧ pre.length ≤ m ∧ k ≤ m ∧ i = .int .i64 ((k : Int) - 1) ∧ OwnB wr w.heap.size v pre ∧ Below w.heap.size w wr)
    (fun _ i _ => (intOf i + 1).toNat)
  case atStart => exact ⟨m, [], Lib.hid (FixAt.start m n), by simp, by omega, rfl, OwnB.nil _ _, Below.refl _ _⟩
  case round =>
    obtain ⟨k, pre, hF, hl, hk, rfl, hown, hB⟩ := hrel
    have hBs := hB.size
    rcases k with _ | k
    · have hi0 : ((0 : Nat) : Int) - 1 < 0 := by omega
      go_wp2_with fail
      go_ret
      have e := hF.out.last
      subst e
      exact ⟨_, rfl, hown, hB⟩
    · have e1 : (((k + 1 : Nat) : Int) - 1) = (k : Int) := by omega
      rw [e1]
      clear e1
      go_wp2_with fail
      rw [show (8 * (k : Int)) = ((8 * k : Nat) : Int) from by omega]
      refine (four1_gives n (8 * k) (by omega) _).mono ?_
      rintro e w' ⟨rfl, rfl⟩
      have hb8 : n / 2 ^ (8 * k) % 256 < 256 := by omega
      generalize hx : n / 2 ^ (8 * k) % 256 = x at *
      have hX := Lib.hid hx
      clear hx
      go_wp2_with (at_builtin; refine wpList_append_own _ rfl _ _ 30 rfl w.heap.size 5 i0 (.int .u8 0) 1 1 Try.underlying30 hi hz0 hz1 hz2 rfl (by decide) _ _ _ rfl (World.ownsRow.alloc hown _) ⟨wr.heap.size, 0, none⟩ 1 1 _ rfl rfl (cell_one_new _ _ _) (by simp [Value.oneCell']) (by unfold maxLen; omega) (by omega) (by simp; omega) ?_; intro v' w1 hown' hgrow _)
      have hNx := hF.out.next
      rw [hX.out] at hNx
      rw [map_snoc_b8 pre x hb8] at hown'
      refine ⟨⟨k, pre ++ [UInt8.ofNat x], Lib.hid hNx, ?_, by omega, rfl, ?_, (hB.alloc hBs _).grown hgrow (by simp; omega) (fun k hk => (World.ownsRow.lt hown k hk).1)⟩, by simp [intOf]⟩
      · have := hNx.2; omega
      · unfold OwnB
        simpa using hown'

set_option maxRecDepth 100000 in
set_option maxHeartbeats 1000000 in
theorem fixed64_gives (m n : Nat) (hm : m ≤ 8) (w : World) : Calls Try.prog 107 #[.int .u64 n, .int .i64 m, .func (.func 108) #[] #[]] w (GivesB w (fixL m n)) := by
  obtain ⟨i0, hi, hz0, hz1, hz2⟩ := info_parts inf_u8
  go_enter Try.func107, Try.ntmps107
  go_wp2_with fail
  go_loopw [6, 7] (fun v i wr => ∃ (k : Nat) (pre : List UInt8), Hid (FixAt m n k pre) ∧ pre.length ≤ m ∧ k ≤ m ∧ i = .int .i64 ((k : Int) - 1) ∧ OwnB wr w.heap.size v pre ∧ Below w.heap.size w wr)
    (fun _ i _ => (intOf i + 1).toNat)
  case atStart => exact ⟨m, [], Lib.hid (FixAt.start m n), by simp, by omega, rfl, OwnB.nil _ _, Below.refl _ _⟩
  case round =>
    obtain ⟨k, pre, hF, hl, hk, rfl, hown, hB⟩ := hrel
    have hBs := hB.size
    rcases k with _ | k
    · have hi0 : ((0 : Nat) : Int) - 1 < 0 := by omega
      go_wp2_with fail
      go_ret
      have e := hF.out.last
      subst e
      exact ⟨_, rfl, hown, hB⟩
    · have e1 : (((k + 1 : Nat) : Int) - 1) = (k : Int) := by omega
      rw [e1]
      clear e1
      go_wp2_with fail
      rw [show (8 * (k : Int)) = ((8 * k : Nat) : Int) from by omega]
      refine (eight1_gives n (8 * k) (by omega) _).mono ?_
      rintro e w' ⟨rfl, rfl⟩
      have hb8 : n / 2 ^ (8 * k) % 256 < 256 := by omega
      generalize hx : n / 2 ^ (8 * k) % 256 = x at *
      have hX := Lib.hid hx
      clear hx
      go_wp2_with (at_builtin; refine wpList_append_own _ rfl _ _ 30 rfl w.heap.size 5 i0 (.int .u8 0) 1 1 Try.underlying30 hi hz0 hz1 hz2 rfl (by decide) _ _ _ rfl (World.ownsRow.alloc hown _) ⟨wr.heap.size, 0, none⟩ 1 1 _ rfl rfl (cell_one_new _ _ _) (by simp [Value.oneCell']) (by unfold maxLen; omega) (by omega) (by simp; omega) ?_; intro v' w1 hown' hgrow _)
      have hNx := hF.out.next
      rw [hX.out] at hNx
      rw [map_snoc_b8 pre x hb8] at hown'
      refine ⟨⟨k, pre ++ [UInt8.ofNat x], Lib.hid hNx, ?_, by omega, rfl, ?_, (hB.alloc hBs _).grown hgrow (by simp; omega) (fun k hk => (World.ownsRow.lt hown k hk).1)⟩, by simp [intOf]⟩
      · have := hNx.2; omega
      · unfold OwnB
        simpa using hown'

/-- octet.Four -/
theorem four_gives (n : Nat) (w : World) : Calls Try.prog 43 #[.int .u32 n] w (GivesB w (fixL 4 n)) := by
  go_enter Try.func43, Try.ntmps43
  go_wp2_with fail
  refine (fixed32_gives 4 n (by omega) _).mono ?_
  rintro e w' ⟨v, rfl, h1, h2⟩
  go_wp2
  go_ret
  exact ⟨v, rfl, h1, h2⟩

/-- octet.Eight -/
theorem eight_gives (n : Nat) (w : World) : Calls Try.prog 45 #[.int .u64 n] w (GivesB w (fixL 8 n)) := by
  go_enter Try.func45, Try.ntmps45
  go_wp2_with fail
  refine (fixed64_gives 8 n (by omega) _).mono ?_
  rintro e w' ⟨v, rfl, h1, h2⟩
  go_wp2
  go_ret
  exact ⟨v, rfl, h1, h2⟩
end Go.Proofs.Ytlelckdcmlpmdaa
/- loupelaw03.works: the chapter's rows. -/
namespace Go.Proofs.Ytlelckdcmlpmdaa
open Go Go.RowKit Lou

theorem num3_gives (e : Int) (w : World) : Calls Try.prog 36 #[.int .i64 e] w fun x w' => x = .returned (.int .i64 e) ∧ w = w' := by
  go_enter Try.func36, Try.ntmps36
  go_wp2
  go_ret
  exact ⟨rfl, rfl⟩

theorem num300 : num 300 = [172, 2] := by decide +kernel
theorem rd_a : rd [128, 0] = none := by decide +kernel
theorem rd_b : rd [172, 2, 7] = some (300, 2) := by decide +kernel
theorem rdV_b : rdV [172, 2, 7] = .tuple #[.int .u64 300, .int .i64 2, .int .i64 0] := rdV_some rd_b
theorem fix258 : fixL 4 258 = [0, 0, 1, 2] := by decide +kernel
theorem strab : strL [97, 98] = [2, 97, 98] := by decide +kernel
theorem sum19 : sumL [49, 50, 51, 52, 53, 54, 55, 56, 57] = 3421780262 := by decide +kernel
theorem sum0 : sumL [] = 0 := by decide +kernel

theorem OwnB.toStr {w : World} {base : Nat} {v : Value} {l : List UInt8} (h : OwnB w base v l) : (convert 30 9 v).run Try.prog w = .ok (.string (str l)) w := by
  obtain ⟨A, c, rfl, hin⟩ := h.inB
  exact hin.string

set_option maxRecDepth 100000 in
set_option maxHeartbeats 4000000 in
theorem works3_gives (w : World) : Calls Try.prog 27 #[] w fun e w' => e = .returned (.bool true) ∧ Below w.heap.size w w' := by
  have hb0 : Below w.heap.size w w := Below.refl _ _
  go_enter Try.func27, Try.ntmps27
  go_wp2_with fail
  have hb1 : Below w.heap.size w (w.alloc (.cells #[.int .u8 128, .int .u8 0] 5)) := (Below.refl _ _).alloc (Nat.le_refl _) _
  have i1 : InB (w.alloc (.cells #[.int .u8 128, .int .u8 0] 5)) (w.heap.size + 1) (some ⟨w.heap.size, 0, none⟩) 2 [128, 0] := BlkIs.inB (l := [128, 0]) (BlkIs.new w 5 #[.int .u8 128, .int .u8 0]) _ (by omega) (by simp)
  have H1 := readNumber_gives _ _ _ _ _ i1
  rw [rdV_none rd_a] at H1
  refine H1.mono ?_
  clear H1 i1
  rintro e w' ⟨rfl, rfl⟩
  generalize w.alloc (.cells #[.int .u8 128, .int .u8 0] 5) = w1 at *
  go_wp2_with fail
  have hb2 : Below w.heap.size w (w1.alloc (.cells #[.int .u8 172, .int .u8 2, .int .u8 7] 5)) := hb1.alloc hb1.size _
  have i1 : InB (w1.alloc (.cells #[.int .u8 172, .int .u8 2, .int .u8 7] 5)) (w1.heap.size + 1) (some ⟨w1.heap.size, 0, none⟩) 3 [172, 2, 7] := BlkIs.inB (l := [172, 2, 7]) (BlkIs.new w1 5 #[.int .u8 172, .int .u8 2, .int .u8 7]) _ (by omega) (by simp)
  have H1 := readNumber_gives _ _ _ _ _ i1
  rw [rdV_b] at H1
  refine H1.mono ?_
  clear H1 i1 hb1
  rintro e w' ⟨rfl, rfl⟩
  generalize w1.alloc (.cells #[.int .u8 172, .int .u8 2, .int .u8 7] 5) = w2 at *
  go_wp2_with fail
  refine (number_gives 300 (by omega) _).mono ?_
  rintro e w3 ⟨v, rfl, hown, hB⟩
  have hb3 := hb2.trans (hB.mono hb2.size)
  have hst := hown.toStr
  rw [num300] at hst
  clear hown hB hb2
  have hs1 : str [172, 2] = ⟨#[172, 2]⟩ := rfl
  go_wp2_with (go_at_call 36; refine (num3_gives _ _).mono ?_; rintro e w' ⟨rfl, rfl⟩)
  clear hst hs1
  refine (four_gives 258 _).mono ?_
  rintro e w4 ⟨v4, rfl, hown, hB⟩
  have hb4 := hb3.trans (hB.mono hb3.size)
  have hst := hown.toStr
  rw [fix258] at hst
  clear hown hB hb3
  have hs1 : str [0, 0, 1, 2] = ⟨#[0, 0, 1, 2]⟩ := rfl
  go_wp2_with fail
  clear hst hs1
  refine (string_gives [97, 98] (by simp) _).mono ?_
  rintro e w5 ⟨v5, rfl, hown, hB⟩
  have hb5 := hb4.trans (hB.mono hb4.size)
  have hst := hown.toStr
  rw [strab] at hst
  clear hown hB hb4
  have hs1 : str [2, 97, 98] = ⟨#[2, 97, 98]⟩ := rfl
  have kc := fun (w : World) (C : Array Value) (n c : Nat) => Lib.run_convert_bytes_const (P := Try.prog) w 30 5 C n c Try.underlying30 Try.underlying5
  go_wp2_with fail
  clear hst hs1 kc
  have hb6 : Below w.heap.size w (w5.alloc (.cells #[.int .u8 49, .int .u8 50, .int .u8 51, .int .u8 52, .int .u8 53, .int .u8 54, .int .u8 55, .int .u8 56, .int .u8 57] 5 (9, 10))) := hb5.alloc hb5.size _
  have i1 : InB (w5.alloc (.cells #[.int .u8 49, .int .u8 50, .int .u8 51, .int .u8 52, .int .u8 53, .int .u8 54, .int .u8 55, .int .u8 56, .int .u8 57] 5 (9, 10))) (w5.alloc (.cells #[.int .u8 49, .int .u8 50, .int .u8 51, .int .u8 52, .int .u8 53, .int .u8 54, .int .u8 55, .int .u8 56, .int .u8 57] 5 (9, 10))).heap.size (some ⟨w5.heap.size, 0, none⟩) 9 [49, 50, 51, 52, 53, 54, 55, 56, 57] :=
    inB_row (l := [49, 50, 51, 52, 53, 54, 55, 56, 57]) (heap_alloc_new w5 _) _ (by simp) (by simp)
  have H1 := sum1_gives _ _ _ _ i1
  rw [sum19, World.size_alloc] at H1
  refine H1.mono ?_
  clear H1 i1 hb5
  rintro e w7 ⟨rfl, hB⟩
  have hb7 := hb6.trans (hB.mono (by have := hb6.size; simpa using this))
  clear hb6 hB
  go_wp2_with fail
  have H1 := sum0_gives w7
  rw [sum0] at H1
  refine H1.mono ?_
  clear H1
  rintro e w8 ⟨rfl, hB⟩
  have hb8 := hb7.trans (hB.mono hb7.size)
  go_wp2_with fail
  go_ret
  exact ⟨rfl, hb8⟩
end Go.Proofs.Ytlelckdcmlpmdaa
/- louperef03.Fixed: fixed bytes. -/
namespace Go.Proofs.Ytlelckdcmlpmdaa
open Go Go.RowKit Lou

/-- The last bytes are told; k are still noughts. -/
def FxAt (m n0 n k : Nat) (l : List UInt8) : Prop := n = n0 / 256 ^ (m - k) ∧ l = List.replicate k 0 ++ (fixL m n0).drop k
theorem FxAt.start (m n : Nat) : FxAt m n n m (List.replicate m 0) := by
  refine ⟨by simp, ?_⟩
  rw [List.drop_eq_nil_of_le (by rw [fixL_length]; exact Nat.le_refl _), List.append_nil]
theorem FxAt.length {m n0 n k : Nat} {l : List UInt8} (h : FxAt m n0 n k l) (hk : k ≤ m) : l.length = m := by
  rw [h.2]; simp [fixL_length]; omega
theorem FxAt.next {m n0 n k : Nat} {l : List UInt8} (h : FxAt m n0 n (k + 1) l) (hk : k + 1 ≤ m) : FxAt m n0 (n / 256) k (l.set k (UInt8.ofNat (n % 256))) := by
  obtain ⟨h1, h2⟩ := h
  constructor
  · rw [h1, Nat.div_div_eq_div_mul, ← Nat.pow_succ, show m - k = (m - (k + 1)) + 1 from by omega]
  · rw [h2, List.replicate_succ', List.append_assoc, List.set_append_right _ _ (by simp)]
    simp only [List.length_replicate, Nat.sub_self]
    have hl : k < (fixL m n0).length := by rw [fixL_length]; omega
    rw [List.drop_eq_getElem_cons hl]
    congr 1
    show UInt8.ofNat (n % 256) :: _ = _
    congr 1
    have : (fixL m n0)[k] = UInt8.ofNat (n0 / 256 ^ (m - 1 - k)) := by simp [fixL]
    rw [this, h1, show m - (k + 1) = m - 1 - k from by omega]
    apply UInt8.toNat_inj.1
    simp [UInt8.toNat_ofNat']
theorem FxAt.last {m n0 n : Nat} {l : List UInt8} (h : FxAt m n0 n 0 l) : l = fixL m n0 := by simpa using h.2

set_option maxRecDepth 100000 in
set_option maxHeartbeats 1000000 in
theorem refFixed_gives (m n0 : Nat) (hm : m ≤ 8) (h64 : n0 < 2 ^ 64) (w : World) : Calls Try.prog 44 #[.int .u64 n0, .int .i64 m] w (GivesB w (fixL m n0)) := by
  have hN := Lib.hid h64
  clear h64
  go_enter Try.func44, Try.ntmps44
  go_wp2_with (at_make; refine wp_makeB rfl _ _ rfl w.heap.size _ _ m rfl rfl (by omega) (Nat.le_refl _) ?_; intro w1 hown1 hgrow1)
  have hB1 : Below w.heap.size w w1 := (Below.refl _ _).grown hgrow1 (Nat.le_refl _) (fun k hk => by cases hk)
  clear hgrow1
  go_loopw [0, 6] (fun x i wr => ∃ (k n : Nat) (l : List UInt8), k ≤ m ∧ i = .int .i64 ((k : Int) - 1) ∧ x = .int .u64 n ∧ Hid (FxAt m n0 n k l) ∧ OwnB wr w.heap.size (.slice (some ⟨w.heap.size, 0, none⟩) m m) l ∧ Below w.heap.size w wr)
    (fun _ i _ => (intOf i + 1).toNat)
  case atStart => exact ⟨m, n0, _, Nat.le_refl _, rfl, rfl, Lib.hid (FxAt.start m n0), hown1, hB1⟩
  case round =>
    obtain ⟨k, n, l, hk, rfl, rfl, hF, hown, hB⟩ := hrel
    clear hown1 hB1
    rcases k with _ | k
    · have hi0 : ((0 : Nat) : Int) - 1 < 0 := by omega
      go_wp2_with fail
      go_ret
      have e := hF.out.last
      subst e
      exact ⟨_, rfl, hown, hB⟩
    · have e1 : (((k + 1 : Nat) : Int) - 1) = (k : Int) := by omega
      rw [e1]
      clear e1
      have hll : k < l.length := by have := hF.out.length hk; omega
      have hc := hown.cell k hll
      have hf := hown.free k
      have hq : IntKind.u64.wrap ((n : Int) / 256) = (n : Int) / 256 := by
        have h64 := hN.out
        have hn : n ≤ n0 := by rw [hF.out.1]; exact Nat.div_le_self _ _
        rw [IntKind.wrap_u64]
        omega
      have hset := hown.set k (n % 256) (by omega)
      have hNx := Lib.hid (hF.out.next hk)
      have hgw : w.heap.size ≤ w.heap.size := Nat.le_refl _
      rw [show ((n % 256 : Nat) : Int) = (n : Int) % 256 from by omega] at hset
      have hSet := Lib.hid hset
      clear hset
      go_wp2_with fail
      refine ⟨⟨k, n / 256, _, by omega, rfl, by go_num, hNx, hSet.out, hB.setCell (p := ⟨w.heap.size, k, none⟩) hgw _⟩, by simp [intOf]⟩
end Go.Proofs.Ytlelckdcmlpmdaa
/- loupelaw03.OctetNumbers: the walk. -/
namespace Go.Proofs.Ytlelckdcmlpmdaa
open Go Go.RowKit Lou

theorem rdV_form (l : List UInt8) : ∃ x y e : Int, rdV l = .tuple #[.int .u64 x, .int .i64 y, .int .i64 e] := by
  unfold rdV
  cases rd l with
  | none => exact ⟨_, _, _, rfl⟩
  | some p => exact ⟨_, _, _, rfl⟩
theorem fix4_form (l : List UInt8) : ∃ (r : Nat) (e : Int), r < 4294967296 ∧ fixV32 l = .tuple #[.int .u32 r, .int .i64 e] ∧ fixV 4 l = .tuple #[.int .u64 r, .int .i64 e] := by
  by_cases h : l.length < 4
  · exact ⟨0, 130, by omega, fixV32_lt h, fixV_lt h⟩
  · refine ⟨rfix (l.take 4), 0, ?_, fixV32_ge h, fixV_ge h⟩
    have h1 := rfix_lt (l.take 4)
    have h2 : 256 ^ (l.take 4).length ≤ 256 ^ 4 := Nat.pow_le_pow_right (by omega) (by simp; omega)
    have h3 : (256 : Nat) ^ 4 = 4294967296 := by decide
    omega
theorem fix8_form (l : List UInt8) : ∃ (r : Int) (e : Int), fixV 8 l = .tuple #[.int .u64 r, .int .i64 e] := by
  by_cases h : l.length < 8
  · exact ⟨0, 130, fixV_lt h⟩
  · exact ⟨_, 0, fixV_ge h⟩

/-- Bytes of the call's own as a string, in whatever later world. -/
theorem OwnB.toStrs {w : World} {base : Nat} {v : Value} {l : List UInt8} (h : OwnB w base v l) : ∀ W, Below w.heap.size w W → (convert 30 9 v).run Try.prog W = .ok (.string (str l)) W := by
  intro W hW
  obtain ⟨A, c, rfl, hin⟩ := h.inB
  exact (hin.below hW).string

theorem Reg.gives_num (m : Int) (w : World) : Calls Try.prog 36 #[.int .i64 m] w fun e w' => ∃ v, e = .returned v ∧ Grow w w' ∧ v = .int .i64 m :=
  (num3_gives m w).mono (by rintro e w' ⟨rfl, rfl⟩; exact ⟨_, rfl, Grow.refl _, rfl⟩)
theorem Reg.gives_works (w : World) : Calls Try.prog 27 #[] w fun e w' => ∃ v, e = .returned v ∧ Grow w w' ∧ v = .bool true :=
  (works3_gives w).mono (by rintro e w' ⟨rfl, hB⟩; exact ⟨_, rfl, hB, rfl⟩)
set_option maxRecDepth 100000 in
set_option maxHeartbeats 4000000 in
theorem lawNumbers_long (n : Nat) (w : World) (A : Option Addr) (c : Nat) (l : List UInt8) (h : InB w w.heap.size A c l) (hl : 200 < l.length) :
    Calls Try.prog 7 #[.int .u64 n, .slice A l.length c] w fun e w' => e = .returned (.bool true) ∧ Below w.heap.size w w' := by
  have hle := h.le
  have hmax := h.max
  go_enter Try.func7, Try.ntmps7
  go_wp2_with (go_at_call 27; refine (works3_gives _).mono ?_; rintro e w' ⟨rfl, hB⟩)
  go_ret
  exact ⟨rfl, hB⟩

set_option maxRecDepth 100000 in
set_option maxHeartbeats 4000000 in
theorem lawNumbers_walk (n : Nat) (hn : n < 2 ^ 64) (w : World) (A : Option Addr) (c : Nat) (l : List UInt8) (h : InB w w.heap.size A c l) (hl : l.length ≤ 200) :
    Calls Try.prog 7 #[.int .u64 n, .slice A l.length c] w fun e w' => e = .returned (.bool true) ∧ Below w.heap.size w w' := by
  have hle := h.le
  have hmax := h.max
  obtain ⟨x, y, ex, hrd⟩ := rdV_form l
  obtain ⟨r4, e4, hr4, hf32, hf4⟩ := fix4_form l
  obtain ⟨r8, e8, hf8⟩ := fix8_form l
  have hN := Lib.hid hn
  clear hn
  go_enter Try.func7, Try.ntmps7
  go_wp2_with fail
  refine (number_gives n hN.out _).mono ?_
  rintro e w1 ⟨v, rfl, hown, hB⟩
  obtain ⟨A1, c1, rfl, hin1⟩ := hown.inB
  have hst1 := hown.toStrs
  have hin0 := h.below hB
  have e0 : OwnB (w1.alloc (.cells #[] 5)) w1.heap.size (.slice (some ⟨w1.heap.size, 0, none⟩) 0 0) [] := World.ownsRow_lit w1 #[] 0 (Nat.le_refl _) (by unfold maxLen; omega) rfl
  have hnl := num_length n
  have hb1 : Below w1.heap.size w1 (w1.alloc (.cells #[] 5)) := (Below.refl _ _).alloc (Nat.le_refl _) _
  go_wp2_with (first
    | (at_builtin; refine wp_appB rfl (.tmp 30) (.tmp 31) rfl w1.heap.size _ [] rfl e0 _ A1 c1 (num n) rfl (hin1.below hb1) (by simp; omega) (by simp) ?_; intro v2 w2 hown2 hg2; have hb2 := e0.below hb1 hg2)
    | (at_builtin; refine wp_appB rfl (.tmp 32) (.tmp 33) rfl w1.heap.size _ ([] ++ num n) rfl hown2 _ A c l rfl ((hin0.more hB.size).below hb2) (by simp; omega) hb2.size ?_; intro v3 w3 hown3 hg3; have hb3 := hown2.below hb2 hg3; obtain ⟨A3, c3, rfl, hin3⟩ := hown3.inB))
  have H := readNumber_gives w3 _ A3 c3 _ hin3
  rw [List.nil_append, List.length_append, rdV_some (rd_num n hN.out l)] at H
  have hB3 : Below w.heap.size w w3 := hB.trans (hb3.mono hB.size)
  have hlv := h.below hB3
  have H2 := readNumber_gives w3 _ A c l hlv
  rw [hrd] at H2
  have H3 := refReadNumber_gives w3 _ A c l hlv
  rw [hrd] at H3
  have hst3 : ∀ W, Below w3.heap.size w3 W → (convert 30 9 (.slice A1 (num n).length c1)).run Try.prog W = .ok (.string (str (num n))) W := fun W hW => hst1 W (hb3.trans (hW.mono hb3.size))
  have hB3s := hB3.size
  clear hin0 hb1 e0 hb2 hown2 hg2 hown3 hg3 hb3 hin3 hst1 hin1 hown hB h
  refine H.mono ?_
  clear H
  rintro e w' ⟨rfl, rfl⟩
  go_wp2_with fail
  refine H2.mono ?_
  clear H2
  rintro e w' ⟨rfl, rfl⟩
  go_wp2_with fail
  refine H3.mono ?_
  clear H3
  rintro e w' ⟨rfl, rfl⟩
  go_wp2_with fail
  have H := readFour_gives w3 A c l (hlv.more hB3s)
  rw [hf32] at H
  refine H.mono ?_
  clear H hf32
  rintro e w4 ⟨rfl, hB4⟩
  go_wp2_with fail
  have H := readEight_gives w4 A c l ((hlv.more hB3s).below hB4 |>.more hB4.size)
  rw [hf8] at H
  refine H.mono ?_
  clear H
  rintro e w5 ⟨rfl, hB5⟩
  have hB35 : Below w3.heap.size w3 w5 := hB4.trans (hB5.mono hB4.size)
  clear hB4 hB5
  have hlv5 := hlv.below (hB35.mono hB3s)
  have H1 := refReadFixed_gives w5 _ A c l 4 (by omega) hlv5
  rw [hf4] at H1
  have H2 := refReadFixed_gives w5 _ A c l 8 (by omega) hlv5
  rw [hf8] at H2
  clear hf4 hf8 hlv hlv5
  go_wp2_with fail
  refine H1.mono ?_
  clear H1
  rintro e w' ⟨rfl, rfl⟩
  go_wp2_with fail
  refine H2.mono ?_
  clear H2
  rintro e w' ⟨rfl, rfl⟩
  go_wp2_with fail
  have hB5 : Below w.heap.size w w5 := hB3.trans (hB35.mono hB3s)
  open Reg in
  refine region_facts (by kernel_rfl) (by kernel_rfl) 156 rfl (by kernel_rfl)
    [(5, .val (.slice A1 (num n).length c1)), (0, .val (.int .u64 (n : Int))), (6, .val (.int .u64 (n : Int))), (7, .val (.int .i64 ((num n).length : Int))), (8, .val (.int .i64 0)), (9, .val (.int .u64 x)), (12, .val (.int .u64 x)), (10, .val (.int .i64 y)), (13, .val (.int .i64 y)), (11, .val (.int .i64 ex)), (14, .val (.int .i64 ex)), (15, .val (.int .u32 (r4 : Int))), (19, .val (.int .u64 (r4 : Int))), (16, .val (.int .i64 e4)), (20, .val (.int .i64 e4)), (17, .val (.int .u64 r8)), (21, .val (.int .u64 r8)), (18, .val (.int .i64 e8)), (22, .val (.int .i64 e8))]
    [(71, .val (.slice A1 (num n).length c1)), (72, .val (.string (str (num n)))), (73, .val (.int .u64 (n : Int))), (74, .res (num n)), (75, .val (.string (str (num n)))), (76, .val (.bool true)), (77, .val (.bool true)), (78, .val (.int .u64 (n : Int))), (79, .val (.int .u64 (n : Int))), (80, .val (.bool true)), (81, .val (.bool true)), (82, .val (.bool true)), (83, .val (.int .i64 ((num n).length : Int))), (84, .val (.slice A1 (num n).length c1)), (85, .val (.int .i64 ((num n).length : Int))), (86, .val (.bool true)), (87, .val (.bool true)), (88, .val (.bool true)), (89, .val (.int .i64 0)), (90, .val (.int .i64 0)), (91, .val (.bool true)), (92, .val (.bool true)), (93, .val (.bool true)), (94, .val (.int .u64 x)), (95, .val (.int .u64 x)), (96, .val (.bool true)), (97, .val (.bool true)), (98, .val (.bool true)), (99, .val (.int .i64 y)), (100, .val (.int .i64 y)), (101, .val (.bool true)), (102, .val (.bool true)), (103, .val (.bool true)), (104, .val (.int .i64 ex)), (105, .val (.int .i64 ex)), (106, .val (.int .i64 ex)), (107, .val (.bool true)), (108, .val (.bool true)), (109, .val (.bool true)), (110, .val (.int .u32 (r4 : Int))), (111, .val (.int .u64 (r4 : Int))), (112, .val (.int .u64 (r4 : Int))), (113, .val (.bool true)), (114, .val (.bool true)), (115, .val (.bool true)), (116, .val (.int .i64 e4)), (117, .val (.int .i64 e4)), (118, .val (.int .i64 e4)), (119, .val (.bool true)), (120, .val (.bool true)), (121, .val (.bool true)), (122, .val (.int .u64 r8)), (123, .val (.int .u64 r8)), (124, .val (.bool true)), (125, .val (.bool true)), (126, .val (.bool true)), (127, .val (.int .i64 e8)), (128, .val (.int .i64 e8)), (129, .val (.int .i64 e8)), (130, .val (.bool true)), (131, .val (.bool true)), (132, .val (.bool true)), (133, .val (.int .u64 (n : Int))), (134, .val (.int .u32 ((n % 4294967296 : Nat) : Int))), (135, .res (fixL 4 (n % 4294967296))), (136, .val (.string (str (fixL 4 (n % 4294967296))))), (137, .val (.int .u64 (n : Int))), (138, .val (.int .u32 ((n % 4294967296 : Nat) : Int))), (139, .val (.int .u64 ((n % 4294967296 : Nat) : Int))), (140, .res (fixL 4 (n % 4294967296))), (141, .val (.string (str (fixL 4 (n % 4294967296))))), (142, .val (.bool true)), (143, .val (.bool true)), (144, .val (.bool true)), (145, .val (.int .u64 (n : Int))), (146, .res (fixL 8 n)), (147, .val (.string (str (fixL 8 n)))), (148, .val (.int .u64 (n : Int))), (149, .res (fixL 8 n)), (150, .val (.string (str (fixL 8 n)))), (151, .val (.bool true)), (152, .val (.bool true)), (153, .val (.bool true)), (154, .val (.bool true)), (155, .val (.bool true)), (4, .val (.bool true))]
    ⟨rfl, rfl, rfl, rfl, rfl, rfl, rfl, rfl, rfl, rfl, rfl, rfl, rfl, rfl, rfl, rfl, rfl, rfl, rfl, trivial⟩ (by kernel_rfl)
    (allOk_cons (ok_none rfl (l_mvF 5 (.val (.slice A1 (num n).length c1)) (.inl rfl) (by kernel_rfl) (by kernel_rfl) (by kernel_rfl)))
    <| allOk_cons (ok_none rfl (l_convS (.tmp 71) _ _ (.slice A1 (num n).length c1) (.string (str (num n))) rfl (hs 71 (.slice A1 (num n).length c1) (by kernel_rfl) (by kernel_rfl)) (fun w hg => hst3 w (hB35.trans (hg.mono hB35.size))) (by kernel_rfl)))
    <| allOk_cons (ok_none rfl (l_mvF 0 (.val (.int .u64 (n : Int))) (.inl rfl) (by kernel_rfl) (by kernel_rfl) (by kernel_rfl)))
    <| allOk_cons (ok_none rfl (l_call 42 _ _ rfl (enters_of Try.func42 (by kernel_rfl) rfl) #[.int .u64 (n : Int)] (.res (num n)) (args1 (hs 73 (.int .u64 (n : Int)) (by kernel_rfl) (by kernel_rfl))) (fun w hg => Reg.gives_res (refNumber_gives n hN.out w)) (by kernel_rfl)))
    <| allOk_cons (ok_none rfl (l_conv 74 (num n) rfl (by kernel_rfl) (by kernel_rfl) (by kernel_rfl)))
    <| allOk_cons (ok_none rfl (l_eqs (.tmp 72) (.tmp 75) _ _ ((str (num n))) rfl Try.underlying9 (hs 72 (.string (str (num n))) (by kernel_rfl) (by kernel_rfl)) (hs 75 (.string (str (num n))) (by kernel_rfl) (by kernel_rfl)) (by kernel_rfl)))
    <| allOk_cons (ok_none rfl (l_mvF 76 (.val (.bool true)) (.inl rfl) (by kernel_rfl) (by kernel_rfl) (by kernel_rfl)))
    <| allOk_cons (okg 6 true 77 rfl (by kernel_rfl) (by kernel_rfl) (by kernel_rfl) (l_mvF 6 (.val (.int .u64 (n : Int))) (.inl rfl) (by kernel_rfl) (by kernel_rfl) (by kernel_rfl)))
    <| allOk_cons (okg 6 true 77 rfl (by kernel_rfl) (by kernel_rfl) (by kernel_rfl) (l_mvF 0 (.val (.int .u64 (n : Int))) (.inl rfl) (by kernel_rfl) (by kernel_rfl) (by kernel_rfl)))
    <| allOk_cons (okg 6 true 77 rfl (by kernel_rfl) (by kernel_rfl) (by kernel_rfl) (l_eqi (.tmp 78) (.tmp 79) _ _ .u64 ((n : Int)) rfl Try.underlying41 (hs 78 (.int .u64 (n : Int)) (by kernel_rfl) (by kernel_rfl)) (hs 79 (.int .u64 (n : Int)) (by kernel_rfl) (by kernel_rfl)) (by kernel_rfl)))
    <| allOk_cons (ok_none rfl (l_pick (.tmp 77) (.tmp 80) (.bool true) rfl (hs 77 (.bool true) (by kernel_rfl) (by kernel_rfl)) (hs 80 (.bool true) (by kernel_rfl) (by kernel_rfl)) (by kernel_rfl)))
    <| allOk_cons (ok_none rfl (l_mvF 81 (.val (.bool true)) (.inl rfl) (by kernel_rfl) (by kernel_rfl) (by kernel_rfl)))
    <| allOk_cons (okg 11 true 82 rfl (by kernel_rfl) (by kernel_rfl) (by kernel_rfl) (l_mvF 7 (.val (.int .i64 ((num n).length : Int))) (.inl rfl) (by kernel_rfl) (by kernel_rfl) (by kernel_rfl)))
    <| allOk_cons (okg 11 true 82 rfl (by kernel_rfl) (by kernel_rfl) (by kernel_rfl) (l_mvF 5 (.val (.slice A1 (num n).length c1)) (.inl rfl) (by kernel_rfl) (by kernel_rfl) (by kernel_rfl)))
    <| allOk_cons (okg 11 true 82 rfl (by kernel_rfl) (by kernel_rfl) (by kernel_rfl) (l_len 84 _ _ _ _ (by kernel_rfl) rfl ((hs 84 (.slice A1 (num n).length c1) (by kernel_rfl) (by kernel_rfl))) (by kernel_rfl)))
    <| allOk_cons (okg 11 true 82 rfl (by kernel_rfl) (by kernel_rfl) (by kernel_rfl) (l_eqi (.tmp 83) (.tmp 85) _ _ .i64 (((num n).length : Int)) rfl Try.underlying3 (hs 83 (.int .i64 ((num n).length : Int)) (by kernel_rfl) (by kernel_rfl)) (hs 85 (.int .i64 ((num n).length : Int)) (by kernel_rfl) (by kernel_rfl)) (by kernel_rfl)))
    <| allOk_cons (ok_none rfl (l_pick (.tmp 82) (.tmp 86) (.bool true) rfl (hs 82 (.bool true) (by kernel_rfl) (by kernel_rfl)) (hs 86 (.bool true) (by kernel_rfl) (by kernel_rfl)) (by kernel_rfl)))
    <| allOk_cons (ok_none rfl (l_mvF 87 (.val (.bool true)) (.inl rfl) (by kernel_rfl) (by kernel_rfl) (by kernel_rfl)))
    <| allOk_cons (okg 17 true 88 rfl (by kernel_rfl) (by kernel_rfl) (by kernel_rfl) (l_mvF 8 (.val (.int .i64 0)) (.inl rfl) (by kernel_rfl) (by kernel_rfl) (by kernel_rfl)))
    <| allOk_cons (okg 17 true 88 rfl (by kernel_rfl) (by kernel_rfl) (by kernel_rfl) (l_call 36 _ _ rfl (enters_of Try.func36 (by kernel_rfl) rfl) #[.int .i64 0] (.val (.int .i64 0)) (args1 (hs 89 (.int .i64 0) (by kernel_rfl) (by kernel_rfl))) (fun w hg => Reg.gives_num _ w) (by kernel_rfl)))
    <| allOk_cons (okg 17 true 88 rfl (by kernel_rfl) (by kernel_rfl) (by kernel_rfl) (l_eqi (.tmp 90) (.const (Go.Value.int Go.IntKind.i64 0)) _ _ .i64 (0) rfl Try.underlying3 (hs 90 (.int .i64 0) (by kernel_rfl) (by kernel_rfl)) (hc _) (by kernel_rfl)))
    <| allOk_cons (ok_none rfl (l_pick (.tmp 88) (.tmp 91) (.bool true) rfl (hs 88 (.bool true) (by kernel_rfl) (by kernel_rfl)) (hs 91 (.bool true) (by kernel_rfl) (by kernel_rfl)) (by kernel_rfl)))
    <| allOk_cons (ok_none rfl (l_mvF 92 (.val (.bool true)) (.inl rfl) (by kernel_rfl) (by kernel_rfl) (by kernel_rfl)))
    <| allOk_cons (okg 22 true 93 rfl (by kernel_rfl) (by kernel_rfl) (by kernel_rfl) (l_mvF 9 (.val (.int .u64 x)) (.inl rfl) (by kernel_rfl) (by kernel_rfl) (by kernel_rfl)))
    <| allOk_cons (okg 22 true 93 rfl (by kernel_rfl) (by kernel_rfl) (by kernel_rfl) (l_mvF 12 (.val (.int .u64 x)) (.inl rfl) (by kernel_rfl) (by kernel_rfl) (by kernel_rfl)))
    <| allOk_cons (okg 22 true 93 rfl (by kernel_rfl) (by kernel_rfl) (by kernel_rfl) (l_eqi (.tmp 94) (.tmp 95) _ _ .u64 (x) rfl Try.underlying41 (hs 94 (.int .u64 x) (by kernel_rfl) (by kernel_rfl)) (hs 95 (.int .u64 x) (by kernel_rfl) (by kernel_rfl)) (by kernel_rfl)))
    <| allOk_cons (ok_none rfl (l_pick (.tmp 93) (.tmp 96) (.bool true) rfl (hs 93 (.bool true) (by kernel_rfl) (by kernel_rfl)) (hs 96 (.bool true) (by kernel_rfl) (by kernel_rfl)) (by kernel_rfl)))
    <| allOk_cons (ok_none rfl (l_mvF 97 (.val (.bool true)) (.inl rfl) (by kernel_rfl) (by kernel_rfl) (by kernel_rfl)))
    <| allOk_cons (okg 27 true 98 rfl (by kernel_rfl) (by kernel_rfl) (by kernel_rfl) (l_mvF 10 (.val (.int .i64 y)) (.inl rfl) (by kernel_rfl) (by kernel_rfl) (by kernel_rfl)))
    <| allOk_cons (okg 27 true 98 rfl (by kernel_rfl) (by kernel_rfl) (by kernel_rfl) (l_mvF 13 (.val (.int .i64 y)) (.inl rfl) (by kernel_rfl) (by kernel_rfl) (by kernel_rfl)))
    <| allOk_cons (okg 27 true 98 rfl (by kernel_rfl) (by kernel_rfl) (by kernel_rfl) (l_eqi (.tmp 99) (.tmp 100) _ _ .i64 (y) rfl Try.underlying3 (hs 99 (.int .i64 y) (by kernel_rfl) (by kernel_rfl)) (hs 100 (.int .i64 y) (by kernel_rfl) (by kernel_rfl)) (by kernel_rfl)))
    <| allOk_cons (ok_none rfl (l_pick (.tmp 98) (.tmp 101) (.bool true) rfl (hs 98 (.bool true) (by kernel_rfl) (by kernel_rfl)) (hs 101 (.bool true) (by kernel_rfl) (by kernel_rfl)) (by kernel_rfl)))
    <| allOk_cons (ok_none rfl (l_mvF 102 (.val (.bool true)) (.inl rfl) (by kernel_rfl) (by kernel_rfl) (by kernel_rfl)))
    <| allOk_cons (okg 32 true 103 rfl (by kernel_rfl) (by kernel_rfl) (by kernel_rfl) (l_mvF 11 (.val (.int .i64 ex)) (.inl rfl) (by kernel_rfl) (by kernel_rfl) (by kernel_rfl)))
    <| allOk_cons (okg 32 true 103 rfl (by kernel_rfl) (by kernel_rfl) (by kernel_rfl) (l_call 36 _ _ rfl (enters_of Try.func36 (by kernel_rfl) rfl) #[.int .i64 ex] (.val (.int .i64 ex)) (args1 (hs 104 (.int .i64 ex) (by kernel_rfl) (by kernel_rfl))) (fun w hg => Reg.gives_num _ w) (by kernel_rfl)))
    <| allOk_cons (okg 32 true 103 rfl (by kernel_rfl) (by kernel_rfl) (by kernel_rfl) (l_mvF 14 (.val (.int .i64 ex)) (.inl rfl) (by kernel_rfl) (by kernel_rfl) (by kernel_rfl)))
    <| allOk_cons (okg 32 true 103 rfl (by kernel_rfl) (by kernel_rfl) (by kernel_rfl) (l_eqi (.tmp 105) (.tmp 106) _ _ .i64 (ex) rfl Try.underlying3 (hs 105 (.int .i64 ex) (by kernel_rfl) (by kernel_rfl)) (hs 106 (.int .i64 ex) (by kernel_rfl) (by kernel_rfl)) (by kernel_rfl)))
    <| allOk_cons (ok_none rfl (l_pick (.tmp 103) (.tmp 107) (.bool true) rfl (hs 103 (.bool true) (by kernel_rfl) (by kernel_rfl)) (hs 107 (.bool true) (by kernel_rfl) (by kernel_rfl)) (by kernel_rfl)))
    <| allOk_cons (ok_none rfl (l_mvF 108 (.val (.bool true)) (.inl rfl) (by kernel_rfl) (by kernel_rfl) (by kernel_rfl)))
    <| allOk_cons (okg 38 true 109 rfl (by kernel_rfl) (by kernel_rfl) (by kernel_rfl) (l_mvF 15 (.val (.int .u32 (r4 : Int))) (.inl rfl) (by kernel_rfl) (by kernel_rfl) (by kernel_rfl)))
    <| allOk_cons (okg 38 true 109 rfl (by kernel_rfl) (by kernel_rfl) (by kernel_rfl) (l_convS (.tmp 110) _ _ (.int .u32 (r4 : Int)) (.int .u64 (r4 : Int)) rfl (hs 110 (.int .u32 (r4 : Int)) (by kernel_rfl) (by kernel_rfl)) (fun w hg => Reg.conv_45_41 r4 hr4 w) (by kernel_rfl)))
    <| allOk_cons (okg 38 true 109 rfl (by kernel_rfl) (by kernel_rfl) (by kernel_rfl) (l_mvF 19 (.val (.int .u64 (r4 : Int))) (.inl rfl) (by kernel_rfl) (by kernel_rfl) (by kernel_rfl)))
    <| allOk_cons (okg 38 true 109 rfl (by kernel_rfl) (by kernel_rfl) (by kernel_rfl) (l_eqi (.tmp 111) (.tmp 112) _ _ .u64 ((r4 : Int)) rfl Try.underlying41 (hs 111 (.int .u64 (r4 : Int)) (by kernel_rfl) (by kernel_rfl)) (hs 112 (.int .u64 (r4 : Int)) (by kernel_rfl) (by kernel_rfl)) (by kernel_rfl)))
    <| allOk_cons (ok_none rfl (l_pick (.tmp 109) (.tmp 113) (.bool true) rfl (hs 109 (.bool true) (by kernel_rfl) (by kernel_rfl)) (hs 113 (.bool true) (by kernel_rfl) (by kernel_rfl)) (by kernel_rfl)))
    <| allOk_cons (ok_none rfl (l_mvF 114 (.val (.bool true)) (.inl rfl) (by kernel_rfl) (by kernel_rfl) (by kernel_rfl)))
    <| allOk_cons (okg 44 true 115 rfl (by kernel_rfl) (by kernel_rfl) (by kernel_rfl) (l_mvF 16 (.val (.int .i64 e4)) (.inl rfl) (by kernel_rfl) (by kernel_rfl) (by kernel_rfl)))
    <| allOk_cons (okg 44 true 115 rfl (by kernel_rfl) (by kernel_rfl) (by kernel_rfl) (l_call 36 _ _ rfl (enters_of Try.func36 (by kernel_rfl) rfl) #[.int .i64 e4] (.val (.int .i64 e4)) (args1 (hs 116 (.int .i64 e4) (by kernel_rfl) (by kernel_rfl))) (fun w hg => Reg.gives_num _ w) (by kernel_rfl)))
    <| allOk_cons (okg 44 true 115 rfl (by kernel_rfl) (by kernel_rfl) (by kernel_rfl) (l_mvF 20 (.val (.int .i64 e4)) (.inl rfl) (by kernel_rfl) (by kernel_rfl) (by kernel_rfl)))
    <| allOk_cons (okg 44 true 115 rfl (by kernel_rfl) (by kernel_rfl) (by kernel_rfl) (l_eqi (.tmp 117) (.tmp 118) _ _ .i64 (e4) rfl Try.underlying3 (hs 117 (.int .i64 e4) (by kernel_rfl) (by kernel_rfl)) (hs 118 (.int .i64 e4) (by kernel_rfl) (by kernel_rfl)) (by kernel_rfl)))
    <| allOk_cons (ok_none rfl (l_pick (.tmp 115) (.tmp 119) (.bool true) rfl (hs 115 (.bool true) (by kernel_rfl) (by kernel_rfl)) (hs 119 (.bool true) (by kernel_rfl) (by kernel_rfl)) (by kernel_rfl)))
    <| allOk_cons (ok_none rfl (l_mvF 120 (.val (.bool true)) (.inl rfl) (by kernel_rfl) (by kernel_rfl) (by kernel_rfl)))
    <| allOk_cons (okg 50 true 121 rfl (by kernel_rfl) (by kernel_rfl) (by kernel_rfl) (l_mvF 17 (.val (.int .u64 r8)) (.inl rfl) (by kernel_rfl) (by kernel_rfl) (by kernel_rfl)))
    <| allOk_cons (okg 50 true 121 rfl (by kernel_rfl) (by kernel_rfl) (by kernel_rfl) (l_mvF 21 (.val (.int .u64 r8)) (.inl rfl) (by kernel_rfl) (by kernel_rfl) (by kernel_rfl)))
    <| allOk_cons (okg 50 true 121 rfl (by kernel_rfl) (by kernel_rfl) (by kernel_rfl) (l_eqi (.tmp 122) (.tmp 123) _ _ .u64 (r8) rfl Try.underlying41 (hs 122 (.int .u64 r8) (by kernel_rfl) (by kernel_rfl)) (hs 123 (.int .u64 r8) (by kernel_rfl) (by kernel_rfl)) (by kernel_rfl)))
    <| allOk_cons (ok_none rfl (l_pick (.tmp 121) (.tmp 124) (.bool true) rfl (hs 121 (.bool true) (by kernel_rfl) (by kernel_rfl)) (hs 124 (.bool true) (by kernel_rfl) (by kernel_rfl)) (by kernel_rfl)))
    <| allOk_cons (ok_none rfl (l_mvF 125 (.val (.bool true)) (.inl rfl) (by kernel_rfl) (by kernel_rfl) (by kernel_rfl)))
    <| allOk_cons (okg 55 true 126 rfl (by kernel_rfl) (by kernel_rfl) (by kernel_rfl) (l_mvF 18 (.val (.int .i64 e8)) (.inl rfl) (by kernel_rfl) (by kernel_rfl) (by kernel_rfl)))
    <| allOk_cons (okg 55 true 126 rfl (by kernel_rfl) (by kernel_rfl) (by kernel_rfl) (l_call 36 _ _ rfl (enters_of Try.func36 (by kernel_rfl) rfl) #[.int .i64 e8] (.val (.int .i64 e8)) (args1 (hs 127 (.int .i64 e8) (by kernel_rfl) (by kernel_rfl))) (fun w hg => Reg.gives_num _ w) (by kernel_rfl)))
    <| allOk_cons (okg 55 true 126 rfl (by kernel_rfl) (by kernel_rfl) (by kernel_rfl) (l_mvF 22 (.val (.int .i64 e8)) (.inl rfl) (by kernel_rfl) (by kernel_rfl) (by kernel_rfl)))
    <| allOk_cons (okg 55 true 126 rfl (by kernel_rfl) (by kernel_rfl) (by kernel_rfl) (l_eqi (.tmp 128) (.tmp 129) _ _ .i64 (e8) rfl Try.underlying3 (hs 128 (.int .i64 e8) (by kernel_rfl) (by kernel_rfl)) (hs 129 (.int .i64 e8) (by kernel_rfl) (by kernel_rfl)) (by kernel_rfl)))
    <| allOk_cons (ok_none rfl (l_pick (.tmp 126) (.tmp 130) (.bool true) rfl (hs 126 (.bool true) (by kernel_rfl) (by kernel_rfl)) (hs 130 (.bool true) (by kernel_rfl) (by kernel_rfl)) (by kernel_rfl)))
    <| allOk_cons (ok_none rfl (l_mvF 131 (.val (.bool true)) (.inl rfl) (by kernel_rfl) (by kernel_rfl) (by kernel_rfl)))
    <| allOk_cons (okg 61 true 132 rfl (by kernel_rfl) (by kernel_rfl) (by kernel_rfl) (l_mvF 0 (.val (.int .u64 (n : Int))) (.inl rfl) (by kernel_rfl) (by kernel_rfl) (by kernel_rfl)))
    <| allOk_cons (okg 61 true 132 rfl (by kernel_rfl) (by kernel_rfl) (by kernel_rfl) (l_convS (.tmp 133) _ _ (.int .u64 (n : Int)) (.int .u32 ((n % 4294967296 : Nat) : Int)) rfl (hs 133 (.int .u64 (n : Int)) (by kernel_rfl) (by kernel_rfl)) (fun w hg => Reg.conv_41_45 n w) (by kernel_rfl)))
    <| allOk_cons (okg 61 true 132 rfl (by kernel_rfl) (by kernel_rfl) (by kernel_rfl) (l_call 43 _ _ rfl (enters_of Try.func43 (by kernel_rfl) rfl) #[.int .u32 ((n % 4294967296 : Nat) : Int)] (.res (fixL 4 (n % 4294967296))) (args1 (hs 134 (.int .u32 ((n % 4294967296 : Nat) : Int)) (by kernel_rfl) (by kernel_rfl))) (fun w hg => Reg.gives_res (four_gives (n % 4294967296) w)) (by kernel_rfl)))
    <| allOk_cons (okg 61 true 132 rfl (by kernel_rfl) (by kernel_rfl) (by kernel_rfl) (l_conv 135 (fixL 4 (n % 4294967296)) rfl (by kernel_rfl) (by kernel_rfl) (by kernel_rfl)))
    <| allOk_cons (okg 61 true 132 rfl (by kernel_rfl) (by kernel_rfl) (by kernel_rfl) (l_mvF 0 (.val (.int .u64 (n : Int))) (.inl rfl) (by kernel_rfl) (by kernel_rfl) (by kernel_rfl)))
    <| allOk_cons (okg 61 true 132 rfl (by kernel_rfl) (by kernel_rfl) (by kernel_rfl) (l_convS (.tmp 137) _ _ (.int .u64 (n : Int)) (.int .u32 ((n % 4294967296 : Nat) : Int)) rfl (hs 137 (.int .u64 (n : Int)) (by kernel_rfl) (by kernel_rfl)) (fun w hg => Reg.conv_41_45 n w) (by kernel_rfl)))
    <| allOk_cons (okg 61 true 132 rfl (by kernel_rfl) (by kernel_rfl) (by kernel_rfl) (l_convS (.tmp 138) _ _ (.int .u32 ((n % 4294967296 : Nat) : Int)) (.int .u64 ((n % 4294967296 : Nat) : Int)) rfl (hs 138 (.int .u32 ((n % 4294967296 : Nat) : Int)) (by kernel_rfl) (by kernel_rfl)) (fun w hg => Reg.conv_45_41 _ (Nat.mod_lt _ (by decide)) w) (by kernel_rfl)))
    <| allOk_cons (okg 61 true 132 rfl (by kernel_rfl) (by kernel_rfl) (by kernel_rfl) (l_call 44 _ _ rfl (enters_of Try.func44 (by kernel_rfl) rfl) #[.int .u64 ((n % 4294967296 : Nat) : Int), (Go.Value.int Go.IntKind.i64 4)] (.res (fixL 4 (n % 4294967296))) (args2 (hs 139 (.int .u64 ((n % 4294967296 : Nat) : Int)) (by kernel_rfl) (by kernel_rfl)) (hc _)) (fun w hg => Reg.gives_res (refFixed_gives 4 (n % 4294967296) (by omega) (Nat.lt_of_le_of_lt (Nat.mod_le _ _) hN.out) w)) (by kernel_rfl)))
    <| allOk_cons (okg 61 true 132 rfl (by kernel_rfl) (by kernel_rfl) (by kernel_rfl) (l_conv 140 (fixL 4 (n % 4294967296)) rfl (by kernel_rfl) (by kernel_rfl) (by kernel_rfl)))
    <| allOk_cons (okg 61 true 132 rfl (by kernel_rfl) (by kernel_rfl) (by kernel_rfl) (l_eqs (.tmp 136) (.tmp 141) _ _ ((str (fixL 4 (n % 4294967296)))) rfl Try.underlying9 (hs 136 (.string (str (fixL 4 (n % 4294967296)))) (by kernel_rfl) (by kernel_rfl)) (hs 141 (.string (str (fixL 4 (n % 4294967296)))) (by kernel_rfl) (by kernel_rfl)) (by kernel_rfl)))
    <| allOk_cons (ok_none rfl (l_pick (.tmp 132) (.tmp 142) (.bool true) rfl (hs 132 (.bool true) (by kernel_rfl) (by kernel_rfl)) (hs 142 (.bool true) (by kernel_rfl) (by kernel_rfl)) (by kernel_rfl)))
    <| allOk_cons (ok_none rfl (l_mvF 143 (.val (.bool true)) (.inl rfl) (by kernel_rfl) (by kernel_rfl) (by kernel_rfl)))
    <| allOk_cons (okg 73 true 144 rfl (by kernel_rfl) (by kernel_rfl) (by kernel_rfl) (l_mvF 0 (.val (.int .u64 (n : Int))) (.inl rfl) (by kernel_rfl) (by kernel_rfl) (by kernel_rfl)))
    <| allOk_cons (okg 73 true 144 rfl (by kernel_rfl) (by kernel_rfl) (by kernel_rfl) (l_call 45 _ _ rfl (enters_of Try.func45 (by kernel_rfl) rfl) #[.int .u64 (n : Int)] (.res (fixL 8 n)) (args1 (hs 145 (.int .u64 (n : Int)) (by kernel_rfl) (by kernel_rfl))) (fun w hg => Reg.gives_res (eight_gives n w)) (by kernel_rfl)))
    <| allOk_cons (okg 73 true 144 rfl (by kernel_rfl) (by kernel_rfl) (by kernel_rfl) (l_conv 146 (fixL 8 n) rfl (by kernel_rfl) (by kernel_rfl) (by kernel_rfl)))
    <| allOk_cons (okg 73 true 144 rfl (by kernel_rfl) (by kernel_rfl) (by kernel_rfl) (l_mvF 0 (.val (.int .u64 (n : Int))) (.inl rfl) (by kernel_rfl) (by kernel_rfl) (by kernel_rfl)))
    <| allOk_cons (okg 73 true 144 rfl (by kernel_rfl) (by kernel_rfl) (by kernel_rfl) (l_call 44 _ _ rfl (enters_of Try.func44 (by kernel_rfl) rfl) #[.int .u64 (n : Int), (Go.Value.int Go.IntKind.i64 8)] (.res (fixL 8 n)) (args2 (hs 148 (.int .u64 (n : Int)) (by kernel_rfl) (by kernel_rfl)) (hc _)) (fun w hg => Reg.gives_res (refFixed_gives 8 n (by omega) hN.out w)) (by kernel_rfl)))
    <| allOk_cons (okg 73 true 144 rfl (by kernel_rfl) (by kernel_rfl) (by kernel_rfl) (l_conv 149 (fixL 8 n) rfl (by kernel_rfl) (by kernel_rfl) (by kernel_rfl)))
    <| allOk_cons (okg 73 true 144 rfl (by kernel_rfl) (by kernel_rfl) (by kernel_rfl) (l_eqs (.tmp 147) (.tmp 150) _ _ ((str (fixL 8 n))) rfl Try.underlying9 (hs 147 (.string (str (fixL 8 n))) (by kernel_rfl) (by kernel_rfl)) (hs 150 (.string (str (fixL 8 n))) (by kernel_rfl) (by kernel_rfl)) (by kernel_rfl)))
    <| allOk_cons (ok_none rfl (l_pick (.tmp 144) (.tmp 151) (.bool true) rfl (hs 144 (.bool true) (by kernel_rfl) (by kernel_rfl)) (hs 151 (.bool true) (by kernel_rfl) (by kernel_rfl)) (by kernel_rfl)))
    <| allOk_cons (ok_none rfl (l_mvF 152 (.val (.bool true)) (.inl rfl) (by kernel_rfl) (by kernel_rfl) (by kernel_rfl)))
    <| allOk_cons (okg 82 true 153 rfl (by kernel_rfl) (by kernel_rfl) (by kernel_rfl) (l_call 27 _ _ rfl (enters_of Try.func27 (by kernel_rfl) rfl) #[] (.val (.bool true)) (fun _ _ _ => by simp) (fun w hg => Reg.gives_works w) (by kernel_rfl)))
    <| allOk_cons (ok_none rfl (l_pick (.tmp 153) (.tmp 154) (.bool true) rfl (hs 153 (.bool true) (by kernel_rfl) (by kernel_rfl)) (hs 154 (.bool true) (by kernel_rfl) (by kernel_rfl)) (by kernel_rfl)))
    <| allOk_cons (ok_none rfl (l_mvF 155 (.val (.bool true)) (.inr rfl) (by kernel_rfl) (by kernel_rfl) (by kernel_rfl)))
    <| allOk_nil) ?_
  intro a w6 _ hdef hG hF
  have hr : a.eval (.tmp 4) = .bool true := hF 4
  have hB6 : Below w.heap.size w w6 := hB5.trans (hG.mono hB5.size)
  clear hF
  simp only [Exit.then]
  refine ‹∀ (a : Act) (w : World), Code.wp Try.prog Code.ret _ a w → _› a w6 ?_
  refine Reg.ends1 4 (.bool true) rfl hr hdef ?_
  exact ⟨rfl, hB6⟩
end Go.Proofs.Ytlelckdcmlpmdaa
