/- Texts that the proof of DiskHolds leans on, part 6. -/
import Derived.Stop.BytesEq
import Derived.Test.YtlelckdcmlpmdaaDiskHoldsB5
/- Regions that draw their order and change what the call itself owns (rows that grow, variables that are laid and stored): each such thing is a chain of stages; facts on slots tell nothing of its block. -/
namespace Go.Proofs.Ytlelckdcmlpmdaa
open Go Go.RowKit Lou
namespace Reg
variable {P : Program} {ops : Array Oper}

/-- Where a stage's value lies: in a slot; or it is known. -/
inductive Src where
  | slot (t : Tmp)
  | given (v : Value)
def Src.get (a : Act) : Src → Value
  | .slot t => a.eval (.tmp t)
  | .given v => v
structure Stage where
  /-- the operation that leads to it (none: it stands from the beginning) -/
  i : Option Nat
  s : Src
  p : Value → World → Prop
  b : Value → Option Nat
  st : ∀ v w w', p v w → (∀ k, b v = some k → w'.heap[k]? = w.heap[k]?) → p v w'
  lt : ∀ v w k, p v w → b v = some k → k < w.heap.size
def Stage.done (listed : Array Bool) (x : Stage) : Bool := match x.i with | none => true | some i => listed.getD i false
def current (listed : Array Bool) : List Stage → Option Stage
  | [] => none
  | x :: r => if x.done listed then some x else current listed r
abbrev Ghost := Nat → Option Nat
def upd (g : Ghost) (k : Nat) (b : Option Nat) : Ghost := fun j => if j = k then b else g j
def Lt (g : Ghost) (w : World) : Prop := ∀ k b, g k = some b → b < w.heap.size
def StageAt (g : Option Nat) (a : Act) (w : World) : Option Stage → Prop
  | none => g = none
  | some x => x.p (x.s.get a) w ∧ g = x.b (x.s.get a)
structure WC (B : Nat) (w00 : World) (cs : List (List Stage)) (g : Ghost) (listed : Array Bool) (a : Act) (w : World) : Prop where
  below : Below B w00 w
  base : B ≤ w.heap.size
  at_ : ∀ k c, cs[k]? = some c → StageAt (g k) a w (current listed c)
  out : ∀ k, cs[k]? = none → g k = none
  apart : ∀ j k b, j ≠ k → g j = some b → g k ≠ some b
  ge : ∀ k b, g k = some b → B ≤ b
theorem WC.lt {B : Nat} {w00 : World} {cs : List (List Stage)} {g : Ghost} {listed : Array Bool} {a : Act} {w : World} (h : WC B w00 cs g listed a w) : Lt g w := by
  intro k b hb
  cases hc : cs[k]? with
  | none => rw [h.out k hc] at hb; cases hb
  | some c =>
    have := h.at_ k c hc
    cases hx : current listed c with
    | none => rw [hx] at this; rw [show g k = none from this] at hb; cases hb
    | some x =>
      rw [hx] at this
      obtain ⟨h1, h2⟩ := this
      rw [h2] at hb
      exact x.lt _ _ _ h1 hb

def edge (ops : Array Oper) (i j : Nat) : Bool := match ops[i]? with | some o => o.after.toList.any fun e => Region.binds .any e && e.on == j | none => false
/-- Each stage's operation waits for the one ahead of it. -/
def chained (ops : Array Oper) : List Stage → Bool
  | [] => true
  | x :: r => (match r with | [] => true | y :: _ => match x.i, y.i with | some i, some j => edge ops i j | some _, none => true | none, _ => false) && chained ops r
def idx (cs : List (List Stage)) : List Nat := cs.flatten.filterMap (·.i)
/-- A slot that a stage names is written by its own operation, or by one that it waits for. -/
def slotsOk (ops : Array Oper) (cs : List (List Stage)) : Bool :=
  ops.toList.zipIdx.all fun (o, j) => cs.flatten.all fun y => match y.s with
    | .given _ => true
    | .slot t => o.dst != some t || (match y.i with | none => false | some i => i == j || edge ops i j)
def chainsOk (ops : Array Oper) (cs : List (List Stage)) : Bool := cs.all (chained ops) && slotsOk ops cs

abbrev Closed (ops : Array Oper) (listed : Array Bool) : Prop := ∀ (j : Nat) (p : Oper), ops[j]? = some p → listed.getD j true = true → ∀ e ∈ p.after.toList, Region.binds .any e = true → listed.getD e.on false = true
theorem getD_tf {listed : Array Bool} {j : Nat} (h : listed.getD j false = true) : listed.getD j true = true := by
  by_cases hj : j < listed.size
  · simpa [Array.getD, hj] using h
  · simp [Array.getD, hj] at h
theorem edge_closed {listed : Array Bool} (hcl : Closed ops listed) {i j : Nat} (he : edge ops i j = true) (hi : listed.getD i false = true) : listed.getD j false = true := by
  unfold edge at he
  cases ho : ops[i]? with
  | none => rw [ho] at he; cases he
  | some o =>
    rw [ho] at he
    simp only [List.any_eq_true, Bool.and_eq_true, beq_iff_eq] at he
    obtain ⟨e, hm, hb, rfl⟩ := he
    exact hcl i o ho (getD_tf hi) e hm hb
/-- What is behind a stage that is not yet there is not there. -/
theorem chain_none {listed : Array Bool} (hcl : Closed ops listed) : ∀ (later : List Stage) (x : Stage) (pre : List Stage), chained ops (later ++ x :: pre) = true → x.done listed = false → ∀ y ∈ later, y.done listed = false
  | [], _, _, _, _, y, hy => by cases hy
  | z :: r, x, pre, hch, hx, y, hy => by
    have hch' : chained ops (r ++ x :: pre) = true := by
      simp only [List.cons_append, chained, Bool.and_eq_true] at hch
      exact hch.2
    have ih := chain_none hcl r x pre hch' hx
    rcases List.mem_cons.1 hy with rfl | hy
    · obtain ⟨n, q, hn⟩ : ∃ n q, r ++ x :: pre = n :: q := by
        cases r with
        | nil => exact ⟨x, pre, rfl⟩
        | cons n q => exact ⟨n, q ++ x :: pre, rfl⟩
      have hnd : n.done listed = false := by
        cases r with
        | nil =>
          injection hn with h1 _
          rw [← h1]
          exact hx
        | cons m q' =>
          injection hn with h1 _
          rw [← h1]
          exact ih m (List.mem_cons_self ..)
      simp only [List.cons_append, hn, chained, Bool.and_eq_true] at hch
      have he := hch.1
      cases hyi : y.i with
      | none => rw [hyi] at he; cases he
      | some i =>
        rw [hyi] at he
        cases hni : n.i with
        | none => simp [Stage.done, hni] at hnd
        | some j =>
          rw [hni] at he
          cases hq : y.done listed with
          | false => rfl
          | true =>
            simp only [Stage.done, hyi] at hq
            have := edge_closed hcl he hq
            simp only [Stage.done, hni] at hnd
            rw [this] at hnd
            cases hnd
    · exact ih y hy
theorem current_skip {listed : Array Bool} : ∀ (later r : List Stage), (∀ y ∈ later, y.done listed = false) → current listed (later ++ r) = current listed r
  | [], r, _ => rfl
  | y :: l, r, h => by
    simp only [List.cons_append, current, h y (List.mem_cons_self ..)]
    exact current_skip l r fun z hz => h z (List.mem_cons_of_mem _ hz)
theorem current_mem {listed : Array Bool} : ∀ {c : List Stage} {x : Stage}, current listed c = some x → x ∈ c ∧ x.done listed = true
  | [], x, h => by cases h
  | y :: r, x, h => by
    simp only [current] at h
    split at h
    · rename_i hy
      injection h with h
      subst h
      exact ⟨List.mem_cons_self .., hy⟩
    · obtain ⟨h1, h2⟩ := current_mem h
      exact ⟨List.mem_cons_of_mem _ h1, h2⟩
theorem done_set {listed : Array Bool} {i : Nat} {x : Stage} (hi : x.i ≠ some i) : x.done (listed.setIfInBounds i true) = x.done listed := by
  unfold Stage.done
  cases hx : x.i with
  | none => rfl
  | some j =>
    have : i ≠ j := fun e => hi (by rw [hx, e])
    simp [Array.getD_eq_getD_getElem?, Array.getElem?_setIfInBounds, this]
theorem current_set {listed : Array Bool} {i : Nat} : ∀ {c : List Stage}, (∀ x ∈ c, x.i ≠ some i) → current (listed.setIfInBounds i true) c = current listed c
  | [], _ => rfl
  | x :: r, h => by
    simp only [current, done_set (h x (List.mem_cons_self ..))]
    rw [current_set fun y hy => h y (List.mem_cons_of_mem _ hy)]
/-- The value of a stage that is there is not touched by an operation that is yet to come. -/
theorem src_put {cs : List (List Stage)} (hso : slotsOk ops cs = true) {listed : Array Bool} (hcl : Closed ops listed) {i : Nat} {o : Oper} (ho : ops[i]? = some o) (hs : listed.size = ops.size) (hl : listed.getD i true = false) {k : Nat} {c : List Stage} (hc : cs[k]? = some c) {x : Stage} (hx : x ∈ c) (hd : x.done listed = true) (a : Act) (v : Value) :
    x.s.get (a.put o.dst v) = x.s.get a := by
  cases hxs : x.s with
  | given u => rfl
  | slot t =>
    show (a.put o.dst v).eval (.tmp t) = a.eval (.tmp t)
    cases hod : o.dst with
    | none => rfl
    | some d =>
      refine eval_put_other ?_
      intro e
      subst e
      unfold slotsOk at hso
      rw [List.all_eq_true] at hso
      have hm : (o, i) ∈ ops.toList.zipIdx := by
        rw [List.mem_zipIdx_iff_getElem?]
        simpa using ho
      have h1 := hso _ hm
      simp only [List.all_eq_true] at h1
      have h2 := h1 x (List.mem_flatten.2 ⟨c, List.mem_of_getElem? hc, hx⟩)
      have hlt : i < listed.size := by rw [hs]; exact (Array.getElem?_eq_some_iff.1 ho).1
      have hlf : listed.getD i false = false := by
        simpa [Array.getD, hlt] using hl
      rw [hxs] at h2
      simp only [hod, bne_self_eq_false, Bool.false_or] at h2
      cases hxi : x.i with
      | none => rw [hxi] at h2; cases h2
      | some j =>
        rw [hxi] at h2
        simp only [Stage.done, hxi] at hd
        simp only [Bool.or_eq_true, beq_iff_eq] at h2
        rcases h2 with rfl | h2
        · rw [hlf] at hd; cases hd
        · rw [edge_closed hcl h2 hd] at hlf; cases hlf
theorem idx_mem {cs : List (List Stage)} {k : Nat} {c : List Stage} {x : Stage} {i : Nat} (hc : cs[k]? = some c) (hx : x ∈ c) (hi : x.i = some i) : i ∈ idx cs := by
  unfold idx
  rw [List.mem_filterMap]
  exact ⟨x, List.mem_flatten.2 ⟨c, List.mem_of_getElem? hc, hx⟩, hi⟩
end Reg
end Go.Proofs.Ytlelckdcmlpmdaa
/- Regions with chains: the theorem, and the rules for an operation. -/
namespace Go.Proofs.Ytlelckdcmlpmdaa
open Go Go.RowKit Lou
namespace Reg
variable {P : Program} {ops : Array Oper}

structure J4 (ops : Array Oper) (FS : Ghost → Tmp → Value → World → Prop) (a0 : Act) (D : List Nat) (B : Nat) (w00 : World) (cs : List (List Stage)) (g : Ghost) (listed : Array Bool) (a : Act) (w : World) : Prop where
  size : a.tmps.size = a0.tmps.size
  defers : a.defers = a0.defers
  facts : ∀ t, Known ops listed t → FS g t (a.eval (.tmp t)) w
  wc : WC B w00 cs g listed a w
  rest : ∀ t, D.contains t = false → a.eval (.tmp t) = a0.eval (.tmp t)
  old : ∀ t, (∀ (j : Nat) (p : Oper), ops[j]? = some p → p.dst = some t → listed.getD j true = false) → a.eval (.tmp t) = a0.eval (.tmp t)
  closed : Closed ops listed

def Op4 (P : Program) (ops : Array Oper) (a0 : Act) (FS : Ghost → Tmp → Value → World → Prop) (B : Nat) (w00 : World) (cs : List (List Stage)) (i : Nat) (o : Oper) : Prop :=
  ∀ (g : Ghost) (listed : Array Bool) (a : Act) (w : World) (K : Act → World → Prop) (Q : Exit → Act → World → Prop), ops[i]? = some o → listed.size = ops.size → listed.getD i true = false → (∀ e ∈ o.after.toList, Region.binds .any e = true → listed.getD e.on false = true) → Closed ops listed →
    WC B w00 cs g listed a w → (∀ t, (o.looksAt ops).contains t = true → ahead ops o t = true → FS g t (a.eval (.tmp t)) w) → (∀ t, waits ops i t = true → a.eval (.tmp t) = a0.eval (.tmp t)) → (∀ d, o.dst = some d → d < a.tmps.size) →
    (∀ g' v w', (∀ t u, FS g t u w → FS g' t u w') → FSd (FS g') o.dst v w' → WC B w00 cs g' (listed.setIfInBounds i true) (a.put o.dst v) w' → K (a.put o.dst v) w') →
    (if Region.wanted o (yielded ops a.tmps) then o.wp P a w K Q ∨ (o.asks P a w ∧ LetsOut Q) else K (a.put o.dst undef) w)
def AllOp4 (P : Program) (ops : Array Oper) (a0 : Act) (FS : Ghost → Tmp → Value → World → Prop) (B : Nat) (w00 : World) (cs : List (List Stage)) : Nat → List Oper → Prop
  | _, [] => True
  | k, o :: r => Op4 P ops a0 FS B w00 cs k o ∧ AllOp4 P ops a0 FS B w00 cs (k + 1) r
theorem AllOp4.get {a0 : Act} {FS : Ghost → Tmp → Value → World → Prop} {B : Nat} {w00 : World} {cs : List (List Stage)} : ∀ {l : List Oper} {k : Nat}, AllOp4 P ops a0 FS B w00 cs k l → ∀ i o, l[i]? = some o → Op4 P ops a0 FS B w00 cs (k + i) o
  | [], _, _, i, o, h => by simp at h
  | x :: r, k, h, 0, o, ho => by
    simp at ho
    subst ho
    exact h.1
  | x :: r, k, h, i + 1, o, ho => by
    have := AllOp4.get h.2 i o (by simpa using ho)
    rw [show k + (i + 1) = k + 1 + i from by omega]
    exact this

theorem region4 (hm : P.follows .mixedOrders = true) (hcov : backs ops = true) {id : Nat} {a0 : Act} {w0 : World} {Q : Exit → Act → World → Prop} (n : Nat) (hn : a0.tmps.size = n) (hdst : dstsIn ops n = true) (D : List Nat) (hD : dstsAre ops D = true)
    (FS : Ghost → Tmp → Value → World → Prop) (B : Nat) (w00 : World) (cs : List (List Stage)) (g0 : Ghost) (hstart : ∀ t, (∀ o ∈ ops.toList, o.dst ≠ some t) → FS g0 t (a0.eval (.tmp t)) w0.drew) (h0 : WC B w00 cs g0 (Array.replicate ops.size false) a0 w0.drew)
    (hok : AllOp4 P ops a0 FS B w00 cs 0 ops.toList)
    (hend : ∀ g listed a w, listed.size = ops.size → (∀ i, i < ops.size → listed.getD i true = true) → J4 ops FS a0 D B w00 cs g listed a w → (∀ t, FS g t (a.eval (.tmp t)) w) → Q .normal a w) :
    (Code.region id ops true).wp P Q a0 w0 := by
  have hD' : ∀ o ∈ ops.toList, ∀ d, o.dst = some d → D.contains d = true := by
    intro o ho d hd
    unfold dstsAre at hD
    rw [List.all_eq_true] at hD
    have := hD o ho
    simpa [hd] using this
  have hdst' : ∀ o ∈ ops.toList, ∀ d, o.dst = some d → d < n := by
    intro o ho d hd
    unfold dstsIn at hdst
    rw [List.all_eq_true] at hdst
    have := hdst o ho
    simpa [hd] using this
  refine region_inv hm hcov (fun listed a w => ∃ g, J4 ops FS a0 D B w00 cs g listed a w) ⟨g0, rfl, rfl, ?_, h0, fun _ _ => rfl, fun _ _ => rfl, fun j p hp h => by
    have hj := (Array.getElem?_eq_some_iff.1 hp).1
    simp [Array.getD, hj] at h⟩ ?_ ?_
  · intro t ht
    refine hstart t ?_
    intro o ho hd
    obtain ⟨i, hi, rfl⟩ := List.getElem_of_mem ho
    have hi' : i < ops.size := by simpa using hi
    have := ht i ops[i] (Array.getElem?_eq_getElem hi') (by simpa using hd)
    simp [Array.getD, hi'] at this
  · rintro i o ho listed a w K Q' hs hl hedges ⟨g, hJ⟩ hK
    have hom : o ∈ ops.toList := by
      obtain ⟨h1, h2⟩ := Array.getElem?_eq_some_iff.1 ho
      subst h2
      simp
    have hisz : i < listed.size := by rw [hs]; exact (Array.getElem?_eq_some_iff.1 ho).1
    have hold : ∀ t, waits ops i t = true → a.eval (.tmp t) = a0.eval (.tmp t) := by
      intro t ht
      refine hJ.old t ?_
      intro j p hp hd
      obtain ⟨e, he, hb, rfl⟩ := waits_spec ht hp hd
      cases hl2 : listed.getD j true with
      | false => rfl
      | true =>
        have := hJ.closed j p hp hl2 e he hb
        simp only [Array.getD, hisz, dif_pos] at this hl
        rw [hl] at this
        cases this
    have hlook : ∀ t, (o.looksAt ops).contains t = true → ahead ops o t = true → FS g t (a.eval (.tmp t)) w := by
      intro t _ ht
      refine hJ.facts t ?_
      intro j p hp hd
      obtain ⟨e, he, hb, rfl⟩ := ahead_spec ht hp hd
      have := hedges e he hb
      have hlt : e.on < listed.size := by rw [hs]; exact (Array.getElem?_eq_some_iff.1 hp).1
      simp only [Array.getD, hlt, dif_pos] at this ⊢
      exact this
    have hop := hok.get i o (by simpa using ho)
    rw [Nat.zero_add] at hop
    refine hop g listed a w K Q' ho hs hl hedges hJ.closed hJ.wc hlook hold (fun d hd => by rw [hJ.size, hn]; exact hdst' o hom d hd) ?_
    intro g' v w' hst hv hwi
    refine hK v w' ⟨g', ?_, ?_, ?_, hwi, ?_, ?_, ?_⟩
    · cases hd : o.dst with
      | none => simpa [Act.put] using hJ.size
      | some d => simpa [Act.put] using hJ.size
    · cases hd : o.dst with
      | none => simpa [Act.put] using hJ.defers
      | some d => simpa [Act.put] using hJ.defers
    · intro t ht
      by_cases hdt : o.dst = some t
      · rw [hdt] at hv ⊢
        rw [eval_put_same (by rw [hJ.size, hn]; exact hdst' o hom t hdt)]
        exact hv
      · have hk : Known ops listed t := by
          intro j p hp hd
          have := ht j p hp hd
          by_cases e : i = j
          · subst e
            rw [ho] at hp
            injection hp with hp
            subst hp
            exact absurd hd hdt
          · simpa [Array.getD_eq_getD_getElem?, Array.getElem?_setIfInBounds, e] using this
        have := hst t _ (hJ.facts t hk)
        cases hd : o.dst with
        | none => simpa [Act.put] using this
        | some d =>
          rw [eval_put_other (by intro e; subst e; exact hdt hd)]
          exact this
    · intro t ht
      cases hd : o.dst with
      | none => simpa [Act.put] using hJ.rest t ht
      | some d =>
        rw [eval_put_other (by intro e; subst e; rw [hD' o hom t hd] at ht; cases ht)]
        exact hJ.rest t ht
    · intro t ht
      have hdt : o.dst ≠ some t := by
        intro hd
        have := ht i o ho hd
        simp [Array.getD_eq_getD_getElem?, Array.getElem?_setIfInBounds, hisz] at this
      have := hJ.old t (fun j p hp hd => by
        have h2 := ht j p hp hd
        have hij : i ≠ j := by
          intro e
          subst e
          rw [ho] at hp
          injection hp with hp
          subst hp
          exact hdt hd
        simpa [Array.getD_eq_getD_getElem?, Array.getElem?_setIfInBounds, hij] using h2)
      cases hd : o.dst with
      | none => simpa [Act.put] using this
      | some d =>
        rw [eval_put_other (by intro e; subst e; exact hdt hd)]
        exact this
    · intro j p hp hlj e he hb
      have hup : ∀ k, listed.getD k false = true → (listed.setIfInBounds i true).getD k false = true := by
        intro k hk
        by_cases e : i = k
        · subst e
          simp [Array.getD_eq_getD_getElem?, Array.getElem?_setIfInBounds, hisz]
        · simpa [Array.getD_eq_getD_getElem?, Array.getElem?_setIfInBounds, e] using hk
      by_cases e2 : i = j
      · subst e2
        rw [ho] at hp
        injection hp with hp
        subst hp
        exact hup _ (hedges e he hb)
      · refine hup _ (hJ.closed j p hp ?_ e he hb)
        simpa [Array.getD_eq_getD_getElem?, Array.getElem?_setIfInBounds, e2] using hlj
  · rintro listed a w hs hall ⟨g, hJ⟩
    refine hend g listed a w hs hall hJ (fun t => hJ.facts t ?_)
    intro j p hp _
    exact hall j (Array.getElem?_eq_some_iff.1 hp).1

section rules
variable {a0 : Act} {FS : Ghost → Tmp → Value → World → Prop} {B : Nat} {w00 : World} {cs : List (List Stage)} {i : Nat} {o : Oper}
/-- An operation that leaves what lay as it was. -/
theorem WC.plain (hok : chainsOk ops cs = true) (hi : (idx cs).contains i = false) {g : Ghost} {listed : Array Bool} {a : Act} {w w' : World} (h : WC B w00 cs g listed a w) (ho : ops[i]? = some o) (hs : listed.size = ops.size) (hl : listed.getD i true = false) (hcl : Closed ops listed) (hg : Grow w w') (v : Value) :
    WC B w00 cs g (listed.setIfInBounds i true) (a.put o.dst v) w' := by
  have hso : slotsOk ops cs = true := by
    unfold chainsOk at hok
    simp only [Bool.and_eq_true] at hok
    exact hok.2
  have hni : ∀ (k : Nat) (c : List Stage), cs[k]? = some c → ∀ x ∈ c, x.i ≠ some i := by
    intro k c hc x hx e
    have := idx_mem hc hx e
    simp at hi
    exact hi this
  refine ⟨h.below.trans (hg.mono h.base), Nat.le_trans h.base hg.size, ?_, h.out, h.apart, h.ge⟩
  intro k c hc
  rw [current_set (hni k c hc)]
  have := h.at_ k c hc
  cases hx : current listed c with
  | none => rw [hx] at this; exact this
  | some x =>
    rw [hx] at this
    obtain ⟨hxm, hxd⟩ := current_mem hx
    have e := src_put hso hcl ho hs hl hc hxm hxd a v
    obtain ⟨h1, h2⟩ := this
    refine ⟨?_, ?_⟩
    · rw [e]
      exact x.st _ _ _ h1 fun b hb => hg.block b (x.lt _ _ _ h1 hb)
    · rw [e]
      exact h2
theorem op4_of (hok : chainsOk ops cs = true) (hi : (idx cs).contains i = false) (hst : ∀ g t v w w', FS g t v w → Grow w w' → FS g t v w') (h : ∀ g w0, Lt g w0 → OpOk P ops (FS g) w0 o) (hah : ((o.looksAt ops).all (ahead ops o)) = true) : Op4 P ops a0 FS B w00 cs i o := by
  intro g listed a w K Q ho hs hl he hcl hw hlook _ _ hK
  exact h g w hw.lt a w K Q (Grow.refl w) (fun t ht => hlook t ht (by
    rw [List.all_eq_true] at hah
    exact hah t (by simpa using ht))) (fun v w' hg hf => hK g v w' (fun t u hu => hst g t u w w' hu hg) hf (hw.plain hok hi ho hs hl hcl hg v))
/-- The move of a slot that the region writes later. -/
theorem op4_mv_old (hok : chainsOk ops cs = true) (hi : (idx cs).contains i = false) (t : Tmp) (hg : o.guard = none) (hop : o.op = .move (.tmp t) ∨ o.op = .assign (.tmp t)) (hw : waits ops i t = true) (hd : ∀ g w, FSd (FS g) o.dst (a0.eval (.tmp t)) w) : Op4 P ops a0 FS B w00 cs i o := by
  intro g listed a w K Q ho hs hl he hcl hwc _ hold _ hK
  have e := hold t hw
  rw [if_pos (by simp [Region.wanted, hg])]
  left
  unfold Oper.wp execOp
  rcases hop with hop | hop <;> simp only [hop, Sem.run_pure, Oper.upon_value, e] <;> exact hK g _ w (fun _ _ h => h) (hd g w) (hwc.plain hok hi ho hs hl hcl (Grow.refl w) _)
theorem chained_at : ∀ (later r : List Stage), chained ops (later ++ r) = true → chained ops r = true
  | [], _, h => h
  | z :: q, r, h => by
    simp only [List.cons_append, chained, Bool.and_eq_true] at h
    exact chained_at q r h.2
/-- An operation that leads from a stage of chain k to the next one. -/
theorem op4_stage (hok : chainsOk ops cs = true) (k : Nat) (later : List Stage) (x : Stage) (pre : List Stage) (hc : cs[k]? = some (later ++ x :: pre)) (hxi : x.i = some i) (hu1 : later.all (fun y => y.i != some i) = true) (hu2 : (cs.zipIdx.all fun (c, j) => j == k || c.all fun y => y.i != some i) = true) (hg : o.guard = none)
    (hst : ∀ g k gb t u w w', Lt g w → w.grownBy w' (g k) → (gb = g k ∨ ∀ b, gb = some b → w.heap.size ≤ b) → FS g t u w → FS (upd g k gb) t u w')
    (hrun : ∀ (g : Ghost) (a : Act) (w : World) (K : Act → World → Prop) (Q : Exit → Act → World → Prop), Lt g w → B ≤ w.heap.size → Below B w00 w → (∀ t, (o.looksAt ops).contains t = true → ahead ops o t = true → FS g t (a.eval (.tmp t)) w) → StageAt (g k) a w pre.head? → (∀ d, o.dst = some d → d < a.tmps.size) →
      (∀ v w' gb, w.grownBy w' (g k) → (gb = g k ∨ ∀ b, gb = some b → w.heap.size ≤ b) → x.p (x.s.get (a.put o.dst v)) w' → gb = x.b (x.s.get (a.put o.dst v)) → FSd (FS (upd g k gb)) o.dst v w' → K (a.put o.dst v) w') → o.wp P a w K Q) : Op4 P ops a0 FS B w00 cs i o := by
  intro g listed a w K Q ho hs hl he hcl hw hlook _ hdl hK
  rw [if_pos (by simp [Region.wanted, hg])]
  left
  have hok' := hok
  unfold chainsOk at hok'
  simp only [Bool.and_eq_true, List.all_eq_true] at hok'
  obtain ⟨hch, hso⟩ := hok'
  have hchk := hch _ (List.mem_of_getElem? hc)
  have hisz : i < listed.size := by rw [hs]; exact (Array.getElem?_eq_some_iff.1 ho).1
  have hlf : listed.getD i false = false := by simpa [Array.getD, hisz] using hl
  have hxd : x.done listed = false := by simpa [Stage.done, hxi] using hlf
  have hlat := chain_none hcl later x pre hchk hxd
  have hcur : current listed (later ++ x :: pre) = pre.head? := by
    rw [current_skip later _ hlat]
    simp only [current, hxd]
    cases hp : pre with
    | nil => rfl
    | cons y r =>
      have hyd : y.done listed = true := by
        have h2 : chained ops (x :: y :: r) = true := by
          rw [hp] at hchk
          exact chained_at _ _ hchk
        simp only [chained, Bool.and_eq_true, hxi] at h2
        have h3 := h2.1
        unfold Stage.done
        cases hyi : y.i with
        | none => rfl
        | some j =>
          rw [hyi] at h3
          simp only [edge, ho, List.any_eq_true, Bool.and_eq_true, beq_iff_eq] at h3
          obtain ⟨e, hm, hb, rfl⟩ := h3
          exact he e hm hb
      simp [current, hyd]
  have hpre := hw.at_ k _ hc
  rw [hcur] at hpre
  refine hrun g a w K Q hw.lt hw.base hw.below hlook hpre hdl ?_
  intro v w' gb hgr hgb hxp hxb hfd
  have hlater : ∀ y ∈ later, y.i ≠ some i := by
    intro y hy
    rw [List.all_eq_true] at hu1
    simpa using hu1 y hy
  have hother : ∀ (j : Nat) (c : List Stage), cs[j]? = some c → j ≠ k → ∀ y ∈ c, y.i ≠ some i := by
    intro j c hjc hjk y hy
    rw [List.all_eq_true] at hu2
    have := hu2 (c, j) (by rw [List.mem_zipIdx_iff_getElem?]; exact hjc)
    simp only [Bool.or_eq_true, beq_iff_eq, List.all_eq_true] at this
    rcases this with h | h
    · exact absurd h hjk
    · simpa using h y hy
  have hlt := hw.lt
  refine hK (upd g k gb) v w' (fun t u hu => hst g k gb t u w w' hlt hgr hgb hu) hfd ⟨hw.below.trans (grown_below hgr hw.base (fun r hr => hw.ge k r hr)), Nat.le_trans hw.base hgr.size, ?_, ?_, ?_, ?_⟩
  · intro j c hjc
    by_cases hjk : j = k
    · subst hjk
      rw [hc] at hjc
      injection hjc with hjc
      subst hjc
      have e : current (listed.setIfInBounds i true) (later ++ x :: pre) = some x := by
        rw [current_skip later _ (fun y hy => by rw [done_set (hlater y hy)]; exact hlat y hy)]
        have : x.done (listed.setIfInBounds i true) = true := by
          simp [Stage.done, hxi, Array.getD_eq_getD_getElem?, Array.getElem?_setIfInBounds, hisz]
        simp [current, this]
      rw [e]
      simp only [upd, if_true]
      exact ⟨hxp, hxb⟩
    · rw [current_set (hother j c hjc hjk)]
      have h1 := hw.at_ j c hjc
      simp only [upd, if_neg hjk]
      cases hy : current listed c with
      | none => rw [hy] at h1; exact h1
      | some y =>
        rw [hy] at h1
        obtain ⟨hym, hyd⟩ := current_mem hy
        have e := src_put hso hcl ho hs hl hjc hym hyd a v
        obtain ⟨h2, h3⟩ := h1
        refine ⟨?_, by rw [e]; exact h3⟩
        rw [e]
        refine y.st _ _ _ h2 fun b hb => hgr.block b (y.lt _ _ _ h2 hb) ?_
        intro e2
        exact hw.apart j k b hjk (by rw [h3]; exact hb) e2.symm
  · intro j hj
    have hjk : j ≠ k := by
      intro e
      subst e
      rw [hc] at hj
      cases hj
    simp only [upd, if_neg hjk]
    exact hw.out j hj
  · intro j1 j2 b h12 h1
    by_cases e1 : j1 = k
    · subst e1
      have e2 : ¬ j2 = j1 := fun e => h12 e.symm
      simp only [upd, if_true] at h1
      simp only [upd, if_neg e2]
      intro h2
      rcases hgb with hgb | hgb
      · rw [hgb] at h1
        exact hw.apart j1 j2 b h12 h1 h2
      · have h3 := hgb b h1
        have := hlt j2 b h2
        omega
    · simp only [upd, if_neg e1] at h1
      by_cases e2 : j2 = k
      · subst e2
        simp only [upd, if_true]
        intro h2
        rcases hgb with hgb | hgb
        · rw [hgb] at h2
          exact hw.apart j1 j2 b h12 h1 h2
        · have h3 := hgb b h2
          have := hlt j1 b h1
          omega
      · simp only [upd, if_neg e2]
        exact hw.apart j1 j2 b h12 h1
  · intro j b hj
    by_cases e1 : j = k
    · subst e1
      simp only [upd, if_true] at hj
      rcases hgb with hgb | hgb
      · rw [hgb] at hj
        exact hw.ge j b hj
      · have h3 := hgb b hj
        have := hw.base
        omega
    · simp only [upd, if_neg e1] at hj
      exact hw.ge j b hj
/-- Operation i waits for the stage's. -/
def behind (ops : Array Oper) (i : Nat) : Option Nat → Bool
  | none => true
  | some j => edge ops i j
/-- An operation that reads what a chain holds. -/
theorem op4_read (hok : chainsOk ops cs = true) (hi : (idx cs).contains i = false) (k : Nat) (later : List Stage) (y : Stage) (pre : List Stage) (hc : cs[k]? = some (later ++ y :: pre)) (hyi : behind ops i y.i = true)
    (hlat : ∀ listed, Closed ops listed → listed.getD i false = false → ∀ z ∈ later, z.done listed = false) (hg : o.guard = none) (hst : ∀ g t v w w', FS g t v w → Grow w w' → FS g t v w')
    (h : ∀ (g : Ghost) (a : Act) (w : World) (K : Act → World → Prop) (Q : Exit → Act → World → Prop), Lt g w → B ≤ w.heap.size → Below B w00 w → (∀ t, (o.looksAt ops).contains t = true → ahead ops o t = true → FS g t (a.eval (.tmp t)) w) → y.p (y.s.get a) w → g k = y.b (y.s.get a) →
      (∀ v w', Grow w w' → FSd (FS g) o.dst v w' → K (a.put o.dst v) w') → o.wp P a w K Q) : Op4 P ops a0 FS B w00 cs i o := by
  intro g listed a w K Q ho hs hl he hcl hw hlook _ _ hK
  rw [if_pos (by simp [Region.wanted, hg])]
  left
  have hisz : i < listed.size := by rw [hs]; exact (Array.getElem?_eq_some_iff.1 ho).1
  have hlf : listed.getD i false = false := by simpa [Array.getD, hisz] using hl
  have hyd : y.done listed = true := by
    unfold Stage.done
    cases hy : y.i with
    | none => rfl
    | some j =>
      rw [hy] at hyi
      simp only [behind, edge, ho, List.any_eq_true, Bool.and_eq_true, beq_iff_eq] at hyi
      obtain ⟨e, hm, hb, rfl⟩ := hyi
      exact he e hm hb
  have hcur : current listed (later ++ y :: pre) = some y := by
    rw [current_skip later _ (hlat listed hcl hlf)]
    simp [current, hyd]
  have hat := hw.at_ k _ hc
  rw [hcur] at hat
  exact h g a w K Q hw.lt hw.base hw.below hlook hat.1 hat.2 fun v w' hgr hf => hK g v w' (fun t u hu => hst g t u w w' hu hgr) hf (hw.plain hok hi ho hs hl hcl hgr v)
theorem later_nil (i : Nat) : ∀ listed, Closed ops listed → listed.getD i false = false → ∀ z ∈ ([] : List Stage), z.done listed = false := fun _ _ _ z hz => by cases hz
/-- What every stage of a region's end holds. -/
theorem J4.end_ {D : List Nat} {g : Ghost} {listed : Array Bool} {a : Act} {w : World} (h : J4 ops FS a0 D B w00 cs g listed a w) (hall : ∀ i, i < ops.size → listed.getD i true = true) (hs : listed.size = ops.size) (k : Nat) (x : Stage) (r : List Stage) (hc : cs[k]? = some (x :: r)) (hx : ∀ i, x.i = some i → i < ops.size) : x.p (x.s.get a) w ∧ g k = x.b (x.s.get a) := by
  have h1 := h.wc.at_ k _ hc
  have hd : x.done listed = true := by
    unfold Stage.done
    cases hi : x.i with
    | none => rfl
    | some i =>
      have hlt : i < ops.size := hx i hi
      have := hall i hlt
      have hl : i < listed.size := by omega
      simpa [Array.getD, hl] using this
  simp only [current, hd, if_true] at h1
  exact h1
end rules
end Reg
end Go.Proofs.Ytlelckdcmlpmdaa
/- More rules for single operations of regions that draw their order. -/
namespace Go.Proofs.Ytlelckdcmlpmdaa
open Go Go.RowKit Lou
theorem cut_mid {ρ : Operand → Value} {w : World} {o : Oper} {x y z : Operand} {A : Option Addr} {c m k : Nat} {l : List UInt8} (ho : o.op = .slice 30 x (some y) (some z) none) (h1 : ρ x = .slice A l.length c) (h2 : ρ y = .int .i64 (m : Int)) (h3 : ρ z = .int .i64 (k : Int)) (hm : m ≤ k) (hk : k ≤ l.length) (hle : l.length ≤ c) :
    (execOp ρ o).run Try.prog w = .ok (.value (.slice (cutA A c m) ((l.drop m).take (k - m)).length (c - m))) w := by
  have ht : Try.prog.underlying 30 = some (.slice (Try.prog.elem 30)) := by kernel_rfl
  have e1 : ((l.drop m).take (k - m)).length = k - m := by simp; omega
  rw [e1]
  have a1 : m ≤ k := hm
  have a2 : k ≤ c := by omega
  have e2 : Try.prog.elem 30 = 5 := by kernel_rfl
  have e3 : (Try.prog.info? 5).map (·.size) = some 1 := by kernel_rfl
  unfold cutA
  by_cases hc : c = m
  · subst hc
    simp [execOp, ho, h1, h2, h3, go_sem, run_sliceAt_slice _ _ _ _ _ _ ht, Result.andThen, a1, a2]
  · have hc' : ¬ c - m = 0 := by omega
    simp [execOp, ho, h1, h2, h3, go_sem, run_sliceAt_slice _ _ _ _ _ _ ht, Result.andThen, a1, a2, hc]
namespace Reg
variable {L : List (Nat × Fact)} {ops : Array Oper} {w0 : World} {o : Oper} {P : Program}
theorem l_run3W (x y z : Operand) (g : Fact) (u v r : Value) (hx : Has ops (FSof L) o x u) (hy : Has ops (FSof L) o y v) (hz : Has ops (FSof L) o z r)
    (hrun : ∀ (ρ : Operand → Value) (w : World), Grow w0 w → ρ x = u → ρ y = v → ρ z = r → ∃ q w', (execOp ρ o).run P w = .ok (.value q) w' ∧ Grow w w' ∧ g.holds q w') (hd : FD L o.dst = g) : RunOk P ops (FSof L) w0 o := by
  intro a w K Q hG hl hK
  obtain ⟨q, w', h1, h2, h3⟩ := hrun a.eval w hG (hx a w hl) (hy a w hl) (hz a w hl)
  unfold Oper.wp
  rw [h1]
  exact hK q w' h2 (fsd hd h3)
theorem l_add (x y : Operand) (T T' : TypeId) (k : IntKind) (m n r : Int) (ho : o.op = .binOp .add T x y T') (hT : Try.prog.underlying T = some (.int k)) (hx : Has ops (FSof L) o x (.int k m)) (hy : Has ops (FSof L) o y (.int k n)) (hr : k.wrap (m + n) = r) (hd : FD L o.dst = .val (.int k r)) : RunOk Try.prog ops (FSof L) w0 o :=
  run2 x y hx hy (fun ρ w h1 h2 => by subst hr; simp [execOp, ho, h1, h2, go_sem, Result.andThen]) fun _ => fsd hd rfl
theorem l_eqI (x y : Operand) (T T' : TypeId) (k : IntKind) (m n : Int) (b : Bool) (ho : o.op = .binOp .eql T x y T') (hT : Try.prog.underlying T = some (.int k)) (hx : Has ops (FSof L) o x (.int k m)) (hy : Has ops (FSof L) o y (.int k n)) (hb : (m == n) = b) (hd : FD L o.dst = .val (.bool b)) : RunOk Try.prog ops (FSof L) w0 o :=
  run2 x y hx hy (fun ρ w h1 h2 => by subst hb; simp [execOp, ho, h1, h2, go_sem, Result.andThen]) fun _ => fsd hd rfl
theorem l_neI (x y : Operand) (T T' : TypeId) (k : IntKind) (m n : Int) (b : Bool) (ho : o.op = .binOp .neq T x y T') (hT : Try.prog.underlying T = some (.int k)) (hx : Has ops (FSof L) o x (.int k m)) (hy : Has ops (FSof L) o y (.int k n)) (hb : (m != n) = b) (hd : FD L o.dst = .val (.bool b)) : RunOk Try.prog ops (FSof L) w0 o :=
  run2 x y hx hy (fun ρ w h1 h2 => by subst hb; simp [execOp, ho, h1, h2, go_sem, Result.andThen, bne]) fun _ => fsd hd rfl
/-- The address of a slice's byte. -/
theorem l_idxS (x y : Operand) (g q n c k : Nat) (hk : k < n) (ho : o.op = .indexAddr 30 x y) (hx : Has ops (FSof L) o x (.slice (some ⟨g, q, none⟩) n c)) (hy : Has ops (FSof L) o y (.int .i64 (k : Int))) (hd : FD L o.dst = .val (.pointer (some ⟨g, q + k, none⟩))) : RunOk Try.prog ops (FSof L) w0 o := by
  refine run2 x y hx hy (fun ρ w h1 h2 => ?_) fun _ => fsd hd rfl
  have ea : (⟨g, q, none⟩ : Addr).add k = ⟨g, q + k, none⟩ := by cases k <;> simp [Addr.add]
  have k0 : (0 : Int) ≤ (k : Int) := by omega
  have k1 : (k : Int) < (n : Int) := by omega
  simp [execOp, ho, h1, h2, go_sem, hk, k0, k1, Result.andThen, ea, Try.underlying30]
/-- A load whose run is known. -/
theorem l_loadV (x : Operand) (p : Addr) (T : TypeId) (v : Value) (ho : o.op = .load T x) (hx : Has ops (FSof L) o x (.pointer (some p))) (hload : ∀ w, Grow w0 w → (loadVar T p).run P w = .ok v w) (hd : FD L o.dst = .val v) : RunOk P ops (FSof L) w0 o :=
  l_run1W x (.val v) _ hx (fun ρ w hg h => ⟨v, w, by simp only [execOp, ho, h, Instr.loadAt, Instr.sureAddr, Sem.run_bind, Sem.run_pure, Result.andThen_ok, hload w hg], Grow.refl _, rfl⟩) hd
/-- A slice of at least 64 bytes as a pointer to a sector. -/
theorem l_s2a (x : Operand) (g q n c : Nat) (hn : 64 ≤ n) (ho : o.op = .sliceToArrayPointer 236 x) (hx : Has ops (FSof L) o x (.slice (some ⟨g, q, none⟩) n c)) (hd : FD L o.dst = .val (.pointer (some ⟨g, q, none⟩))) : RunOk Try.prog ops (FSof L) w0 o := by
  refine run1 x hx (fun ρ w h => ?_) fun _ => fsd hd rfl
  have hn2 : ¬ n < 64 := by omega
  simp [execOp, ho, h, go_sem, Instr.arrayAt, run_underlying Try.underlying236, Result.andThen, hn2, hn]
theorem l_eqArr (x y : Operand) (T : TypeId) (xs ys : List UInt8) (hx1 : xs.length = 64) (hy1 : ys.length = 64) (ho : o.op = .binOp .eql 236 x y T) (hx : Has ops (FSof L) o x (.agg (xs.map b8).toArray)) (hy : Has ops (FSof L) o y (.agg (ys.map b8).toArray)) (hd : FD L o.dst = .val (.bool (xs == ys))) : RunOk Try.prog ops (FSof L) w0 o := by
  refine run2 x y hx hy (fun ρ w h1 h2 => ?_) fun _ => fsd hd rfl
  have hr : (binOp .eql 236 (.agg (xs.map b8).toArray) (.agg (ys.map b8).toArray)).run Try.prog w = .ok (.bool (xs == ys)) w :=
    run_eql_bytes w 236 5 64 Try.underlying236 Try.underlying5 (fun w => by simp [go_sem]) xs ys hx1 hy1
  have hm : Try.prog.eqGuardType Try.prog.depth 236 = false := by kernel_rfl
  simp only [execOp, ho, h1, h2, Sem.run_bind, run_eqGuard_agg w .eql 236 x y _ _ hm, Result.andThen_ok, hr, Sem.run_pure]
end Reg
end Go.Proofs.Ytlelckdcmlpmdaa
/- Regions with chains: facts on slots, stages and rules for rows of bytes and for variables. -/
namespace Go.Proofs.Ytlelckdcmlpmdaa
open Go Go.RowKit Lou
namespace Reg

inductive GFact where
  | val (v : Value)
  | any
  | gp (p : Ghost → Value → World → Prop) (h1 : ∀ g v w w', p g v w → Grow w w' → p g v w') (h2 : ∀ g k gb v w w', Lt g w → w.grownBy w' (g k) → (gb = g k ∨ ∀ b, gb = some b → w.heap.size ≤ b) → p g v w → p (upd g k gb) v w')
def GFact.toFact (g : Ghost) : GFact → Fact
  | .val v => .val v
  | .any => .any
  | .gp p h1 _ => .pred (p g) (h1 g)
def factsG (L : List (Nat × GFact)) (g : Ghost) : List (Nat × Fact) := L.map fun x => (x.1, x.2.toFact g)
theorem factsG_stage (L : List (Nat × GFact)) (g : Ghost) (k : Nat) (gb : Option Nat) (t : Tmp) (u : Value) (w w' : World) (hl : Lt g w) (hg : w.grownBy w' (g k)) (hb : gb = g k ∨ ∀ b, gb = some b → w.heap.size ≤ b) (h : FSof (factsG L g) t u w) : FSof (factsG L (upd g k gb)) t u w' := by
  unfold FSof at *
  induction L with
  | nil => trivial
  | cons x r ih =>
    obtain ⟨n, f⟩ := x
    simp only [factsG, List.map_cons, factOf] at h ⊢
    split
    · rename_i e
      rw [if_pos e] at h
      cases f with
      | val v => exact h
      | any => trivial
      | gp p h1 h2 => exact h2 g k gb u w w' hl hg hb h
    · rename_i e
      rw [if_neg e] at h
      exact ih h
theorem factsG_grow (L : List (Nat × GFact)) (g : Ghost) (t : Tmp) (v : Value) (w w' : World) (h : FSof (factsG L g) t v w) (hg : Grow w w') : FSof (factsG L g) t v w' := FSof.stable _ _ _ _ _ h hg

/-- Bytes that lie in no block that still changes. -/
def resX (l : List UInt8) (g : Ghost) (v : Value) (w : World) : Prop := ∃ A c, v = .slice A l.length c ∧ InB w w.heap.size A c l ∧ ∀ ad, A = some ad → ad.block < w.heap.size ∧ ∀ k, g k ≠ some ad.block
theorem resX_grow (l : List UInt8) : ∀ g v w w', resX l g v w → Grow w w' → resX l g v w' := by
  rintro g v w w' ⟨A, c, rfl, h, ha⟩ hg
  exact ⟨A, c, rfl, (h.below hg).more hg.size, fun ad e => ⟨Nat.lt_of_lt_of_le (ha ad e).1 hg.size, (ha ad e).2⟩⟩
theorem resX_stage (l : List UInt8) : ∀ g k gb v w w', Lt g w → w.grownBy w' (g k) → (gb = g k ∨ ∀ b, gb = some b → w.heap.size ≤ b) → resX l g v w → resX l (upd g k gb) v w' := by
  rintro g k gb v w w' hlt hg hb ⟨A, c, rfl, h, ha⟩
  refine ⟨A, c, rfl, ⟨h.le, h.max, h.nil, fun h0 => ?_⟩, fun ad e => ⟨Nat.lt_of_lt_of_le (ha ad e).1 hg.size, fun j => ?_⟩⟩
  · obtain ⟨b, o, hA, hb', hc⟩ := h.lies h0
    refine ⟨b, o, hA, Nat.lt_of_lt_of_le hb' hg.size, fun j hj => ?_⟩
    rw [← hc j hj]
    exact World.cell?_of_block (hg.block b hb' (fun e => (ha _ hA).2 k e.symm))
  · unfold upd
    split
    · rcases hb with rfl | hb
      · exact (ha ad e).2 k
      · intro e2
        have h3 := hb _ e2
        have := (ha ad e).1
        omega
    · exact (ha ad e).2 j
abbrev GFact.res (l : List UInt8) : GFact := .gp (resX l) (resX_grow l) (resX_stage l)
theorem gives_resX {P : Program} {w : World} {f : FuncId} {args : Array Value} {l : List UInt8} {g : Ghost} (hlt : Lt g w) (h : Calls P f args w (GivesB w l)) : Calls P f args w fun e w' => ∃ v, e = .returned v ∧ Grow w w' ∧ (GFact.toFact g (.res l)).holds v w' :=
  h.mono fun e w' ⟨v, he, hown, hB⟩ => ⟨v, he, hB, by
    obtain ⟨A, c, rfl, hin⟩ := hown.inB
    refine ⟨A, c, rfl, hin, fun ad e => ?_⟩
    subst e
    rcases hown.form with ⟨h1, _⟩ | ⟨b, cap, h1, hb, hbl, _⟩
    · cases h1
    · injection h1 with h1 _ _
      injection h1 with h1
      subst h1
      exact ⟨hbl, fun k e2 => by have h5 := hlt k _ e2; simp only at h5 hb; omega⟩⟩
theorem Lt.grow {g : Ghost} {w w' : World} (h : Lt g w) (hg : Grow w w') : Lt g w' := fun k b hb => Nat.lt_of_lt_of_le (h k b hb) hg.size

/-- A row of bytes, as a stage. -/
def rowSt (i : Option Nat) (s : Src) (B : Nat) (l : List UInt8) : Stage :=
  ⟨i, s, fun v w => OwnB w B v l, Value.ownBlock, fun v w w' h hb => by
    refine ⟨h.1, ?_⟩
    rcases h.2 with h | ⟨g, cap, cur, h1, h2, h3, h4⟩
    · exact .inl h
    · exact .inr ⟨g, cap, cur, h1, h2, (hb g (by rw [h1]; rfl)).trans h3, h4⟩, fun v w k h hk => (World.ownsRow.lt h k hk).2⟩
/-- A variable's block. -/
def ptrBlock : Value → Option Nat
  | .pointer (some a) => some a.block
  | _ => none
def varSt (i : Option Nat) (s : Src) (T : TypeId) (cs : Array Value) : Stage :=
  ⟨i, s, fun v w => ∃ b, v = .pointer (some ⟨b, 0, none⟩) ∧ BlkIs w b T cs, ptrBlock, fun v w w' h hb => by
    obtain ⟨b, rfl, h⟩ := h
    exact ⟨b, rfl, (hb b rfl).trans h⟩, fun v w k h hk => by
    obtain ⟨b, rfl, h⟩ := h
    injection hk with hk
    subst hk
    exact h.lt⟩
section rules
variable {ops : Array Oper} {a0 : Act} {GL : List (Nat × GFact)} {B : Nat} {w00 : World} {cs : List (List Stage)} {i : Nat} {o : Oper} {P : Program}
abbrev FSG (GL : List (Nat × GFact)) : Ghost → Tmp → Value → World → Prop := fun g => FSof (factsG GL g)
theorem fsdG {g : Ghost} {d : Tmp} {v : Value} {w : World} (hd : o.dst = some d) (hf : factOf (factsG GL g) d = .any) : FSd (FSG GL g) o.dst v w := by
  rw [hd]
  show (factOf (factsG GL g) d).holds v w
  rw [hf]
  trivial
/-- append of bytes to a row. -/
theorem s_append (hok : chainsOk ops cs = true) (k : Nat) (later : List Stage) (j : Option Nat) (sp : Src) (pre : List Stage) (l1 l2 : List UInt8) (d : Tmp) (s x : Operand) (hc : cs[k]? = some (later ++ rowSt (some i) (.slot d) B (l1 ++ l2) :: rowSt j sp B l1 :: pre))
    (hu1 : later.all (fun y => y.i != some i) = true) (hu2 : (cs.zipIdx.all fun (c, j) => j == k || c.all fun y => y.i != some i) = true) (hg : o.guard = none)
    (ho : o.op = .call { callee := .builtin .append, args := #[s, x], argTypes := #[30, 30] }) (hd : o.dst = some d) (hf : ∀ g, factOf (factsG GL g) d = .any)
    (hs : ∀ a : Act, sp.get a = a.eval s) (hx : ∀ (g : Ghost) (a : Act) (w : World), (∀ t, (o.looksAt ops).contains t = true → ahead ops o t = true → FSG GL g t (a.eval (.tmp t)) w) → Below B w00 w → ∃ A c, a.eval x = .slice A l2.length c ∧ InB w w.heap.size A c l2)
    (hlen : l1.length + l2.length ≤ 140737488355328) : Op4 Try.prog ops a0 (FSG GL) B w00 cs i o := by
  refine op4_stage hok k later _ _ hc rfl hu1 hu2 hg (factsG_stage GL) ?_
  intro g a w K Q hlt hB hBel hlook hpre hdl hK
  obtain ⟨h1, h2⟩ : OwnB w B (sp.get a) l1 ∧ g k = (sp.get a).ownBlock := hpre
  obtain ⟨A, c, e2, hin⟩ := hx g a w hlook hBel
  refine oper_appB s x ho B (sp.get a) l1 (hs a).symm h1 _ A c l2 e2 hin hlen hB ?_
  intro v' w' hown hgr hob
  have ev : (Src.slot d).get (a.put o.dst v') = v' := by rw [hd]; exact eval_put_same (hdl d hd)
  refine hK v' w' v'.ownBlock (by rw [h2]; exact hgr) (by rcases hob with h | h; exact .inl (by rw [h2]; exact h); exact .inr (fun b hb => by rw [h] at hb; injection hb with hb; omega)) ?_ ?_ (fsdG hd (hf _))
  · show OwnB w' B ((Src.slot d).get (a.put o.dst v')) (l1 ++ l2)
    rw [ev]
    exact hown
  · show v'.ownBlock = ((Src.slot d).get (a.put o.dst v')).ownBlock
    rw [ev]
/-- []byte{}. -/
theorem s_lit0 (hok : chainsOk ops cs = true) (k : Nat) (later : List Stage) (d : Tmp) (hc : cs[k]? = some (later ++ [rowSt (some i) (.slot d) B []]))
    (hu1 : later.all (fun y => y.i != some i) = true) (hu2 : (cs.zipIdx.all fun (c, j) => j == k || c.all fun y => y.i != some i) = true) (hg : o.guard = none)
    (ho : o.op = .buildSlice 30 0 #[]) (hd : o.dst = some d) (hf : ∀ g, factOf (factsG GL g) d = .any) : Op4 Try.prog ops a0 (FSG GL) B w00 cs i o := by
  refine op4_stage hok k later _ [] hc rfl hu1 hu2 hg (factsG_stage GL) ?_
  intro g a w K Q hlt hB hBel hlook hpre hdl hK
  have hgk : g k = none := hpre
  have hr : (execOp a.eval o).run Try.prog w = .ok (.value (.slice (some ⟨w.heap.size, 0, none⟩) 0 0)) (w.alloc (.cells #[] 5)) := by
    simp [execOp, ho, go_sem, Result.andThen]
  unfold Oper.wp
  rw [hr]
  have ev : (Src.slot d).get (a.put o.dst (.slice (some ⟨w.heap.size, 0, none⟩) 0 0)) = .slice (some ⟨w.heap.size, 0, none⟩) 0 0 := by rw [hd]; exact eval_put_same (hdl d hd)
  refine hK _ _ (some w.heap.size) ⟨rfl, rfl, rfl, by simp, fun j hj _ => Below.heap_alloc w _ j hj⟩ (.inr (fun b hb => by injection hb with hb; omega)) ?_ ?_ (fsdG hd (hf _))
  · show OwnB _ B ((Src.slot d).get (a.put o.dst _)) []
    rw [ev]
    exact World.ownsRow_lit w #[] 0 hB (by unfold maxLen; omega) rfl
  · show some w.heap.size = ((Src.slot d).get (a.put o.dst _)).ownBlock
    rw [ev]
    rfl
/-- A call that gives bytes of its own. -/
theorem s_call (hok : chainsOk ops cs = true) (k : Nat) (later : List Stage) (l : List UInt8) (d : Tmp) (f : FuncId) (xs : Array Operand) (ts : Array TypeId) (hc : cs[k]? = some (later ++ [rowSt (some i) (.slot d) B l]))
    (hu1 : later.all (fun y => y.i != some i) = true) (hu2 : (cs.zipIdx.all fun (c, j) => j == k || c.all fun y => y.i != some i) = true) (hg : o.guard = none)
    (ho : o.op = .call { callee := .value (.func f), args := xs, argTypes := ts }) (hent : ∀ args w, (callFunc f args).run P w = .ok (.enter f args) w) (hd : o.dst = some d) (hf : ∀ g, factOf (factsG GL g) d = .any)
    (args : Array Value) (hargs : ∀ (g : Ghost) (a : Act) (w : World), (∀ t, (o.looksAt ops).contains t = true → ahead ops o t = true → FSG GL g t (a.eval (.tmp t)) w) → xs.map a.eval = args)
    (hC : ∀ w, Below B w00 w → Calls P f args w (GivesB w l)) : Op4 P ops a0 (FSG GL) B w00 cs i o := by
  refine op4_stage hok k later _ [] hc rfl hu1 hu2 hg (factsG_stage GL) ?_
  intro g a w K Q hlt hB hBel hlook hpre hdl hK
  have hgk : g k = none := hpre
  have hr : (execOp a.eval o).run P w = .ok (.enter f args) w := by
    have ef : a.eval (.func f) = .func (.func f) #[] #[] := rfl
    have h := hent args w
    have ha := hargs g a w hlook
    simp [execOp, ho, resolve, ha, ef, Deferred.ofValue, invoke, Result.andThen, h]
  unfold Oper.wp
  rw [hr, Oper.upon_enter]
  refine (hC w hBel).mono ?_
  rintro e w' ⟨v, rfl, hown, hBw⟩
  have ev : (Src.slot d).get (a.put o.dst v) = v := by rw [hd]; exact eval_put_same (hdl d hd)
  refine hK v w' v.ownBlock ⟨hBw.os, hBw.tape, hBw.output, hBw.size, fun j hj _ => hBw.block j hj⟩ (.inr (hown.ownGe)) ?_ ?_ (fsdG hd (hf _))
  · show OwnB w' B ((Src.slot d).get (a.put o.dst v)) l
    rw [ev]
    exact hown.base hB
  · show v.ownBlock = ((Src.slot d).get (a.put o.dst v)).ownBlock
    rw [ev]
/-- A variable is laid. -/
theorem s_alloc (hok : chainsOk ops cs = true) (k : Nat) (later : List Stage) (T : TypeId) (z : Array Value) (d : Tmp) (hc : cs[k]? = some (later ++ [varSt (some i) (.slot d) T z]))
    (hu1 : later.all (fun y => y.i != some i) = true) (hu2 : (cs.zipIdx.all fun (c, j) => j == k || c.all fun y => y.i != some i) = true) (hg : o.guard = none)
    (ho : o.op = .alloc T) (hd : o.dst = some d) (hf : ∀ g, factOf (factsG GL g) d = .any) (hrun : ∀ (ρ : Operand → Value) (w : World), (execOp ρ o).run P w = .ok (.value (.pointer (some ⟨w.heap.size, 0, none⟩))) (w.alloc (.cells z T))) : Op4 P ops a0 (FSG GL) B w00 cs i o := by
  refine op4_stage hok k later _ [] hc rfl hu1 hu2 hg (factsG_stage GL) ?_
  intro g a w K Q hlt hB hBel hlook hpre hdl hK
  have hgk : g k = none := hpre
  unfold Oper.wp
  rw [hrun]
  have ev : (Src.slot d).get (a.put o.dst (.pointer (some ⟨w.heap.size, 0, none⟩))) = .pointer (some ⟨w.heap.size, 0, none⟩) := by rw [hd]; exact eval_put_same (hdl d hd)
  refine hK _ _ (some w.heap.size) ⟨rfl, rfl, rfl, by simp, fun j hj _ => Below.heap_alloc w _ j hj⟩ (.inr (fun b hb => by injection hb with hb; omega)) ?_ ?_ (fsdG hd (hf _))
  · show ∃ b, (Src.slot d).get (a.put o.dst _) = .pointer (some ⟨b, 0, none⟩) ∧ BlkIs _ b T z
    rw [ev]
    exact ⟨_, rfl, BlkIs.new w T z⟩
  · show some w.heap.size = ptrBlock ((Src.slot d).get (a.put o.dst _))
    rw [ev]
    rfl
/-- A struct or an array is stored into a variable. -/
theorem s_store (hok : chainsOk ops cs = true) (k : Nat) (later : List Stage) (j : Option Nat) (pre : List Stage) (T : TypeId) (z z' : Array Value) (d : Tmp) (y : Operand) (hc : cs[k]? = some (later ++ varSt (some i) (.slot d) T z' :: varSt j (.slot d) T z :: pre))
    (hu1 : later.all (fun y => y.i != some i) = true) (hu2 : (cs.zipIdx.all fun (c, j) => j == k || c.all fun y => y.i != some i) = true) (hg : o.guard = none)
    (ho : o.op = .store T (.tmp d) y) (hd : o.dst = none) {n : Nat} (hT : RowTy P T n) (hn : z.size = n) (hn' : z'.size = n) (h1 : ∀ v ∈ z'.toList, v.oneCell' = true)
    (hy : ∀ (g : Ghost) (a : Act) (w : World), (∀ t, (o.looksAt ops).contains t = true → ahead ops o t = true → FSG GL g t (a.eval (.tmp t)) w) → a.eval y = .agg z') : Op4 P ops a0 (FSG GL) B w00 cs i o := by
  refine op4_stage hok k later _ _ hc rfl hu1 hu2 hg (factsG_stage GL) ?_
  intro g a w K Q hlt hB hBel hlook hpre hdl hK
  obtain ⟨⟨b, e1, hb⟩, h2⟩ : (∃ b, (Src.slot d).get a = .pointer (some ⟨b, 0, none⟩) ∧ BlkIs w b T z) ∧ g k = ptrBlock ((Src.slot d).get a) := hpre
  have hgk : g k = some b := by rw [h2, e1]; rfl
  have ev : ∀ v, (Src.slot d).get (a.put o.dst v) = (Src.slot d).get a := by intro v; rw [hd]; rfl
  refine oper_storeW T (.tmp d) y ho b e1 (hy g a w hlook) hT hb hn (by omega) h1 ?_
  refine hK _ _ (g k) ⟨rfl, rfl, rfl, by simp [World.setRow], fun j _ hj => setRow_other w b j _ (fun e => hj (by rw [hgk, e]))⟩ (.inl rfl) ?_ ?_ (by rw [hd]; trivial)
  · show ∃ b, (Src.slot d).get (a.put o.dst _) = .pointer (some ⟨b, 0, none⟩) ∧ BlkIs _ b T z'
    rw [ev]
    exact ⟨b, e1, hb.setRow z'⟩
  · show g k = ptrBlock ((Src.slot d).get (a.put o.dst _))
    rw [ev]
    exact h2
/-- A call that reads a row. -/
theorem s_callRow (hok : chainsOk ops cs = true) (hi : (idx cs).contains i = false) (k : Nat) (later : List Stage) (j : Option Nat) (sp : Src) (pre : List Stage) (l : List UInt8) (hc : cs[k]? = some (later ++ rowSt j sp B l :: pre)) (hyi : behind ops i j = true)
    (hlat : ∀ listed, Closed ops listed → listed.getD i false = false → ∀ z ∈ later, z.done listed = false) (hg : o.guard = none) (f : FuncId) (x : Operand) (ts : Array TypeId)
    (ho : o.op = .call { callee := .value (.func f), args := #[x], argTypes := ts }) (hs : ∀ a : Act, sp.get a = a.eval x) (hent : ∀ args w, (callFunc f args).run P w = .ok (.enter f args) w) (gf : GFact)
    (hC : ∀ g w A c, Lt g w → InB w w.heap.size A c l → Calls P f #[.slice A l.length c] w fun e w' => ∃ v, e = .returned v ∧ Grow w w' ∧ (gf.toFact g).holds v w') (hd : ∀ g, FD (factsG GL g) o.dst = gf.toFact g) : Op4 P ops a0 (FSG GL) B w00 cs i o := by
  refine op4_read hok hi k later _ pre hc hyi hlat hg (factsG_grow GL) ?_
  intro g a w K Q hlt hB hBel hlook hp hgk hK
  obtain ⟨A, c, e1, hin⟩ := OwnB.inB (show OwnB w B (sp.get a) l from hp)
  have hr : (execOp a.eval o).run P w = .ok (.enter f #[.slice A l.length c]) w := by
    have ef : a.eval (.func f) = .func (.func f) #[] #[] := rfl
    have h := hent #[.slice A l.length c] w
    have ex : a.eval x = .slice A l.length c := by rw [← hs]; exact e1
    simp [execOp, ho, resolve, ex, ef, Deferred.ofValue, invoke, Result.andThen, h]
  unfold Oper.wp
  rw [hr, Oper.upon_enter]
  refine (hC g w A c hlt hin).mono ?_
  rintro e w' ⟨v, rfl, hg', hf⟩
  exact hK v w' hg' (fsd (hd g) hf)
/-- What stands at a region's beginning where every chain begins in it. -/
theorem WC.start {w : World} (hcs : (cs.all fun c => c.all fun x => x.i.isSome) = true) (hB : Below B w00 w) (hb : B ≤ w.heap.size) (n : Nat) (a : Act) : WC B w00 cs (fun _ => none) (Array.replicate n false) a w := by
  refine ⟨hB, hb, ?_, fun _ _ => rfl, fun _ _ _ _ h => by (cases h), fun _ _ h => by cases h⟩
  intro k c hc
  have : current (Array.replicate n false) c = none := by
    rw [List.all_eq_true] at hcs
    have h1 := hcs c (List.mem_of_getElem? hc)
    clear hc
    induction c with
    | nil => rfl
    | cons x r ih =>
      simp only [List.all_cons, Bool.and_eq_true] at h1
      have hx : x.done (Array.replicate n false) = false := by
        unfold Stage.done
        cases hxi : x.i with
        | none => rw [hxi] at h1; cases h1.1
        | some j => simp [Array.getD]
      simp only [current, hx]
      exact ih h1.2
  rw [this]
  rfl
theorem region4_facts {P : Program} {ops : Array Oper} (hm : P.follows .mixedOrders = true) (hcov : backs ops = true) {id : Nat} {a0 : Act} {w0 : World} {Q : Exit → Act → World → Prop} (n : Nat) (hn : a0.tmps.size = n) (hdst : dstsIn ops n = true) (D : List Nat) (hD : dstsAre ops D = true)
    (V W : List (Nat × GFact)) (g0 : Ghost) (hV : StartOk a0 w0.drew (factsG V g0)) (hW : (W.all fun p => written ops p.1) = true) (B : Nat) (w00 : World) (cs : List (List Stage)) (h0 : WC B w00 cs g0 (Array.replicate ops.size false) a0 w0.drew)
    (hok : AllOp4 P ops a0 (FSG (V ++ W)) B w00 cs 0 ops.toList)
    (hend : ∀ g listed a w, listed.size = ops.size → (∀ i, i < ops.size → listed.getD i true = true) → J4 ops (FSG (V ++ W)) a0 D B w00 cs g listed a w → (∀ t, FSG (V ++ W) g t (a.eval (.tmp t)) w) → Q .normal a w) :
    (Code.region id ops true).wp P Q a0 w0 := by
  refine region4 hm hcov n hn hdst D hD (FSG (V ++ W)) B w00 cs g0 ?_ h0 hok hend
  intro t ht
  have e : factsG (V ++ W) g0 = factsG V g0 ++ factsG W g0 := by simp [factsG]
  show FSof (factsG (V ++ W) g0) t _ _
  rw [e]
  refine start_fact _ _ hV ?_ t ht
  rw [List.all_eq_true] at hW ⊢
  intro p hp
  simp only [factsG, List.mem_map] at hp
  obtain ⟨q, hq, rfl⟩ := hp
  exact hW q hq
theorem valAt {t : Tmp} {g : Ghost} {a : Act} {w : World} (v : Value) (hl : ∀ t, (o.looksAt ops).contains t = true → ahead ops o t = true → FSG GL g t (a.eval (.tmp t)) w) (hc : (o.looksAt ops).contains t = true) (ha : ahead ops o t = true) (hF : factOf (factsG GL g) t = .val v) : a.eval (.tmp t) = v := by
  have h : (factOf (factsG GL g) t).holds (a.eval (.tmp t)) w := hl t hc ha
  rw [hF] at h
  exact h
end rules
/-- One of a call's results. -/
theorem l_extract {L : List (Nat × Fact)} {ops : Array Oper} {w0 : World} {o : Oper} {P : Program} (x : Operand) (n : Nat) (vs : Array Value) (v : Value) (ho : o.op = .extract x n) (hx : Has ops (FSof L) o x (.tuple vs)) (hv : vs[n]? = some v) (hd : FD L o.dst = .val v) : RunOk P ops (FSof L) w0 o :=
  run1 x hx (fun ρ w h => by simp [execOp, ho, h, go_sem, Result.andThen, hv]) fun _ => fsd hd rfl
end Reg
end Go.Proofs.Ytlelckdcmlpmdaa
/- A region whose last operations wait for all ahead of them: facts for the others, then a plain list. -/
namespace Go.Proofs.Ytlelckdcmlpmdaa
open Go Go.RowKit Lou
namespace Reg
variable {P : Program} {ops : Array Oper}

/-- From m on, each operation waits for all ahead of it. -/
def tailOk (ops : Array Oper) (m : Nat) : Bool := (List.range ops.size).all fun i => decide (i < m) || (List.range i).all fun j => edge ops i j
theorem tail_edge {m i j : Nat} (h : tailOk ops m = true) (hi : i < ops.size) (hm : m ≤ i) (hj : j < i) : edge ops i j = true := by
  unfold tailOk at h
  rw [List.all_eq_true] at h
  have := h i (by simpa using hi)
  simp only [Bool.or_eq_true, decide_eq_true_eq, List.all_eq_true] at this
  rcases this with h | h
  · omega
  · exact h j (by simpa using hj)
theorem listed_of_edge {i j : Nat} {o : Oper} {listed : Array Bool} (he : edge ops i j = true) (ho : ops[i]? = some o) (hed : ∀ e ∈ o.after.toList, Region.binds .any e = true → listed.getD e.on false = true) : listed.getD j false = true := by
  simp only [edge, ho, List.any_eq_true, Bool.and_eq_true, beq_iff_eq] at he
  obtain ⟨e, hm, hb, rfl⟩ := he
  exact hed e hm hb

/-- One operation, in whatever order, for one post. -/
def StepQ (P : Program) (ops : Array Oper) (Q : Exit → Act → World → Prop) (Inv : Array Bool → Act → World → Prop) (i : Nat) (o : Oper) : Prop :=
  ∀ (listed : Array Bool) (a : Act) (w : World) (K : Act → World → Prop), listed.size = ops.size → listed.getD i true = false → (∀ e ∈ o.after.toList, Region.binds .any e = true → listed.getD e.on false = true) →
    Inv listed a w → (∀ a' w', Inv (listed.setIfInBounds i true) a' w' → K a' w') →
    (if Region.wanted o (yielded ops a.tmps) then o.wp P a w K Q ∨ (o.asks P a w ∧ LetsOut Q) else K (a.put o.dst undef) w)
theorem region_invQ (hm : P.follows .mixedOrders = true) (hcov : backs ops = true) {id : Nat} {a0 : Act} {w0 : World} {Q : Exit → Act → World → Prop} (Inv : Array Bool → Act → World → Prop)
    (h0 : Inv (Array.replicate ops.size false) a0 w0.drew) (hstep : ∀ i o, ops[i]? = some o → StepQ P ops Q Inv i o)
    (hend : ∀ listed a w, listed.size = ops.size → (∀ i, i < ops.size → listed.getD i true = true) → Inv listed a w → Q .normal a w) :
    (Code.region id ops true).wp P Q a0 w0 := by
  refine wp_region_any hm ?_
  have key : ∀ (fuel : Nat) (listed : Array Bool) (a : Act) (w : World), listed.size = ops.size → left listed ≤ fuel → Inv listed a w → wpAny P .any ops Q fuel listed a w := by
    intro fuel
    have hdone : ∀ (listed : Array Bool) (a : Act) (w : World), listed.size = ops.size → Inv listed a w → Region.ready .any ops listed = [] → Q .normal a w := by
      intro listed a w hs hJ hr
      refine hend listed a w hs ?_ hJ
      intro i
      induction i using Nat.strongRecOn with
      | _ i ih =>
        intro hi
        cases hl : listed.getD i true with
        | true => rfl
        | false =>
          exfalso
          have : i ∈ Region.ready .any ops listed := by
            unfold Region.ready
            simp only [List.mem_filter, List.mem_range, Bool.and_eq_true, Bool.not_eq_true']
            refine ⟨hi, hl, ?_⟩
            have ho : ops[i]? = some ops[i] := Array.getElem?_eq_getElem hi
            simp only [ho, Option.map_some, Option.getD_some]
            rw [Array.all_eq_true_iff_forall_mem]
            intro e he
            have hc := backs_spec hcov ho e (Array.mem_toList_iff.2 he)
            cases hb : Region.binds .any e with
            | false => simp
            | true =>
              have hlt := hc hb
              have h1 := ih e.on hlt (by omega)
              have h2 : e.on < listed.size := by omega
              simp only [Array.getD, h2, dif_pos] at h1 ⊢
              simpa using h1
          rw [hr] at this
          cases this
    induction fuel with
    | zero =>
      intro listed a w hs hf hJ
      have hr : Region.ready .any ops listed = [] := by
        rcases hr : Region.ready .any ops listed with _ | ⟨i, r⟩
        · rfl
        · exfalso
          obtain ⟨o, ho, hl, _⟩ := ready_mem (ops := ops) (listed := listed) (i := i) (by rw [hr]; simp)
          have hi : i < listed.size := by rw [hs]; exact (Array.getElem?_eq_some_iff.1 ho).1
          have hmem : listed[i] ∈ listed.toList.filter (! ·) := by
            rw [List.mem_filter]
            refine ⟨by simp, ?_⟩
            have hl' : listed[i] = false := by simpa [Array.getD, hi] using hl
            simp [hl']
          have : 0 < left listed := List.length_pos_of_mem hmem
          omega
      exact ⟨hr, hdone listed a w hs hJ hr⟩
    | succ fuel ih =>
      intro listed a w hs hf hJ
      refine ⟨hdone listed a w hs hJ, fun i hi => ?_⟩
      obtain ⟨o, ho, hl, hedges⟩ := ready_mem hi
      have hisz : i < listed.size := by rw [hs]; exact (Array.getElem?_eq_some_iff.1 ho).1
      have hnext : ∀ a' w', Inv (listed.setIfInBounds i true) a' w' → wpAny P .any ops Q fuel (listed.setIfInBounds i true) a' w' := by
        intro a' w' hv
        refine ih _ _ _ (by simpa using hs) ?_ hv
        have hl' : listed[i] = false := by simpa [Array.getD, hisz] using hl
        have : left (listed.setIfInBounds i true) < left listed := by
          unfold left
          rw [Array.toList_setIfInBounds]
          have e1 : listed.toList = listed.toList.take i ++ false :: listed.toList.drop (i + 1) := by
            have h3 : listed.toList[i]'(by simpa using hisz) = false := by simpa using hl'
            conv => lhs; rw [← List.take_append_drop i listed.toList, List.drop_eq_getElem_cons (by simpa using hisz), h3]
          rw [List.set_eq_take_append_cons_drop, if_pos (by simpa using hisz)]
          conv => rhs; rw [e1]
          simp
        omega
      have := hstep i o ho listed a w (fun a' w' => wpAny P .any ops Q fuel (listed.setIfInBounds i true) a' w') hs hl hedges hJ hnext
      unfold wpOp
      simp only [ho]
      exact this
  refine key ops.size _ a0 _ (by simp) ?_ h0
  unfold left
  simp
/-- What is left of a list of operations, one behind the other. -/
def Rest (P : Program) (ops : Array Oper) (Q : Exit → Act → World → Prop) (i : Nat) (a : Act) (w : World) : Prop := wpList P ops Q (ops.toList.drop i) a w

theorem region_tail (hm : P.follows .mixedOrders = true) (hcov : backs ops = true) {id : Nat} {a0 : Act} {w0 : World} {Q : Exit → Act → World → Prop} (n : Nat) (hn : a0.tmps.size = n) (hdst : dstsIn ops n = true) (m : Nat) (hmt : m ≤ ops.size) (ht : tailOk ops m = true) (hgd : ((ops.toList.drop m).all fun o => o.guard.isNone) = true) (D : List Nat) (hD : dstsAre (ops.extract 0 m) D = true)
    (FS : Tmp → Value → World → Prop) (hstab : ∀ t v w w', FS t v w → Grow w w' → FS t v w') (hah : (ops.toList.take m).all (fun o => (o.looksAt ops).all (ahead ops o)) = true)
    (hstart : ∀ t, (∀ o ∈ ops.toList.take m, o.dst ≠ some t) → FS t (a0.eval (.tmp t)) w0) (hok : AllOk P ops FS w0 (ops.toList.take m))
    (hend : ∀ a w, a.tmps.size = n → a.defers = a0.defers → Grow w0 w → (∀ t, FS t (a.eval (.tmp t)) w) → (∀ t, D.contains t = false → a.eval (.tmp t) = a0.eval (.tmp t)) → Rest P ops Q m a w) :
    (Code.region id ops true).wp P Q a0 w0 := by
  have hdst' : ∀ o ∈ ops.toList, ∀ d, o.dst = some d → d < n := by
    intro o ho d hd
    unfold dstsIn at hdst
    rw [List.all_eq_true] at hdst
    have := hdst o ho
    simpa [hd] using this
  have hD' : ∀ (i : Nat) (o : Oper), i < m → ops[i]? = some o → ∀ d, o.dst = some d → D.contains d = true := by
    intro i o him ho d hd
    unfold dstsAre at hD
    rw [List.all_eq_true] at hD
    have hmem : o ∈ (ops.extract 0 m).toList := by
      simp only [Array.toList_extract, List.extract_eq_take_drop, List.drop_zero, Nat.sub_zero]
      have : (ops.toList.take m)[i]? = some o := by
        rw [List.getElem?_take, if_pos him]
        simpa using ho
      exact List.mem_of_getElem? this
    have := hD o hmem
    simpa [hd] using this
  let J1 : Array Bool → Act → World → Prop := fun listed a w => a.tmps.size = n ∧ a.defers = a0.defers ∧ Grow w0 w ∧ (∀ t, (∀ (j : Nat) (p : Oper), j < m → ops[j]? = some p → p.dst = some t → listed.getD j true = true) → FS t (a.eval (.tmp t)) w) ∧ (∀ t, D.contains t = false → a.eval (.tmp t) = a0.eval (.tmp t))
  let Inv : Array Bool → Act → World → Prop := fun listed a w => ((∀ j, m ≤ j → j < ops.size → listed.getD j true = false) ∧ J1 listed a w) ∨ ∃ i, m < i ∧ i ≤ ops.size ∧ (∀ j, j < i → listed.getD j true = true) ∧ (∀ j, i ≤ j → j < ops.size → listed.getD j true = false) ∧ Rest P ops Q i a w
  have hrest : ∀ listed a w, (∀ j, j < m → listed.getD j true = true) → J1 listed a w → Rest P ops Q m a w := by
    rintro listed a w hall ⟨h1, h2, h3, h4, h5⟩
    exact hend a w h1 h2 h3 (fun t => h4 t fun j p hj _ _ => hall j hj) h5
  refine region_invQ hm hcov Inv ?_ ?_ ?_
  · left
    refine ⟨fun j _ hj => by simp [Array.getD, hj], hn, rfl, Grow.drew w0, ?_, fun _ _ => rfl⟩
    intro t ht
    refine hstab t _ w0 _ (hstart t ?_) (Grow.drew w0)
    intro o ho hd
    obtain ⟨i, hi, rfl⟩ := List.getElem_of_mem ho
    have hi' : i < m ∧ i < ops.size := by simp at hi; omega
    have := ht i ops[i] hi'.1 (Array.getElem?_eq_getElem hi'.2) (by simpa using hd)
    simp [Array.getD, hi'.2] at this
  · intro i o ho listed a w K hs hl hedges hInv hK
    have hisz0 : i < ops.size := (Array.getElem?_eq_some_iff.1 ho).1
    have hisz : i < listed.size := by omega
    have hom : o ∈ ops.toList := List.mem_of_getElem? (by simpa using ho)
    have hff : ∀ j, j < ops.size → (listed.getD j true = true ↔ listed.getD j false = true) := by
      intro j hj
      have : j < listed.size := by omega
      simp [Array.getD, this]
    have hset : ∀ j, j < ops.size → j ≠ i → (listed.setIfInBounds i true).getD j true = listed.getD j true := by
      intro j _ hji
      simp [Array.getD_eq_getD_getElem?, Array.getElem?_setIfInBounds, Ne.symm hji]
    have hseti : (listed.setIfInBounds i true).getD i true = true := by
      simp [Array.getD_eq_getD_getElem?, Array.getElem?_setIfInBounds, hisz]
    by_cases him : i < m
    · rcases hInv with ⟨hno, h1, h2, h3, h4, h5⟩ | ⟨q, hq, _, hall, _⟩
      · have hlook : ∀ t, (o.looksAt ops).contains t = true → FS t (a.eval (.tmp t)) w := by
          intro t htl
          refine h4 t ?_
          intro j p hj hp hd
          have hmem : o ∈ ops.toList.take m := by
            have : (ops.toList.take m)[i]? = some o := by
              rw [List.getElem?_take, if_pos him]
              simpa using ho
            exact List.mem_of_getElem? this
          rw [List.all_eq_true] at hah
          have h6 := hah o hmem
          rw [List.all_eq_true] at h6
          obtain ⟨e, he, hb, rfl⟩ := ahead_spec (h6 t (by simpa using htl)) hp hd
          rw [hff _ (Array.getElem?_eq_some_iff.1 hp).1]
          exact hedges e he hb
        have hmem : o ∈ ops.toList.take m := by
          have : (ops.toList.take m)[i]? = some o := by
            rw [List.getElem?_take, if_pos him]
            simpa using ho
          exact List.mem_of_getElem? this
        refine AllOk.get hok o hmem a w K Q h3 hlook ?_
        intro v w' hg hv
        refine hK _ w' (.inl ⟨?_, ?_, ?_, h3.trans hg, ?_, ?_⟩)
        · intro j hmj hj
          rw [hset j hj (by omega)]
          exact hno j hmj hj
        · cases hd : o.dst with
          | none => simpa [Act.put] using h1
          | some d => simpa [Act.put] using h1
        · cases hd : o.dst with
          | none => simpa [Act.put] using h2
          | some d => simpa [Act.put] using h2
        · intro t htk
          by_cases hdt : o.dst = some t
          · rw [hdt] at hv ⊢
            rw [eval_put_same (by rw [h1]; exact hdst' o hom t hdt)]
            exact hv
          · have := hstab t _ w w' (h4 t fun j p hj hp hd => by
              have h7 := htk j p hj hp hd
              have hji : j ≠ i := by
                intro e
                subst e
                rw [ho] at hp
                injection hp with hp
                subst hp
                exact hdt hd
              rw [hset j (Array.getElem?_eq_some_iff.1 hp).1 hji] at h7
              exact h7) hg
            cases hd : o.dst with
            | none => simpa [Act.put] using this
            | some d =>
              rw [eval_put_other (by intro e; subst e; exact hdt hd)]
              exact this
        · intro t htD
          cases hd : o.dst with
          | none => simpa [Act.put] using h5 t htD
          | some d =>
            rw [eval_put_other (by intro e; subst e; rw [hD' i o him ho t hd] at htD; cases htD)]
            exact h5 t htD
      · exfalso
        rw [hall i (by omega)] at hl
        cases hl
    · have hm' : m ≤ i := by omega
      have hbefore : ∀ j, j < i → listed.getD j true = true := by
        intro j hj
        rw [hff j (by omega)]
        exact listed_of_edge (tail_edge ht hisz0 hm' hj) ho hedges
      have hR : Rest P ops Q i a w ∧ (∀ j, i ≤ j → j < ops.size → listed.getD j true = false) := by
        rcases hInv with ⟨hno, hJ⟩ | ⟨q, hq, hqs, hall, hnone, hR⟩
        · have : i = m := by
            rcases Nat.lt_or_ge m i with h | h
            · have h8 := hbefore m h
              rw [hno m (Nat.le_refl _) (by omega)] at h8
              cases h8
            · omega
          subst this
          exact ⟨hrest listed a w hbefore hJ, hno⟩
        · have : i = q := by
            rcases Nat.lt_trichotomy i q with h | h | h
            · rw [hall i h] at hl; cases hl
            · exact h
            · have h8 := hbefore q h
              rw [hnone q (Nat.le_refl _) (by omega)] at h8
              cases h8
          subst this
          exact ⟨hR, hnone⟩
      obtain ⟨hR, hnone⟩ := hR
      have hdrop : ops.toList.drop i = o :: ops.toList.drop (i + 1) := by
        have hi2 : i < ops.toList.length := by simpa using hisz0
        rw [List.drop_eq_getElem_cons hi2]
        congr 1
        have : ops.toList[i]? = some o := by simpa using ho
        rw [List.getElem?_eq_getElem hi2] at this
        injection this
      unfold Rest at hR
      rw [hdrop] at hR
      have hgn : o.guard = none := by
        rw [List.all_eq_true] at hgd
        have hmem : o ∈ ops.toList.drop m := by
          have : (ops.toList.drop m)[i - m]? = some o := by
            rw [List.getElem?_drop, show m + (i - m) = i from by omega]
            simpa using ho
          exact List.mem_of_getElem? this
        have := hgd o hmem
        cases hg : o.guard with
        | none => rfl
        | some x => rw [hg] at this; cases this
      have hw : Region.wanted o (yielded ops a.tmps) = true := by simp [Region.wanted, hgn]
      simp only [wpList, hw, if_true] at hR
      rw [if_pos hw]
      refine Or.imp ?_ (fun x => x) hR
      refine Oper.wp_mono ?_
      intro a' w' h9
      refine hK a' w' (.inr ⟨i + 1, by omega, by omega, ?_, ?_, h9⟩)
      · intro j hj
        by_cases e : j = i
        · subst e
          exact hseti
        · rw [hset j (by omega) e]
          exact hbefore j (by omega)
      · intro j hj hjs
        rw [hset j hjs (by omega)]
        exact hnone j (by omega) hjs
  · rintro listed a w hs hall (⟨hno, hJ⟩ | ⟨q, hq, hqs, hallq, hnone, hR⟩)
    · have hR := hrest listed a w (fun j hj => hall j (by omega)) hJ
      rcases Nat.lt_or_ge m ops.size with h | h
      · have := hall m h
        rw [hno m (Nat.le_refl _) h] at this
        cases this
      · unfold Rest at hR
        rw [List.drop_of_length_le (by simpa using h)] at hR
        exact hR
    · rcases Nat.lt_or_ge q ops.size with h | h
      · have := hall q h
        rw [hnone q (Nat.le_refl _) h] at this
        cases this
      · unfold Rest at hR
        rw [List.drop_of_length_le (by simpa using h)] at hR
        exact hR
/-- region_tail by two lists of facts. -/
theorem region_tail_facts (hm : P.follows .mixedOrders = true) (hcov : backs ops = true) {id : Nat} {a0 : Act} {w0 : World} {Q : Exit → Act → World → Prop} (n : Nat) (hn : a0.tmps.size = n) (hdst : dstsIn ops n = true) (m : Nat) (hmt : m ≤ ops.size) (ht : tailOk ops m = true) (hgd : ((ops.toList.drop m).all fun o => o.guard.isNone) = true) (D : List Nat) (hD : dstsAre (ops.extract 0 m) D = true)
    (V W : List (Nat × Fact)) (hV : StartOk a0 w0 V) (hW : (W.all fun p => written (ops.extract 0 m) p.1) = true) (hah : (ops.toList.take m).all (fun o => (o.looksAt ops).all (ahead ops o)) = true) (hok : AllOk P ops (FSof (V ++ W)) w0 (ops.toList.take m))
    (hend : ∀ a w, a.tmps.size = n → a.defers = a0.defers → Grow w0 w → (∀ t, FSof (V ++ W) t (a.eval (.tmp t)) w) → (∀ t, D.contains t = false → a.eval (.tmp t) = a0.eval (.tmp t)) → Rest P ops Q m a w) :
    (Code.region id ops true).wp P Q a0 w0 := by
  refine region_tail hm hcov n hn hdst m hmt ht hgd D hD (FSof (V ++ W)) (FSof.stable _) hah ?_ hok hend
  intro t h
  refine start_fact (ops := ops.extract 0 m) V W hV hW t ?_
  intro o ho
  refine h o ?_
  simpa [Array.toList_extract, List.extract_eq_take_drop] using ho
end Reg
end Go.Proofs.Ytlelckdcmlpmdaa
