/- Regions that draw their order and change what the call itself owns (rows that grow, variables that are laid and stored): each such thing is a chain of stages; facts on slots tell nothing of its block. -/
import Derived.Test.YtlelckdcmlpmdaaReg3
import Derived.Test.YtlelckdcmlpmdaaSteps
namespace Go.Proofs.Ytlelckdcmlpmdaa
open Go Go.RowKit Lou
namespace Reg
variable {P : Program} {ops : Array Oper}

/-- Where a stage's value lies: in a slot; or it is known. -/
inductive Src where
  | slot (t : Tmp)
  | given (v : Value)
def Src.get (a : Act) : Src → Value
  | .slot t => a.eval (.tmp t)
  | .given v => v
structure Stage where
  /-- the operation that leads to it (none: it stands from the beginning) -/
  i : Option Nat
  s : Src
  p : Value → World → Prop
  b : Value → Option Nat
  st : ∀ v w w', p v w → (∀ k, b v = some k → w'.heap[k]? = w.heap[k]?) → p v w'
  lt : ∀ v w k, p v w → b v = some k → k < w.heap.size
def Stage.done (listed : Array Bool) (x : Stage) : Bool := match x.i with | none => true | some i => listed.getD i false
def current (listed : Array Bool) : List Stage → Option Stage
  | [] => none
  | x :: r => if x.done listed then some x else current listed r
abbrev Ghost := Nat → Option Nat
def upd (g : Ghost) (k : Nat) (b : Option Nat) : Ghost := fun j => if j = k then b else g j
def Lt (g : Ghost) (w : World) : Prop := ∀ k b, g k = some b → b < w.heap.size
def StageAt (g : Option Nat) (a : Act) (w : World) : Option Stage → Prop
  | none => g = none
  | some x => x.p (x.s.get a) w ∧ g = x.b (x.s.get a)
structure WC (B : Nat) (w00 : World) (cs : List (List Stage)) (g : Ghost) (listed : Array Bool) (a : Act) (w : World) : Prop where
  below : Below B w00 w
  base : B ≤ w.heap.size
  at_ : ∀ k c, cs[k]? = some c → StageAt (g k) a w (current listed c)
  out : ∀ k, cs[k]? = none → g k = none
  apart : ∀ j k b, j ≠ k → g j = some b → g k ≠ some b
  ge : ∀ k b, g k = some b → B ≤ b
theorem WC.lt {B : Nat} {w00 : World} {cs : List (List Stage)} {g : Ghost} {listed : Array Bool} {a : Act} {w : World} (h : WC B w00 cs g listed a w) : Lt g w := by
  intro k b hb
  cases hc : cs[k]? with
  | none => rw [h.out k hc] at hb; cases hb
  | some c =>
    have := h.at_ k c hc
    cases hx : current listed c with
    | none => rw [hx] at this; rw [show g k = none from this] at hb; cases hb
    | some x =>
      rw [hx] at this
      obtain ⟨h1, h2⟩ := this
      rw [h2] at hb
      exact x.lt _ _ _ h1 hb

def edge (ops : Array Oper) (i j : Nat) : Bool := match ops[i]? with | some o => o.after.toList.any fun e => Region.binds .any e && e.on == j | none => false
/-- Each stage's operation waits for the one ahead of it. -/
def chained (ops : Array Oper) : List Stage → Bool
  | [] => true
  | x :: r => (match r with | [] => true | y :: _ => match x.i, y.i with | some i, some j => edge ops i j | some _, none => true | none, _ => false) && chained ops r
def idx (cs : List (List Stage)) : List Nat := cs.flatten.filterMap (·.i)
/-- A slot that a stage names is written by its own operation, or by one that it waits for. -/
def slotsOk (ops : Array Oper) (cs : List (List Stage)) : Bool :=
  ops.toList.zipIdx.all fun (o, j) => cs.flatten.all fun y => match y.s with
    | .given _ => true
    | .slot t => o.dst != some t || (match y.i with | none => false | some i => i == j || edge ops i j)
def chainsOk (ops : Array Oper) (cs : List (List Stage)) : Bool := cs.all (chained ops) && slotsOk ops cs

abbrev Closed (ops : Array Oper) (listed : Array Bool) : Prop := ∀ (j : Nat) (p : Oper), ops[j]? = some p → listed.getD j true = true → ∀ e ∈ p.after.toList, Region.binds .any e = true → listed.getD e.on false = true
theorem getD_tf {listed : Array Bool} {j : Nat} (h : listed.getD j false = true) : listed.getD j true = true := by
  by_cases hj : j < listed.size
  · simpa [Array.getD, hj] using h
  · simp [Array.getD, hj] at h
theorem edge_closed {listed : Array Bool} (hcl : Closed ops listed) {i j : Nat} (he : edge ops i j = true) (hi : listed.getD i false = true) : listed.getD j false = true := by
  unfold edge at he
  cases ho : ops[i]? with
  | none => rw [ho] at he; cases he
  | some o =>
    rw [ho] at he
    simp only [List.any_eq_true, Bool.and_eq_true, beq_iff_eq] at he
    obtain ⟨e, hm, hb, rfl⟩ := he
    exact hcl i o ho (getD_tf hi) e hm hb
/-- What is behind a stage that is not yet there is not there. -/
theorem chain_none {listed : Array Bool} (hcl : Closed ops listed) : ∀ (later : List Stage) (x : Stage) (pre : List Stage), chained ops (later ++ x :: pre) = true → x.done listed = false → ∀ y ∈ later, y.done listed = false
  | [], _, _, _, _, y, hy => by cases hy
  | z :: r, x, pre, hch, hx, y, hy => by
    have hch' : chained ops (r ++ x :: pre) = true := by
      simp only [List.cons_append, chained, Bool.and_eq_true] at hch
      exact hch.2
    have ih := chain_none hcl r x pre hch' hx
    rcases List.mem_cons.1 hy with rfl | hy
    · obtain ⟨n, q, hn⟩ : ∃ n q, r ++ x :: pre = n :: q := by
        cases r with
        | nil => exact ⟨x, pre, rfl⟩
        | cons n q => exact ⟨n, q ++ x :: pre, rfl⟩
      have hnd : n.done listed = false := by
        cases r with
        | nil =>
          injection hn with h1 _
          rw [← h1]
          exact hx
        | cons m q' =>
          injection hn with h1 _
          rw [← h1]
          exact ih m (List.mem_cons_self ..)
      simp only [List.cons_append, hn, chained, Bool.and_eq_true] at hch
      have he := hch.1
      cases hyi : y.i with
      | none => rw [hyi] at he; cases he
      | some i =>
        rw [hyi] at he
        cases hni : n.i with
        | none => simp [Stage.done, hni] at hnd
        | some j =>
          rw [hni] at he
          cases hq : y.done listed with
          | false => rfl
          | true =>
            simp only [Stage.done, hyi] at hq
            have := edge_closed hcl he hq
            simp only [Stage.done, hni] at hnd
            rw [this] at hnd
            cases hnd
    · exact ih y hy
theorem current_skip {listed : Array Bool} : ∀ (later r : List Stage), (∀ y ∈ later, y.done listed = false) → current listed (later ++ r) = current listed r
  | [], r, _ => rfl
  | y :: l, r, h => by
    simp only [List.cons_append, current, h y (List.mem_cons_self ..)]
    exact current_skip l r fun z hz => h z (List.mem_cons_of_mem _ hz)
theorem current_mem {listed : Array Bool} : ∀ {c : List Stage} {x : Stage}, current listed c = some x → x ∈ c ∧ x.done listed = true
  | [], x, h => by cases h
  | y :: r, x, h => by
    simp only [current] at h
    split at h
    · rename_i hy
      injection h with h
      subst h
      exact ⟨List.mem_cons_self .., hy⟩
    · obtain ⟨h1, h2⟩ := current_mem h
      exact ⟨List.mem_cons_of_mem _ h1, h2⟩
theorem done_set {listed : Array Bool} {i : Nat} {x : Stage} (hi : x.i ≠ some i) : x.done (listed.setIfInBounds i true) = x.done listed := by
  unfold Stage.done
  cases hx : x.i with
  | none => rfl
  | some j =>
    have : i ≠ j := fun e => hi (by rw [hx, e])
    simp [Array.getD_eq_getD_getElem?, Array.getElem?_setIfInBounds, this]
theorem current_set {listed : Array Bool} {i : Nat} : ∀ {c : List Stage}, (∀ x ∈ c, x.i ≠ some i) → current (listed.setIfInBounds i true) c = current listed c
  | [], _ => rfl
  | x :: r, h => by
    simp only [current, done_set (h x (List.mem_cons_self ..))]
    rw [current_set fun y hy => h y (List.mem_cons_of_mem _ hy)]
/-- The value of a stage that is there is not touched by an operation that is yet to come. -/
theorem src_put {cs : List (List Stage)} (hso : slotsOk ops cs = true) {listed : Array Bool} (hcl : Closed ops listed) {i : Nat} {o : Oper} (ho : ops[i]? = some o) (hs : listed.size = ops.size) (hl : listed.getD i true = false) {k : Nat} {c : List Stage} (hc : cs[k]? = some c) {x : Stage} (hx : x ∈ c) (hd : x.done listed = true) (a : Act) (v : Value) :
    x.s.get (a.put o.dst v) = x.s.get a := by
  cases hxs : x.s with
  | given u => rfl
  | slot t =>
    show (a.put o.dst v).eval (.tmp t) = a.eval (.tmp t)
    cases hod : o.dst with
    | none => rfl
    | some d =>
      refine eval_put_other ?_
      intro e
      subst e
      unfold slotsOk at hso
      rw [List.all_eq_true] at hso
      have hm : (o, i) ∈ ops.toList.zipIdx := by
        rw [List.mem_zipIdx_iff_getElem?]
        simpa using ho
      have h1 := hso _ hm
      simp only [List.all_eq_true] at h1
      have h2 := h1 x (List.mem_flatten.2 ⟨c, List.mem_of_getElem? hc, hx⟩)
      have hlt : i < listed.size := by rw [hs]; exact (Array.getElem?_eq_some_iff.1 ho).1
      have hlf : listed.getD i false = false := by
        simpa [Array.getD, hlt] using hl
      rw [hxs] at h2
      simp only [hod, bne_self_eq_false, Bool.false_or] at h2
      cases hxi : x.i with
      | none => rw [hxi] at h2; cases h2
      | some j =>
        rw [hxi] at h2
        simp only [Stage.done, hxi] at hd
        simp only [Bool.or_eq_true, beq_iff_eq] at h2
        rcases h2 with rfl | h2
        · rw [hlf] at hd; cases hd
        · rw [edge_closed hcl h2 hd] at hlf; cases hlf
theorem idx_mem {cs : List (List Stage)} {k : Nat} {c : List Stage} {x : Stage} {i : Nat} (hc : cs[k]? = some c) (hx : x ∈ c) (hi : x.i = some i) : i ∈ idx cs := by
  unfold idx
  rw [List.mem_filterMap]
  exact ⟨x, List.mem_flatten.2 ⟨c, List.mem_of_getElem? hc, hx⟩, hi⟩
end Reg
end Go.Proofs.Ytlelckdcmlpmdaa
