/- Texts that the proof of FileHolds leans on, part 4. -/
import Derived.Stop.BytesEq
import Derived.Test.YtocnabpplbeafaaGreatFileHoldsB3
/- frame.right. -/
namespace Go.Proofs.YtocnabpplbeafaaGreat
open Go Go.RowKit Lou

/-- A frame, as cells. -/
def frCells (e : Nat) (i p : Int) (f : Bool) (z : Int) (n : Nat) (A : Option Addr) (len k : Nat) : Array Value := #[.int .u64 (e : Int), .int .i64 i, .int .i64 p, .bool f, .int .i64 z, .int .u32 (n : Int), .slice A len k]
def frOk (len : Nat) (i p : Int) (f : Bool) (z : Int) : Bool := decide (len = 512) && isIn 0 2000 [i] && isIn 0 2000 [p, z] && (f || z == 0)
theorem frOk_iff (len : Nat) (i p : Int) (f : Bool) (z : Int) : frOk len i p f z = true ↔ len = 512 ∧ (0 ≤ i ∧ i ≤ 2000) ∧ (0 ≤ p ∧ p ≤ 2000) ∧ (0 ≤ z ∧ z ≤ 2000) ∧ (f = true ∨ z = 0) := by
  simp [frOk, isIn_one, isIn_two, and_assoc]
theorem rowFrame : RowTy Tryz.prog 97 7 := ⟨⟨_, Tryz.underlying97, rfl⟩, by kernel_rfl⟩
theorem InN.two (W : World) (x y : Int) : InN (W.alloc (.cells #[.int .i64 x, .int .i64 y] 3)) (some ⟨W.heap.size, 0, none⟩) [x, y] := ⟨fun _ => ⟨_, _, rfl, fun j hj => by
  rw [(BlkIs.new W 3 #[.int .i64 x, .int .i64 y]).cell]
  rcases (show j = 0 ∨ j = 1 from by simp at hj; omega) with rfl | rfl <;> rfl⟩⟩
theorem withinTwo_gives (W : World) (lo hi x y : Int) :
    Calls Tryz.prog 114 #[.int .i64 lo, .int .i64 hi, .slice (some ⟨W.heap.size, 0, none⟩) 2 2] (W.alloc (.cells #[.int .i64 x, .int .i64 y] 3)) fun e w' => e = .returned (.bool (isIn lo hi [x, y])) ∧ Below W.heap.size W w' :=
  (within_gives (W.alloc (.cells #[.int .i64 x, .int .i64 y] 3)) (some ⟨W.heap.size, 0, none⟩) 2 [x, y] (InN.two W x y) (fun g o e => by injection e with e; injection e with e1; subst e1; simp) (by simp) lo hi).mono fun e w' ⟨he, hB⟩ =>
    ⟨he, ((Below.refl _ W).alloc (Nat.le_refl _) _).trans (hB.mono (by simp))⟩
set_option maxRecDepth 100000 in
set_option maxHeartbeats 4000000 in
theorem right_gives (e : Nat) (i p : Int) (f : Bool) (z : Int) (n : Nat) (A : Option Addr) (len k : Nat) (w : World) :
    Calls Tryz.prog 88 #[.agg (frCells e i p f z n A len k)] w fun x w' => x = .returned (.bool (frOk len i p f z)) ∧ Below w.heap.size w w' := by
  have hb0 := BlkIs.new w 97 (frCells e i p f z n A len k)
  have hB0 : Below w.heap.size w (w.alloc (.cells (frCells e i p f z n A len k) 97)) := (Below.refl _ w).alloc (Nat.le_refl _) _
  have H1 := withinOne_gives (w.alloc (.cells (frCells e i p f z n A len k) 97)) 0 2000 i
  rw [World.size_alloc] at H1
  obtain ⟨v, hv⟩ : ∃ v, v = frOk len i p f z := ⟨_, rfl⟩
  rw [← hv]
  unfold frOk at hv
  have hV := Lib.hid hv
  clear hv
  unfold frCells at *
  by_cases hl : len = 512
  · have hq : ((len : Int) == 512) = true := by simp; omega
    generalize hq1 : isIn 0 2000 [i] = b1 at *
    cases b1 with
    | false =>
      have ev : v = false := by rw [hV.out]; simp
      subst ev
      clear hV hl
      go_enter Tryz.func88, Tryz.ntmps88
      go_wp2_with (go_at_call 114; refine H1.mono ?_; rintro x w1 ⟨rfl, hB⟩)
      go_ret
      exact ⟨rfl, hB0.trans (hB.mono (by simp))⟩
    | true =>
      have ev : v = (isIn 0 2000 [p, z] && (f || z == 0)) := by rw [hV.out]; simp [hl]
      clear hV hl
      generalize hq2 : isIn 0 2000 [p, z] = b2 at *
      have H2 := fun W => withinTwo_gives W 0 2000 p z
      rw [hq2] at H2
      clear hq1 hq2
      have EV := Lib.hid ev
      clear ev
      cases b2 with
      | false =>
        have ev : v = false := by rw [EV.out]; simp
        subst ev
        clear EV
        go_enter Tryz.func88, Tryz.ntmps88
        go_wp2_with fail
        refine H1.mono ?_
        rintro x w1 ⟨rfl, hB⟩
        have hb1 := hb0.below hB (by simp)
        have hB1 := hB0.trans (hB.mono (by simp))
        have hc2 : w1.cell? ⟨w.heap.size, 2, none⟩ = some (.int .i64 p) := by rw [hb1.cell]; rfl
        have hc4 : w1.cell? ⟨w.heap.size, 4, none⟩ = some (.int .i64 z) := by rw [hb1.cell]; rfl
        clear hB hb0 hb1 hB0 H1
        go_wp2_with (go_at_call 114; refine (H2 _).mono ?_; rintro x w2 ⟨rfl, hB⟩)
        go_ret
        exact ⟨rfl, hB1.trans (hB.mono hB1.size)⟩
      | true =>
        have ev : v = (f || z == 0) := by rw [EV.out]; simp
        clear EV
        have hz : f = false → ∃ q, (z == 0) = q ∧ v = q := fun h => ⟨_, rfl, by rw [ev, h]; rfl⟩
        cases f with
        | true =>
          replace ev : v = true := by rw [ev]; rfl
          subst ev
          clear hz
          go_enter Tryz.func88, Tryz.ntmps88
          go_wp2_with fail
          refine H1.mono ?_
          rintro x w1 ⟨rfl, hB⟩
          have hb1 := hb0.below hB (by simp)
          have hB1 := hB0.trans (hB.mono (by simp))
          have hc2 : w1.cell? ⟨w.heap.size, 2, none⟩ = some (.int .i64 p) := by rw [hb1.cell]; rfl
          have hc4 : w1.cell? ⟨w.heap.size, 4, none⟩ = some (.int .i64 z) := by rw [hb1.cell]; rfl
          clear hB hb0 hB0 H1
          go_wp2_with fail
          refine (H2 _).mono ?_
          rintro x w2 ⟨rfl, hB⟩
          have hb2 := hb1.below hB hb1.lt
          have hB2 := hB1.trans (hB.mono hB1.size)
          have hc3 : w2.cell? ⟨w.heap.size, 3, none⟩ = some (.bool true) := by rw [hb2.cell]; rfl
          clear hB hb1 hB1 hc2 hc4
          go_wp2
          go_ret
          exact ⟨rfl, hB2⟩
        | false =>
          obtain ⟨q, hq3, rfl⟩ := hz rfl
          clear ev hz
          go_enter Tryz.func88, Tryz.ntmps88
          go_wp2_with fail
          refine H1.mono ?_
          rintro x w1 ⟨rfl, hB⟩
          have hb1 := hb0.below hB (by simp)
          have hB1 := hB0.trans (hB.mono (by simp))
          have hc2 : w1.cell? ⟨w.heap.size, 2, none⟩ = some (.int .i64 p) := by rw [hb1.cell]; rfl
          have hc4 : w1.cell? ⟨w.heap.size, 4, none⟩ = some (.int .i64 z) := by rw [hb1.cell]; rfl
          clear hB hb0 hB0 H1
          go_wp2_with fail
          refine (H2 _).mono ?_
          rintro x w2 ⟨rfl, hB⟩
          have hb2 := hb1.below hB hb1.lt
          have hB2 := hB1.trans (hB.mono hB1.size)
          have hc3 : w2.cell? ⟨w.heap.size, 3, none⟩ = some (.bool false) := by rw [hb2.cell]; rfl
          have hc4 : w2.cell? ⟨w.heap.size, 4, none⟩ = some (.int .i64 z) := by rw [hb2.cell]; rfl
          clear hB hb1 hB1 hc2
          go_wp2
          go_ret
          exact ⟨rfl, hB2⟩
  · have hq : ((len : Int) == 512) = false := by simp; omega
    have ev : v = false := by rw [hV.out]; simp [hl]
    subst ev
    clear hV hl
    go_enter Tryz.func88, Tryz.ntmps88
    go_wp2
    go_ret
    exact ⟨rfl, hB0⟩
end Go.Proofs.YtocnabpplbeafaaGreat
/- frame.flags: a map of two closures. -/
namespace Go.Proofs.YtocnabpplbeafaaGreat
open Go Go.RowKit Lou

set_option maxRecDepth 100000 in
set_option maxHeartbeats 1000000 in
theorem flag1_gives (w : World) (c : UInt8) : Calls Tryz.prog 138 #[.int .u8 (c.toNat : Int)] w fun x w' => x = .returned (.func (.func 139) #[] #[.pointer (some ⟨w.heap.size, 0, none⟩)]) ∧ w' = w.alloc (.cells #[.int .u8 (c.toNat : Int)] 5) := by
  go_enter Tryz.func138, Tryz.ntmps138
  go_wp2
  go_ret
  exact ⟨rfl, rfl⟩
set_option maxRecDepth 100000 in
set_option maxHeartbeats 1000000 in
theorem flag11_gives (w : World) (g : Nat) (c : UInt8) (hb : BlkIs w g 5 #[.int .u8 (c.toNat : Int)]) : Calls Tryz.prog 139 #[.pointer (some ⟨g, 0, none⟩)] w (GivesB w [c]) := by
  have hc := hb.boxed
  go_enter Tryz.func139, Tryz.ntmps139
  go_wp2
  go_ret
  refine ⟨_, rfl, ?_, (Below.refl _ _).alloc (Nat.le_refl _) _⟩
  exact World.ownsRow_lit w #[.int .u8 (c.toNat : Int)] 1 (Nat.le_refl _) (by unfold maxLen; omega) rfl
/-- The two flags' bytes lie behind closures in a map. -/
def FlagsAt (w : World) (v : Value) : Prop := ∃ r g0 g1 clock, v = .map (some r) ∧ MapIs w r #[⟨.bool false, .func (.func 139) #[] #[.pointer (some ⟨g0, 0, none⟩)], 0⟩, ⟨.bool true, .func (.func 139) #[] #[.pointer (some ⟨g1, 0, none⟩)], 1⟩] clock ∧
  BlkIs w g0 5 #[.int .u8 0] ∧ BlkIs w g1 5 #[.int .u8 1]
theorem FlagsAt.below {w w' : World} {v : Value} (h : FlagsAt w v) (hB : Below w.heap.size w w') : FlagsAt w' v := by
  obtain ⟨r, g0, g1, clock, hv, h1, h2, h3⟩ := h
  exact ⟨r, g0, g1, clock, hv, h1.below hB h1.lt, h2.below hB h2.lt, h3.below hB h3.lt⟩
theorem key_bool (b : Bool) : MapKept.IsKey .bool (.bool b) := trivial
set_option maxRecDepth 100000 in
set_option maxHeartbeats 1000000 in
theorem flags_gives (w : World) : Calls Tryz.prog 118 #[] w fun x w' => ∃ v, x = .returned v ∧ FlagsAt w' v ∧ Below w.heap.size w w' := by
  have F0 : ∀ W, Calls Tryz.prog 138 #[.int .u8 0] W fun x w' => x = .returned (.func (.func 139) #[] #[.pointer (some ⟨W.heap.size, 0, none⟩)]) ∧ w' = W.alloc (.cells #[.int .u8 0] 5) := fun W => flag1_gives W 0
  have F1 : ∀ W, Calls Tryz.prog 138 #[.int .u8 1] W fun x w' => x = .returned (.func (.func 139) #[] #[.pointer (some ⟨W.heap.size, 0, none⟩)]) ∧ w' = W.alloc (.cells #[.int .u8 1] 5) := fun W => flag1_gives W 1
  have hu := Tryz.underlying175
  have hk := Tryz.underlying4
  go_enter Tryz.func118, Tryz.ntmps118
  go_wp2_with (first
    | (refine wp_makeMap rfl rfl ?_; intro hm1; have hB1 : Below w.heap.size w (w.alloc (.map #[] 0)) := (Below.refl _ w).alloc (Nat.le_refl _) _)
    | (go_at_call 138; (with_reducible refine (F0 _).mono ?_); rintro x w2 ⟨rfl, rfl⟩; have hm2 := hm1.below ((Below.refl _ _).alloc (Nat.le_refl _) (.cells #[.int .u8 0] 5)) hm1.lt; have hg2 := BlkIs.new (w.alloc (.map #[] 0)) 5 #[.int .u8 0]; have hB2 := hB1.alloc hB1.size (.cells #[.int .u8 0] 5))
    | (go_at_call 138; (with_reducible refine (F1 _).mono ?_); rintro x w4 ⟨rfl, rfl⟩; have hm4 := hm3.below ((Below.refl _ _).alloc (Nat.le_refl _) (.cells #[.int .u8 1] 5)) hm3.lt; have hg4 := hg3.alloc (.cells #[.int .u8 1] 5); have hq4 := BlkIs.new w3 5 #[.int .u8 1]; have hB4 := hB3.alloc hB3.size (.cells #[.int .u8 1] 5))
    | (revert hm2; intro hm2; refine wp_put_new (by rfl) (.tmp 2) (.const (.bool false)) (.tmp 4) (.inl (by rfl)) hu hk (key_bool false) (by rfl) (by rfl) (by rfl) hm2 (by rfl) ?_; intro w3 hm3 hr3; have hg3 := hg2.grownMap hm2 hr3; have hB3 : Below w.heap.size w w3 := hB2.trans (grown_below hr3 hB2.size (fun r hr => by injection hr with hr; omega)); clear hm1 hm2 hg2)
    | (revert hm4; intro hm4; refine wp_put_new (by rfl) (.tmp 2) (.const (.bool true)) (.tmp 6) (.inl (by rfl)) hu hk (key_bool true) (by rfl) (by rfl) (by rfl) hm4 (by rfl) ?_; intro w5 hm5 hr5; have hg5 := hg4.grownMap hm4 hr5; have hq5 := hq4.grownMap hm4 hr5; have hB5 : Below w.heap.size w w5 := hB4.trans (grown_below hr5 hB4.size (fun r hr => by injection hr with hr; omega))))
  go_ret
  rw [World.size_alloc] at hg5
  exact ⟨_, rfl, ⟨_, _, _, _, rfl, hm5, hg5, hq5⟩, hB5⟩
end Go.Proofs.YtocnabpplbeafaaGreat
/- Regions that draw their order and change what the call itself owns (rows that grow, variables that are laid and stored): each such thing is a chain of stages; facts on slots tell nothing of its block. -/
namespace Go.Proofs.YtocnabpplbeafaaGreat
open Go Go.RowKit Lou
namespace Reg
variable {P : Program} {ops : Array Oper}

/-- Where a stage's value lies: in a slot; or it is known. -/
inductive Src where
  | slot (t : Tmp)
  | given (v : Value)
def Src.get (a : Act) : Src → Value
  | .slot t => a.eval (.tmp t)
  | .given v => v
structure Stage where
  /-- the operation that leads to it (none: it stands from the beginning) -/
  i : Option Nat
  s : Src
  p : Value → World → Prop
  b : Value → Option Nat
  st : ∀ v w w', p v w → (∀ k, b v = some k → w'.heap[k]? = w.heap[k]?) → p v w'
  lt : ∀ v w k, p v w → b v = some k → k < w.heap.size
def Stage.done (listed : Array Bool) (x : Stage) : Bool := match x.i with | none => true | some i => listed.getD i false
def current (listed : Array Bool) : List Stage → Option Stage
  | [] => none
  | x :: r => if x.done listed then some x else current listed r
abbrev Ghost := Nat → Option Nat
def upd (g : Ghost) (k : Nat) (b : Option Nat) : Ghost := fun j => if j = k then b else g j
def Lt (g : Ghost) (w : World) : Prop := ∀ k b, g k = some b → b < w.heap.size
def StageAt (g : Option Nat) (a : Act) (w : World) : Option Stage → Prop
  | none => g = none
  | some x => x.p (x.s.get a) w ∧ g = x.b (x.s.get a)
structure WC (B : Nat) (w00 : World) (cs : List (List Stage)) (g : Ghost) (listed : Array Bool) (a : Act) (w : World) : Prop where
  below : Below B w00 w
  base : B ≤ w.heap.size
  at_ : ∀ k c, cs[k]? = some c → StageAt (g k) a w (current listed c)
  out : ∀ k, cs[k]? = none → g k = none
  apart : ∀ j k b, j ≠ k → g j = some b → g k ≠ some b
  ge : ∀ k b, g k = some b → B ≤ b
theorem WC.lt {B : Nat} {w00 : World} {cs : List (List Stage)} {g : Ghost} {listed : Array Bool} {a : Act} {w : World} (h : WC B w00 cs g listed a w) : Lt g w := by
  intro k b hb
  cases hc : cs[k]? with
  | none => rw [h.out k hc] at hb; cases hb
  | some c =>
    have := h.at_ k c hc
    cases hx : current listed c with
    | none => rw [hx] at this; rw [show g k = none from this] at hb; cases hb
    | some x =>
      rw [hx] at this
      obtain ⟨h1, h2⟩ := this
      rw [h2] at hb
      exact x.lt _ _ _ h1 hb

def edge (ops : Array Oper) (i j : Nat) : Bool := match ops[i]? with | some o => o.after.toList.any fun e => Region.binds .any e && e.on == j | none => false
/-- Each stage's operation waits for the one ahead of it. -/
def chained (ops : Array Oper) : List Stage → Bool
  | [] => true
  | x :: r => (match r with | [] => true | y :: _ => match x.i, y.i with | some i, some j => edge ops i j | some _, none => true | none, _ => false) && chained ops r
def idx (cs : List (List Stage)) : List Nat := cs.flatten.filterMap (·.i)
/-- A slot that a stage names is written by its own operation, or by one that it waits for. -/
def slotsOk (ops : Array Oper) (cs : List (List Stage)) : Bool :=
  ops.toList.zipIdx.all fun (o, j) => cs.flatten.all fun y => match y.s with
    | .given _ => true
    | .slot t => o.dst != some t || (match y.i with | none => false | some i => i == j || edge ops i j)
def chainsOk (ops : Array Oper) (cs : List (List Stage)) : Bool := cs.all (chained ops) && slotsOk ops cs

abbrev Closed (ops : Array Oper) (listed : Array Bool) : Prop := ∀ (j : Nat) (p : Oper), ops[j]? = some p → listed.getD j true = true → ∀ e ∈ p.after.toList, Region.binds .any e = true → listed.getD e.on false = true
end Reg
end Go.Proofs.YtocnabpplbeafaaGreat
/- Regions with chains: the theorem, and the rules for an operation. -/
namespace Go.Proofs.YtocnabpplbeafaaGreat
open Go Go.RowKit Lou
namespace Reg
variable {P : Program} {ops : Array Oper}

structure J4 (ops : Array Oper) (FS : Ghost → Tmp → Value → World → Prop) (a0 : Act) (D : List Nat) (B : Nat) (w00 : World) (cs : List (List Stage)) (g : Ghost) (listed : Array Bool) (a : Act) (w : World) : Prop where
  size : a.tmps.size = a0.tmps.size
  defers : a.defers = a0.defers
  facts : ∀ t, Known ops listed t → FS g t (a.eval (.tmp t)) w
  wc : WC B w00 cs g listed a w
  rest : ∀ t, D.contains t = false → a.eval (.tmp t) = a0.eval (.tmp t)
  old : ∀ t, (∀ (j : Nat) (p : Oper), ops[j]? = some p → p.dst = some t → listed.getD j true = false) → a.eval (.tmp t) = a0.eval (.tmp t)
  closed : Closed ops listed

def Op4 (P : Program) (ops : Array Oper) (a0 : Act) (FS : Ghost → Tmp → Value → World → Prop) (B : Nat) (w00 : World) (cs : List (List Stage)) (i : Nat) (o : Oper) : Prop :=
  ∀ (g : Ghost) (listed : Array Bool) (a : Act) (w : World) (K : Act → World → Prop) (Q : Exit → Act → World → Prop), ops[i]? = some o → listed.size = ops.size → listed.getD i true = false → (∀ e ∈ o.after.toList, Region.binds .any e = true → listed.getD e.on false = true) → Closed ops listed →
    WC B w00 cs g listed a w → (∀ t, (o.looksAt ops).contains t = true → ahead ops o t = true → FS g t (a.eval (.tmp t)) w) → (∀ t, waits ops i t = true → a.eval (.tmp t) = a0.eval (.tmp t)) → (∀ d, o.dst = some d → d < a.tmps.size) →
    (∀ g' v w', (∀ t u, FS g t u w → FS g' t u w') → FSd (FS g') o.dst v w' → WC B w00 cs g' (listed.setIfInBounds i true) (a.put o.dst v) w' → K (a.put o.dst v) w') →
    (if Region.wanted o (yielded ops a.tmps) then o.wp P a w K Q ∨ (o.asks P a w ∧ LetsOut Q) else K (a.put o.dst undef) w)
def AllOp4 (P : Program) (ops : Array Oper) (a0 : Act) (FS : Ghost → Tmp → Value → World → Prop) (B : Nat) (w00 : World) (cs : List (List Stage)) : Nat → List Oper → Prop
  | _, [] => True
  | k, o :: r => Op4 P ops a0 FS B w00 cs k o ∧ AllOp4 P ops a0 FS B w00 cs (k + 1) r
theorem AllOp4.get {a0 : Act} {FS : Ghost → Tmp → Value → World → Prop} {B : Nat} {w00 : World} {cs : List (List Stage)} : ∀ {l : List Oper} {k : Nat}, AllOp4 P ops a0 FS B w00 cs k l → ∀ i o, l[i]? = some o → Op4 P ops a0 FS B w00 cs (k + i) o
  | [], _, _, i, o, h => by simp at h
  | x :: r, k, h, 0, o, ho => by
    simp at ho
    subst ho
    exact h.1
  | x :: r, k, h, i + 1, o, ho => by
    have := AllOp4.get h.2 i o (by simpa using ho)
    rw [show k + (i + 1) = k + 1 + i from by omega]
    exact this

section rules
variable {a0 : Act} {FS : Ghost → Tmp → Value → World → Prop} {B : Nat} {w00 : World} {cs : List (List Stage)} {i : Nat} {o : Oper}
/-- Operation i waits for the stage's. -/
def behind (ops : Array Oper) (i : Nat) : Option Nat → Bool
  | none => true
  | some j => edge ops i j
end rules
end Reg
end Go.Proofs.YtocnabpplbeafaaGreat
/- More rules for single operations of regions that draw their order. -/
namespace Go.Proofs.YtocnabpplbeafaaGreat
open Go Go.RowKit Lou
namespace Reg
variable {L : List (Nat × Fact)} {ops : Array Oper} {w0 : World} {o : Oper} {P : Program}
theorem l_add (x y : Operand) (T T' : TypeId) (k : IntKind) (m n r : Int) (ho : o.op = .binOp .add T x y T') (hT : Tryz.prog.underlying T = some (.int k)) (hx : Has ops (FSof L) o x (.int k m)) (hy : Has ops (FSof L) o y (.int k n)) (hr : k.wrap (m + n) = r) (hd : FD L o.dst = .val (.int k r)) : RunOk Tryz.prog ops (FSof L) w0 o :=
  run2 x y hx hy (fun ρ w h1 h2 => by subst hr; simp [execOp, ho, h1, h2, go_sem]) fun _ => fsd hd rfl
/-- A load whose run is known. -/
theorem l_loadV (x : Operand) (p : Addr) (T : TypeId) (v : Value) (ho : o.op = .load T x) (hx : Has ops (FSof L) o x (.pointer (some p))) (hload : ∀ w, Grow w0 w → (loadVar T p).run P w = .ok v w) (hd : FD L o.dst = .val v) : RunOk P ops (FSof L) w0 o :=
  l_run1W x (.val v) _ hx (fun ρ w hg h => ⟨v, w, by simp only [execOp, ho, h, Instr.loadAt, Instr.sureAddr, Sem.run_bind, Sem.run_pure, Result.andThen_ok, hload w hg], Grow.refl _, rfl⟩) hd
/-- A slice of at least 64 bytes as a pointer to a sector. -/
theorem l_s2a (x : Operand) (g q n c : Nat) (hn : 64 ≤ n) (ho : o.op = .sliceToArrayPointer 140 x) (hx : Has ops (FSof L) o x (.slice (some ⟨g, q, none⟩) n c)) (hd : FD L o.dst = .val (.pointer (some ⟨g, q, none⟩))) : RunOk Tryz.prog ops (FSof L) w0 o := by
  refine run1 x hx (fun ρ w h => ?_) fun _ => fsd hd rfl
  have hn2 : ¬ n < 64 := by omega
  simp [execOp, ho, h, go_sem, Instr.arrayAt, run_underlying Tryz.underlying140, Result.andThen, hn2]
theorem l_eqArr (x y : Operand) (T : TypeId) (xs ys : List UInt8) (hx1 : xs.length = 64) (hy1 : ys.length = 64) (ho : o.op = .binOp .eql 140 x y T) (hx : Has ops (FSof L) o x (.agg (xs.map b8).toArray)) (hy : Has ops (FSof L) o y (.agg (ys.map b8).toArray)) (hd : FD L o.dst = .val (.bool (xs == ys))) : RunOk Tryz.prog ops (FSof L) w0 o := by
  refine run2 x y hx hy (fun ρ w h1 h2 => ?_) fun _ => fsd hd rfl
  have hr : (binOp .eql 140 (.agg (xs.map b8).toArray) (.agg (ys.map b8).toArray)).run Tryz.prog w = .ok (.bool (xs == ys)) w :=
    run_eql_bytes w 140 5 64 Tryz.underlying140 Tryz.underlying5 (fun w => by simp [go_sem]) xs ys hx1 hy1
  have hm : Tryz.prog.eqGuardType Tryz.prog.depth 140 = false := by kernel_rfl
  simp only [execOp, ho, h1, h2, Sem.run_bind, run_eqGuard_agg w .eql 140 x y _ _ hm, Result.andThen_ok, hr, Sem.run_pure]
end Reg
end Go.Proofs.YtocnabpplbeafaaGreat
/- Regions with chains: facts on slots, stages and rules for rows of bytes and for variables. -/
namespace Go.Proofs.YtocnabpplbeafaaGreat
open Go Go.RowKit Lou
namespace Reg

inductive GFact where
  | val (v : Value)
  | any
  | gp (p : Ghost → Value → World → Prop) (h1 : ∀ g v w w', p g v w → Grow w w' → p g v w') (h2 : ∀ g k gb v w w', Lt g w → w.grownBy w' (g k) → (gb = g k ∨ ∀ b, gb = some b → w.heap.size ≤ b) → p g v w → p (upd g k gb) v w')
def GFact.toFact (g : Ghost) : GFact → Fact
  | .val v => .val v
  | .any => .any
  | .gp p h1 _ => .pred (p g) (h1 g)
def factsG (L : List (Nat × GFact)) (g : Ghost) : List (Nat × Fact) := L.map fun x => (x.1, x.2.toFact g)
/-- Bytes that lie in no block that still changes. -/
def resX (l : List UInt8) (g : Ghost) (v : Value) (w : World) : Prop := ∃ A c, v = .slice A l.length c ∧ InB w w.heap.size A c l ∧ ∀ ad, A = some ad → ad.block < w.heap.size ∧ ∀ k, g k ≠ some ad.block
theorem resX_grow (l : List UInt8) : ∀ g v w w', resX l g v w → Grow w w' → resX l g v w' := by
  rintro g v w w' ⟨A, c, rfl, h, ha⟩ hg
  exact ⟨A, c, rfl, (h.below hg).more hg.size, fun ad e => ⟨Nat.lt_of_lt_of_le (ha ad e).1 hg.size, (ha ad e).2⟩⟩
theorem resX_stage (l : List UInt8) : ∀ g k gb v w w', Lt g w → w.grownBy w' (g k) → (gb = g k ∨ ∀ b, gb = some b → w.heap.size ≤ b) → resX l g v w → resX l (upd g k gb) v w' := by
  rintro g k gb v w w' hlt hg hb ⟨A, c, rfl, h, ha⟩
  refine ⟨A, c, rfl, ⟨h.le, h.max, h.nil, fun h0 => ?_⟩, fun ad e => ⟨Nat.lt_of_lt_of_le (ha ad e).1 hg.size, fun j => ?_⟩⟩
  · obtain ⟨b, o, hA, hb', hc⟩ := h.lies h0
    refine ⟨b, o, hA, Nat.lt_of_lt_of_le hb' hg.size, fun j hj => ?_⟩
    rw [← hc j hj]
    exact World.cell?_of_block (hg.block b hb' (fun e => (ha _ hA).2 k e.symm))
  · unfold upd
    split
    · rcases hb with rfl | hb
      · exact (ha ad e).2 k
      · intro e2
        have h3 := hb _ e2
        have := (ha ad e).1
        omega
    · exact (ha ad e).2 j
abbrev GFact.res (l : List UInt8) : GFact := .gp (resX l) (resX_grow l) (resX_stage l)
theorem Lt.grow {g : Ghost} {w w' : World} (h : Lt g w) (hg : Grow w w') : Lt g w' := fun k b hb => Nat.lt_of_lt_of_le (h k b hb) hg.size

/-- A row of bytes, as a stage. -/
def rowSt (i : Option Nat) (s : Src) (B : Nat) (l : List UInt8) : Stage :=
  ⟨i, s, fun v w => OwnB w B v l, Value.ownBlock, fun v w w' h hb => by
    refine ⟨h.1, ?_⟩
    rcases h.2 with h | ⟨g, cap, cur, h1, h2, h3, h4⟩
    · exact .inl h
    · exact .inr ⟨g, cap, cur, h1, h2, (hb g (by rw [h1]; rfl)).trans h3, h4⟩, fun v w k h hk => (World.ownsRow.lt h k hk).2⟩
/-- A variable's block. -/
def ptrBlock : Value → Option Nat
  | .pointer (some a) => some a.block
  | _ => none
def varSt (i : Option Nat) (s : Src) (T : TypeId) (cs : Array Value) : Stage :=
  ⟨i, s, fun v w => ∃ b, v = .pointer (some ⟨b, 0, none⟩) ∧ BlkIs w b T cs, ptrBlock, fun v w w' h hb => by
    obtain ⟨b, rfl, h⟩ := h
    exact ⟨b, rfl, (hb b rfl).trans h⟩, fun v w k h hk => by
    obtain ⟨b, rfl, h⟩ := h
    injection hk with hk
    subst hk
    exact h.lt⟩
section rules
variable {ops : Array Oper} {a0 : Act} {GL : List (Nat × GFact)} {B : Nat} {w00 : World} {cs : List (List Stage)} {i : Nat} {o : Oper} {P : Program}
abbrev FSG (GL : List (Nat × GFact)) : Ghost → Tmp → Value → World → Prop := fun g => FSof (factsG GL g)
/-- What stands at a region's beginning where every chain begins in it. -/
theorem WC.start {w : World} (hcs : (cs.all fun c => c.all fun x => x.i.isSome) = true) (hB : Below B w00 w) (hb : B ≤ w.heap.size) (n : Nat) (a : Act) : WC B w00 cs (fun _ => none) (Array.replicate n false) a w := by
  refine ⟨hB, hb, ?_, fun _ _ => rfl, fun _ _ _ _ h => by (cases h), fun _ _ h => by cases h⟩
  intro k c hc
  have : current (Array.replicate n false) c = none := by
    rw [List.all_eq_true] at hcs
    have h1 := hcs c (List.mem_of_getElem? hc)
    clear hc
    induction c with
    | nil => rfl
    | cons x r ih =>
      simp only [List.all_cons, Bool.and_eq_true] at h1
      have hx : x.done (Array.replicate n false) = false := by
        unfold Stage.done
        cases hxi : x.i with
        | none => rw [hxi] at h1; cases h1.1
        | some j => simp [Array.getD]
      simp only [current, hx]
      exact ih h1.2
  rw [this]
  rfl
end rules
end Reg
end Go.Proofs.YtocnabpplbeafaaGreat
/- A region whose last operations wait for all ahead of them: facts for the others, then a plain list. -/
namespace Go.Proofs.YtocnabpplbeafaaGreat
open Go Go.RowKit Lou
namespace Reg
variable {P : Program} {ops : Array Oper}

/-- From m on, each operation waits for all ahead of it. -/
def tailOk (ops : Array Oper) (m : Nat) : Bool := (List.range ops.size).all fun i => decide (i < m) || (List.range i).all fun j => edge ops i j
theorem tail_edge {m i j : Nat} (h : tailOk ops m = true) (hi : i < ops.size) (hm : m ≤ i) (hj : j < i) : edge ops i j = true := by
  unfold tailOk at h
  rw [List.all_eq_true] at h
  have := h i (by simpa using hi)
  simp only [Bool.or_eq_true, decide_eq_true_eq, List.all_eq_true] at this
  rcases this with h | h
  · omega
  · exact h j (by simpa using hj)
theorem listed_of_edge {i j : Nat} {o : Oper} {listed : Array Bool} (he : edge ops i j = true) (ho : ops[i]? = some o) (hed : ∀ e ∈ o.after.toList, Region.binds .any e = true → listed.getD e.on false = true) : listed.getD j false = true := by
  simp only [edge, ho, List.any_eq_true, Bool.and_eq_true, beq_iff_eq] at he
  obtain ⟨e, hm, hb, rfl⟩ := he
  exact hed e hm hb

/-- One operation, in whatever order, for one post. -/
def StepQ (P : Program) (ops : Array Oper) (Q : Exit → Act → World → Prop) (Inv : Array Bool → Act → World → Prop) (i : Nat) (o : Oper) : Prop :=
  ∀ (listed : Array Bool) (a : Act) (w : World) (K : Act → World → Prop), listed.size = ops.size → listed.getD i true = false → (∀ e ∈ o.after.toList, Region.binds .any e = true → listed.getD e.on false = true) →
    Inv listed a w → (∀ a' w', Inv (listed.setIfInBounds i true) a' w' → K a' w') →
    (if Region.wanted o (yielded ops a.tmps) then o.wp P a w K Q ∨ (o.asks P a w ∧ LetsOut Q) else K (a.put o.dst undef) w)
theorem region_invQ (hm : P.follows .mixedOrders = true) (hcov : backs ops = true) {id : Nat} {a0 : Act} {w0 : World} {Q : Exit → Act → World → Prop} (Inv : Array Bool → Act → World → Prop)
    (h0 : Inv (Array.replicate ops.size false) a0 w0.drew) (hstep : ∀ i o, ops[i]? = some o → StepQ P ops Q Inv i o)
    (hend : ∀ listed a w, listed.size = ops.size → (∀ i, i < ops.size → listed.getD i true = true) → Inv listed a w → Q .normal a w) :
    (Code.region id ops true).wp P Q a0 w0 := by
  refine wp_region_any hm ?_
  have key : ∀ (fuel : Nat) (listed : Array Bool) (a : Act) (w : World), listed.size = ops.size → left listed ≤ fuel → Inv listed a w → wpAny P .any ops Q fuel listed a w := by
    intro fuel
    have hdone : ∀ (listed : Array Bool) (a : Act) (w : World), listed.size = ops.size → Inv listed a w → Region.ready .any ops listed = [] → Q .normal a w := by
      intro listed a w hs hJ hr
      refine hend listed a w hs ?_ hJ
      intro i
      induction i using Nat.strongRecOn with
      | _ i ih =>
        intro hi
        cases hl : listed.getD i true with
        | true => rfl
        | false =>
          exfalso
          have : i ∈ Region.ready .any ops listed := by
            unfold Region.ready
            simp only [List.mem_filter, List.mem_range, Bool.and_eq_true, Bool.not_eq_true']
            refine ⟨hi, hl, ?_⟩
            have ho : ops[i]? = some ops[i] := Array.getElem?_eq_getElem hi
            simp only [ho, Option.map_some, Option.getD_some]
            rw [Array.all_eq_true_iff_forall_mem]
            intro e he
            have hc := backs_spec hcov ho e (Array.mem_toList_iff.2 he)
            cases hb : Region.binds .any e with
            | false => simp
            | true =>
              have hlt := hc hb
              have h1 := ih e.on hlt (by omega)
              have h2 : e.on < listed.size := by omega
              simp only [Array.getD, h2, dif_pos] at h1 ⊢
              simpa using h1
          rw [hr] at this
          cases this
    induction fuel with
    | zero =>
      intro listed a w hs hf hJ
      have hr : Region.ready .any ops listed = [] := by
        rcases hr : Region.ready .any ops listed with _ | ⟨i, r⟩
        · rfl
        · exfalso
          obtain ⟨o, ho, hl, _⟩ := ready_mem (ops := ops) (listed := listed) (i := i) (by rw [hr]; simp)
          have hi : i < listed.size := by rw [hs]; exact (Array.getElem?_eq_some_iff.1 ho).1
          have hmem : listed[i] ∈ listed.toList.filter (! ·) := by
            rw [List.mem_filter]
            refine ⟨by simp, ?_⟩
            have hl' : listed[i] = false := by simpa [Array.getD, hi] using hl
            simp [hl']
          have : 0 < left listed := List.length_pos_of_mem hmem
          omega
      exact ⟨hr, hdone listed a w hs hJ hr⟩
    | succ fuel ih =>
      intro listed a w hs hf hJ
      refine ⟨hdone listed a w hs hJ, fun i hi => ?_⟩
      obtain ⟨o, ho, hl, hedges⟩ := ready_mem hi
      have hisz : i < listed.size := by rw [hs]; exact (Array.getElem?_eq_some_iff.1 ho).1
      have hnext : ∀ a' w', Inv (listed.setIfInBounds i true) a' w' → wpAny P .any ops Q fuel (listed.setIfInBounds i true) a' w' := by
        intro a' w' hv
        refine ih _ _ _ (by simpa using hs) ?_ hv
        have hl' : listed[i] = false := by simpa [Array.getD, hisz] using hl
        have : left (listed.setIfInBounds i true) < left listed := by
          unfold left
          rw [Array.toList_setIfInBounds]
          have e1 : listed.toList = listed.toList.take i ++ false :: listed.toList.drop (i + 1) := by
            have h3 : listed.toList[i]'(by simpa using hisz) = false := by simpa using hl'
            conv => lhs; rw [← List.take_append_drop i listed.toList, List.drop_eq_getElem_cons (by simpa using hisz), h3]
          rw [List.set_eq_take_append_cons_drop, if_pos (by simpa using hisz)]
          conv => rhs; rw [e1]
          simp
        omega
      have := hstep i o ho listed a w (fun a' w' => wpAny P .any ops Q fuel (listed.setIfInBounds i true) a' w') hs hl hedges hJ hnext
      unfold wpOp
      simp only [ho]
      exact this
  refine key ops.size _ a0 _ (by simp) ?_ h0
  unfold left
  simp
/-- What is left of a list of operations, one behind the other. -/
def Rest (P : Program) (ops : Array Oper) (Q : Exit → Act → World → Prop) (i : Nat) (a : Act) (w : World) : Prop := wpList P ops Q (ops.toList.drop i) a w

theorem region_tail (hm : P.follows .mixedOrders = true) (hcov : backs ops = true) {id : Nat} {a0 : Act} {w0 : World} {Q : Exit → Act → World → Prop} (n : Nat) (hn : a0.tmps.size = n) (hdst : dstsIn ops n = true) (m : Nat) (hmt : m ≤ ops.size) (ht : tailOk ops m = true) (hgd : ((ops.toList.drop m).all fun o => o.guard.isNone) = true) (D : List Nat) (hD : dstsAre (ops.extract 0 m) D = true)
    (FS : Tmp → Value → World → Prop) (hstab : ∀ t v w w', FS t v w → Grow w w' → FS t v w') (hah : (ops.toList.take m).all (fun o => (o.looksAt ops).all (ahead ops o)) = true)
    (hstart : ∀ t, (∀ o ∈ ops.toList.take m, o.dst ≠ some t) → FS t (a0.eval (.tmp t)) w0) (hok : AllOk P ops FS w0 (ops.toList.take m))
    (hend : ∀ a w, a.tmps.size = n → a.defers = a0.defers → Grow w0 w → (∀ t, FS t (a.eval (.tmp t)) w) → (∀ t, D.contains t = false → a.eval (.tmp t) = a0.eval (.tmp t)) → Rest P ops Q m a w) :
    (Code.region id ops true).wp P Q a0 w0 := by
  have hdst' : ∀ o ∈ ops.toList, ∀ d, o.dst = some d → d < n := by
    intro o ho d hd
    unfold dstsIn at hdst
    rw [List.all_eq_true] at hdst
    have := hdst o ho
    simpa [hd] using this
  have hD' : ∀ (i : Nat) (o : Oper), i < m → ops[i]? = some o → ∀ d, o.dst = some d → D.contains d = true := by
    intro i o him ho d hd
    unfold dstsAre at hD
    rw [List.all_eq_true] at hD
    have hmem : o ∈ (ops.extract 0 m).toList := by
      simp only [Array.toList_extract, List.extract_eq_take_drop, List.drop_zero, Nat.sub_zero]
      have : (ops.toList.take m)[i]? = some o := by
        rw [List.getElem?_take, if_pos him]
        simpa using ho
      exact List.mem_of_getElem? this
    have := hD o hmem
    simpa [hd] using this
  let J1 : Array Bool → Act → World → Prop := fun listed a w => a.tmps.size = n ∧ a.defers = a0.defers ∧ Grow w0 w ∧ (∀ t, (∀ (j : Nat) (p : Oper), j < m → ops[j]? = some p → p.dst = some t → listed.getD j true = true) → FS t (a.eval (.tmp t)) w) ∧ (∀ t, D.contains t = false → a.eval (.tmp t) = a0.eval (.tmp t))
  let Inv : Array Bool → Act → World → Prop := fun listed a w => ((∀ j, m ≤ j → j < ops.size → listed.getD j true = false) ∧ J1 listed a w) ∨ ∃ i, m < i ∧ i ≤ ops.size ∧ (∀ j, j < i → listed.getD j true = true) ∧ (∀ j, i ≤ j → j < ops.size → listed.getD j true = false) ∧ Rest P ops Q i a w
  have hrest : ∀ listed a w, (∀ j, j < m → listed.getD j true = true) → J1 listed a w → Rest P ops Q m a w := by
    rintro listed a w hall ⟨h1, h2, h3, h4, h5⟩
    exact hend a w h1 h2 h3 (fun t => h4 t fun j p hj _ _ => hall j hj) h5
  refine region_invQ hm hcov Inv ?_ ?_ ?_
  · left
    refine ⟨fun j _ hj => by simp [Array.getD, hj], hn, rfl, Grow.drew w0, ?_, fun _ _ => rfl⟩
    intro t ht
    refine hstab t _ w0 _ (hstart t ?_) (Grow.drew w0)
    intro o ho hd
    obtain ⟨i, hi, rfl⟩ := List.getElem_of_mem ho
    have hi' : i < m ∧ i < ops.size := by simp at hi; omega
    have := ht i ops[i] hi'.1 (Array.getElem?_eq_getElem hi'.2) (by simpa using hd)
    simp [Array.getD, hi'.2] at this
  · intro i o ho listed a w K hs hl hedges hInv hK
    have hisz0 : i < ops.size := (Array.getElem?_eq_some_iff.1 ho).1
    have hisz : i < listed.size := by omega
    have hom : o ∈ ops.toList := List.mem_of_getElem? (by simpa using ho)
    have hff : ∀ j, j < ops.size → (listed.getD j true = true ↔ listed.getD j false = true) := by
      intro j hj
      have : j < listed.size := by omega
      simp [Array.getD, this]
    have hset : ∀ j, j < ops.size → j ≠ i → (listed.setIfInBounds i true).getD j true = listed.getD j true := by
      intro j _ hji
      simp [Array.getD_eq_getD_getElem?, Ne.symm hji]
    have hseti : (listed.setIfInBounds i true).getD i true = true := by
      simp [Array.getD_eq_getD_getElem?, hisz]
    by_cases him : i < m
    · rcases hInv with ⟨hno, h1, h2, h3, h4, h5⟩ | ⟨q, hq, _, hall, _⟩
      · have hlook : ∀ t, (o.looksAt ops).contains t = true → FS t (a.eval (.tmp t)) w := by
          intro t htl
          refine h4 t ?_
          intro j p hj hp hd
          have hmem : o ∈ ops.toList.take m := by
            have : (ops.toList.take m)[i]? = some o := by
              rw [List.getElem?_take, if_pos him]
              simpa using ho
            exact List.mem_of_getElem? this
          rw [List.all_eq_true] at hah
          have h6 := hah o hmem
          rw [List.all_eq_true] at h6
          obtain ⟨e, he, hb, rfl⟩ := ahead_spec (h6 t (by simpa using htl)) hp hd
          rw [hff _ (Array.getElem?_eq_some_iff.1 hp).1]
          exact hedges e he hb
        have hmem : o ∈ ops.toList.take m := by
          have : (ops.toList.take m)[i]? = some o := by
            rw [List.getElem?_take, if_pos him]
            simpa using ho
          exact List.mem_of_getElem? this
        refine AllOk.get hok o hmem a w K Q h3 hlook ?_
        intro v w' hg hv
        refine hK _ w' (.inl ⟨?_, ?_, ?_, h3.trans hg, ?_, ?_⟩)
        · intro j hmj hj
          rw [hset j hj (by omega)]
          exact hno j hmj hj
        · cases hd : o.dst with
          | none => simpa [Act.put] using h1
          | some d => simpa [Act.put] using h1
        · cases hd : o.dst with
          | none => simpa [Act.put] using h2
          | some d => simpa [Act.put] using h2
        · intro t htk
          by_cases hdt : o.dst = some t
          · rw [hdt] at hv ⊢
            rw [eval_put_same (by rw [h1]; exact hdst' o hom t hdt)]
            exact hv
          · have := hstab t _ w w' (h4 t fun j p hj hp hd => by
              have h7 := htk j p hj hp hd
              have hji : j ≠ i := by
                intro e
                subst e
                rw [ho] at hp
                injection hp with hp
                subst hp
                exact hdt hd
              rw [hset j (Array.getElem?_eq_some_iff.1 hp).1 hji] at h7
              exact h7) hg
            cases hd : o.dst with
            | none => simpa [Act.put] using this
            | some d =>
              rw [eval_put_other (by intro e; subst e; exact hdt hd)]
              exact this
        · intro t htD
          cases hd : o.dst with
          | none => simpa [Act.put] using h5 t htD
          | some d =>
            rw [eval_put_other (by intro e; subst e; rw [hD' i o him ho t hd] at htD; cases htD)]
            exact h5 t htD
      · exfalso
        rw [hall i (by omega)] at hl
        cases hl
    · have hm' : m ≤ i := by omega
      have hbefore : ∀ j, j < i → listed.getD j true = true := by
        intro j hj
        rw [hff j (by omega)]
        exact listed_of_edge (tail_edge ht hisz0 hm' hj) ho hedges
      have hR : Rest P ops Q i a w ∧ (∀ j, i ≤ j → j < ops.size → listed.getD j true = false) := by
        rcases hInv with ⟨hno, hJ⟩ | ⟨q, hq, hqs, hall, hnone, hR⟩
        · have : i = m := by
            rcases Nat.lt_or_ge m i with h | h
            · have h8 := hbefore m h
              rw [hno m (Nat.le_refl _) (by omega)] at h8
              cases h8
            · omega
          subst this
          exact ⟨hrest listed a w hbefore hJ, hno⟩
        · have : i = q := by
            rcases Nat.lt_trichotomy i q with h | h | h
            · rw [hall i h] at hl; cases hl
            · exact h
            · have h8 := hbefore q h
              rw [hnone q (Nat.le_refl _) (by omega)] at h8
              cases h8
          subst this
          exact ⟨hR, hnone⟩
      obtain ⟨hR, hnone⟩ := hR
      have hdrop : ops.toList.drop i = o :: ops.toList.drop (i + 1) := by
        have hi2 : i < ops.toList.length := by simpa using hisz0
        rw [List.drop_eq_getElem_cons hi2]
        congr 1
        have : ops.toList[i]? = some o := by simpa using ho
        rw [List.getElem?_eq_getElem hi2] at this
        injection this
      unfold Rest at hR
      rw [hdrop] at hR
      have hgn : o.guard = none := by
        rw [List.all_eq_true] at hgd
        have hmem : o ∈ ops.toList.drop m := by
          have : (ops.toList.drop m)[i - m]? = some o := by
            rw [List.getElem?_drop, show m + (i - m) = i from by omega]
            simpa using ho
          exact List.mem_of_getElem? this
        have := hgd o hmem
        cases hg : o.guard with
        | none => rfl
        | some x => rw [hg] at this; cases this
      have hw : Region.wanted o (yielded ops a.tmps) = true := by simp [Region.wanted, hgn]
      simp only [wpList, hw, if_true] at hR
      rw [if_pos hw]
      refine Or.imp ?_ (fun x => x) hR
      refine Oper.wp_mono ?_
      intro a' w' h9
      refine hK a' w' (.inr ⟨i + 1, by omega, by omega, ?_, ?_, h9⟩)
      · intro j hj
        by_cases e : j = i
        · subst e
          exact hseti
        · rw [hset j (by omega) e]
          exact hbefore j (by omega)
      · intro j hj hjs
        rw [hset j hjs (by omega)]
        exact hnone j (by omega) hjs
  · rintro listed a w hs hall (⟨hno, hJ⟩ | ⟨q, hq, hqs, hallq, hnone, hR⟩)
    · have hR := hrest listed a w (fun j hj => hall j (by omega)) hJ
      rcases Nat.lt_or_ge m ops.size with h | h
      · have := hall m h
        rw [hno m (Nat.le_refl _) h] at this
        cases this
      · unfold Rest at hR
        rw [List.drop_of_length_le (by simpa using h)] at hR
        exact hR
    · rcases Nat.lt_or_ge q ops.size with h | h
      · have := hall q h
        rw [hnone q (Nat.le_refl _) h] at this
        cases this
      · unfold Rest at hR
        rw [List.drop_of_length_le (by simpa using h)] at hR
        exact hR
/-- region_tail by two lists of facts. -/
theorem region_tail_facts (hm : P.follows .mixedOrders = true) (hcov : backs ops = true) {id : Nat} {a0 : Act} {w0 : World} {Q : Exit → Act → World → Prop} (n : Nat) (hn : a0.tmps.size = n) (hdst : dstsIn ops n = true) (m : Nat) (hmt : m ≤ ops.size) (ht : tailOk ops m = true) (hgd : ((ops.toList.drop m).all fun o => o.guard.isNone) = true) (D : List Nat) (hD : dstsAre (ops.extract 0 m) D = true)
    (V W : List (Nat × Fact)) (hV : StartOk a0 w0 V) (hW : (W.all fun p => written (ops.extract 0 m) p.1) = true) (hah : (ops.toList.take m).all (fun o => (o.looksAt ops).all (ahead ops o)) = true) (hok : AllOk P ops (FSof (V ++ W)) w0 (ops.toList.take m))
    (hend : ∀ a w, a.tmps.size = n → a.defers = a0.defers → Grow w0 w → (∀ t, FSof (V ++ W) t (a.eval (.tmp t)) w) → (∀ t, D.contains t = false → a.eval (.tmp t) = a0.eval (.tmp t)) → Rest P ops Q m a w) :
    (Code.region id ops true).wp P Q a0 w0 := by
  refine region_tail hm hcov n hn hdst m hmt ht hgd D hD (FSof (V ++ W)) (FSof.stable _) hah ?_ hok hend
  intro t h
  refine start_fact (ops := ops.extract 0 m) V W hV hW t ?_
  intro o ho
  refine h o ?_
  simpa [Array.toList_extract, List.extract_eq_take_drop] using ho
end Reg
end Go.Proofs.YtocnabpplbeafaaGreat
/- frame.front. -/
namespace Go.Proofs.YtocnabpplbeafaaGreat
open Go Go.RowKit Lou
namespace Reg
variable {L : List (Nat × Fact)} {ops : Array Oper} {w0 : World} {o : Oper}
theorem l_build6 (t1 t2 t3 t4 t5 t6 : Tmp) (l1 l2 l3 l4 l5 l6 : List UInt8) (ho : o.op = .buildSlice 177 6 #[(0, .tmp t1), (1, .tmp t2), (2, .tmp t3), (3, .tmp t4), (4, .tmp t5), (5, .tmp t6)])
    (c1 : (o.looksAt ops).contains t1 = true) (c2 : (o.looksAt ops).contains t2 = true) (c3 : (o.looksAt ops).contains t3 = true) (c4 : (o.looksAt ops).contains t4 = true) (c5 : (o.looksAt ops).contains t5 = true) (c6 : (o.looksAt ops).contains t6 = true)
    (f1 : factOf L t1 = .res l1) (f2 : factOf L t2 = .res l2) (f3 : factOf L t3 = .res l3) (f4 : factOf L t4 = .res l4) (f5 : factOf L t5 = .res l5) (f6 : factOf L t6 = .res l6) (hd : FD L o.dst = .pred (Lists [l1, l2, l3, l4, l5, l6]) (lists_stable _)) : RunOk Tryz.prog ops (FSof L) w0 o := by
  intro a w K Q hG hl hK
  have g1 : (factOf L t1).holds (a.eval (.tmp t1)) w := hl t1 c1
  have g2 : (factOf L t2).holds (a.eval (.tmp t2)) w := hl t2 c2
  have g3 : (factOf L t3).holds (a.eval (.tmp t3)) w := hl t3 c3
  have g4 : (factOf L t4).holds (a.eval (.tmp t4)) w := hl t4 c4
  have g5 : (factOf L t5).holds (a.eval (.tmp t5)) w := hl t5 c5
  have g6 : (factOf L t6).holds (a.eval (.tmp t6)) w := hl t6 c6
  rw [f1] at g1
  obtain ⟨A1, k1, e1, h1⟩ := g1
  rw [f2] at g2
  obtain ⟨A2, k2, e2, h2⟩ := g2
  rw [f3] at g3
  obtain ⟨A3, k3, e3, h3⟩ := g3
  rw [f4] at g4
  obtain ⟨A4, k4, e4, h4⟩ := g4
  rw [f5] at g5
  obtain ⟨A5, k5, e5, h5⟩ := g5
  rw [f6] at g6
  obtain ⟨A6, k6, e6, h6⟩ := g6
  have hN := Lists.new (w := w) [((A1, k1), l1), ((A2, k2), l2), ((A3, k3), l3), ((A4, k4), l4), ((A5, k5), l5), ((A6, k6), l6)] (by
    intro x hx
    simp only [List.mem_cons, List.not_mem_nil, or_false] at hx
    rcases hx with rfl | rfl | rfl | rfl | rfl | rfl
    · exact h1
    · exact h2
    · exact h3
    · exact h4
    · exact h5
    · exact h6)
  have key : ∀ ρ : Operand → Value, ρ (.tmp t1) = .slice A1 l1.length k1 → ρ (.tmp t2) = .slice A2 l2.length k2 → ρ (.tmp t3) = .slice A3 l3.length k3 → ρ (.tmp t4) = .slice A4 l4.length k4 → ρ (.tmp t5) = .slice A5 l5.length k5 → ρ (.tmp t6) = .slice A6 l6.length k6 →
      (execOp ρ o).run Tryz.prog w = .ok (.value (.slice (some ⟨w.heap.size, 0, none⟩) 6 6)) (w.alloc (.cells #[.slice A1 l1.length k1, .slice A2 l2.length k2, .slice A3 l3.length k3, .slice A4 l4.length k4, .slice A5 l5.length k5, .slice A6 l6.length k6] 38)) :=
    fun ρ h1 h2 h3 h4 h5 h6 => by simp [execOp, ho, h1, h2, h3, h4, h5, h6, go_sem, Result.andThen]
  unfold Oper.wp
  rw [key _ e1 e2 e3 e4 e5 e6]
  exact hK _ _ (Grow.alloc _ _) (fsd hd hN)
/-- A call of two arguments, the second known by a predicate. -/
theorem l_callVP {P : Program} (f : FuncId) (x : Operand) (t : Tmp) (v1 : Value) (p : Value → World → Prop) (hp : ∀ v w w', p v w → Grow w w' → p v w') (ts : Array TypeId) (ho : o.op = .call { callee := .value (.func f), args := #[x, .tmp t], argTypes := ts }) (hent : ∀ args w, (callFunc f args).run P w = .ok (.enter f args) w)
    (g : Fact) (hx : Has ops (FSof L) o x v1) (hc : (o.looksAt ops).contains t = true) (hF : factOf L t = .pred p hp)
    (hC : ∀ w u, Grow w0 w → p u w → Calls P f #[v1, u] w fun e w' => ∃ v, e = .returned v ∧ Grow w w' ∧ g.holds v w') (hd : FD L o.dst = g) : RunOk P ops (FSof L) w0 o := by
  intro a w K Q hG hl hK
  have h' : (factOf L t).holds (a.eval (.tmp t)) w := hl t hc
  rw [hF] at h'
  have e1 := hx a w hl
  have hr : (execOp a.eval o).run P w = .ok (.enter f #[v1, a.eval (.tmp t)]) w := by
    have ef : a.eval (.func f) = .func (.func f) #[] #[] := rfl
    have h := hent #[v1, a.eval (.tmp t)] w
    simp [execOp, ho, resolve, e1, ef, Deferred.ofValue, invoke, h]
  unfold Oper.wp
  rw [hr, Oper.upon_enter]
  refine (hC w _ hG h').mono ?_
  rintro e w' ⟨v, rfl, hg, hf⟩
  exact hK v w' hg (fsd hd hf)
/-- Any operation of one slot known by a predicate and another operand. -/
theorem l_runP (t : Tmp) (y : Operand) (p : Value → World → Prop) (hp : ∀ v w w', p v w → Grow w w' → p v w') (v2 : Value) (g : Fact) (hc : (o.looksAt ops).contains t = true) (hF : factOf L t = .pred p hp) (hy : Has ops (FSof L) o y v2) {P : Program}
    (hrun : ∀ (ρ : Operand → Value) (w : World), Grow w0 w → p (ρ (.tmp t)) w → ρ y = v2 → ∃ r w', (execOp ρ o).run P w = .ok (.value r) w' ∧ Grow w w' ∧ g.holds r w') (hd : FD L o.dst = g) : RunOk P ops (FSof L) w0 o := by
  intro a w K Q hG hl hK
  have h' : (factOf L t).holds (a.eval (.tmp t)) w := hl t hc
  rw [hF] at h'
  obtain ⟨r, w', h1, h2, h3⟩ := hrun a.eval w hG h' (hy a w hl)
  unfold Oper.wp
  rw [h1]
  exact hK r w' h2 (fsd hd h3)
/-- A flag's function. -/
def FlagFn (f : Bool) (v : Value) (w : World) : Prop := ∃ g, v = .func (.func 139) #[] #[.pointer (some ⟨g, 0, none⟩)] ∧ BlkIs w g 5 #[.int .u8 (((if f then 1 else 0 : UInt8)).toNat : Int)]
theorem flagFn_stable (f : Bool) : ∀ v w w', FlagFn f v w → Grow w w' → FlagFn f v w' := by
  rintro v w w' ⟨g, rfl, h⟩ hg
  exact ⟨g, rfl, h.below hg h.lt⟩
theorem flagsAt_stable : ∀ v w w', FlagsAt w v → Grow w w' → FlagsAt w' v := fun _ _ _ h hg => h.below hg
theorem run_flag (f : Bool) {ρ : Operand → Value} {w : World} {t : Tmp} {y : Operand} (ho : o.op = .lookup 175 (.tmp t) y false) (h : FlagsAt w (ρ (.tmp t))) (hy : ρ y = .bool f) : ∃ r, (execOp ρ o).run Tryz.prog w = .ok (.value r) w ∧ FlagFn f r w := by
  obtain ⟨r, g0, g1, clock, hv, h1, h2, h3⟩ := h
  cases f with
  | false =>
    have := run_get (P := Tryz.prog) Tryz.underlying175 Tryz.underlying4 (key_bool false) h1 (i := 0) rfl
    exact ⟨_, by simp [execOp, ho, hv, hy, this, Result.andThen], g0, rfl, h2⟩
  | true =>
    have := run_get (P := Tryz.prog) Tryz.underlying175 Tryz.underlying4 (key_bool true) h1 (i := 1) rfl
    exact ⟨_, by simp [execOp, ho, hv, hy, this, Result.andThen], g1, rfl, h3⟩
theorem l_callFlag (f : Bool) (t : Tmp) (ts : Array TypeId) (ho : o.op = .call { callee := .value (.tmp t), args := #[], argTypes := ts }) (hc : (o.looksAt ops).contains t = true) (hF : factOf L t = .pred (FlagFn f) (flagFn_stable f)) (hd : FD L o.dst = .res [if f then 1 else 0]) : RunOk Tryz.prog ops (FSof L) w0 o := by
  intro a w K Q hG hl hK
  have h' : (factOf L t).holds (a.eval (.tmp t)) w := hl t hc
  rw [hF] at h'
  obtain ⟨g, hv, hb⟩ := h'
  have hr : (execOp a.eval o).run Tryz.prog w = .ok (.enter 139 #[.pointer (some ⟨g, 0, none⟩)]) w := by
    have h := enters_of Tryz.func139 (by kernel_rfl) rfl #[.pointer (some ⟨g, 0, none⟩)] w
    simp [execOp, ho, resolve, hv, Deferred.ofValue, invoke, h]
  unfold Oper.wp
  rw [hr, Oper.upon_enter]
  refine (gives_res (flag11_gives w g _ hb)).mono ?_
  rintro e w' ⟨v, rfl, hg, hf⟩
  exact hK v w' hg (fsd hd hf)
end Reg
set_option maxRecDepth 100000 in
set_option maxHeartbeats 8000000 in
theorem front_gives (e i p z n : Nat) (f : Bool) (A : Option Addr) (k : Nat) (y : List UInt8) (w : World) (hi : i ≤ 2000) (hp : p ≤ 2000) (hz : z ≤ 2000) (hin : InB w w.heap.size A k y) (hy : y.length = 512) :
    Calls Tryz.prog 89 #[.agg (frCells e i p f z n A y.length k)] w fun x w' => x = .returned (.agg ((sectB (partB e i p f z n) y).map b8).toArray) ∧ Below w.heap.size w w' := by
  have hi32 := conv_3_45 i (by omega)
  have hp32 := conv_3_45 p (by omega)
  have hz32 := conv_3_45 z (by omega)
  have hbf := (BlkIs.new w 97 (frCells e i p f z n A y.length k)).alloc (.cells #[.int .u8 0, .int .u8 0, .int .u8 0, .int .u8 0, .int .u8 0, .int .u8 0, .int .u8 0, .int .u8 0, .int .u8 0, .int .u8 0, .int .u8 0, .int .u8 0, .int .u8 0, .int .u8 0, .int .u8 0, .int .u8 0, .int .u8 0, .int .u8 0, .int .u8 0, .int .u8 0, .int .u8 0, .int .u8 0, .int .u8 0, .int .u8 0, .int .u8 0, .int .u8 0, .int .u8 0, .int .u8 0, .int .u8 0, .int .u8 0, .int .u8 0, .int .u8 0, .int .u8 0, .int .u8 0, .int .u8 0, .int .u8 0, .int .u8 0, .int .u8 0, .int .u8 0, .int .u8 0, .int .u8 0, .int .u8 0, .int .u8 0, .int .u8 0, .int .u8 0, .int .u8 0, .int .u8 0, .int .u8 0, .int .u8 0, .int .u8 0, .int .u8 0, .int .u8 0, .int .u8 0, .int .u8 0, .int .u8 0, .int .u8 0, .int .u8 0, .int .u8 0, .int .u8 0, .int .u8 0, .int .u8 0, .int .u8 0, .int .u8 0, .int .u8 0] 140)
  have hbs := BlkIs.new (w.alloc (.cells (frCells e i p f z n A y.length k) 97)) 140 #[.int .u8 0, .int .u8 0, .int .u8 0, .int .u8 0, .int .u8 0, .int .u8 0, .int .u8 0, .int .u8 0, .int .u8 0, .int .u8 0, .int .u8 0, .int .u8 0, .int .u8 0, .int .u8 0, .int .u8 0, .int .u8 0, .int .u8 0, .int .u8 0, .int .u8 0, .int .u8 0, .int .u8 0, .int .u8 0, .int .u8 0, .int .u8 0, .int .u8 0, .int .u8 0, .int .u8 0, .int .u8 0, .int .u8 0, .int .u8 0, .int .u8 0, .int .u8 0, .int .u8 0, .int .u8 0, .int .u8 0, .int .u8 0, .int .u8 0, .int .u8 0, .int .u8 0, .int .u8 0, .int .u8 0, .int .u8 0, .int .u8 0, .int .u8 0, .int .u8 0, .int .u8 0, .int .u8 0, .int .u8 0, .int .u8 0, .int .u8 0, .int .u8 0, .int .u8 0, .int .u8 0, .int .u8 0, .int .u8 0, .int .u8 0, .int .u8 0, .int .u8 0, .int .u8 0, .int .u8 0, .int .u8 0, .int .u8 0, .int .u8 0, .int .u8 0]
  rw [World.size_alloc] at hbs
  have hBw : Below w.heap.size w ((w.alloc (.cells (frCells e i p f z n A y.length k) 97)).alloc (.cells #[.int .u8 0, .int .u8 0, .int .u8 0, .int .u8 0, .int .u8 0, .int .u8 0, .int .u8 0, .int .u8 0, .int .u8 0, .int .u8 0, .int .u8 0, .int .u8 0, .int .u8 0, .int .u8 0, .int .u8 0, .int .u8 0, .int .u8 0, .int .u8 0, .int .u8 0, .int .u8 0, .int .u8 0, .int .u8 0, .int .u8 0, .int .u8 0, .int .u8 0, .int .u8 0, .int .u8 0, .int .u8 0, .int .u8 0, .int .u8 0, .int .u8 0, .int .u8 0, .int .u8 0, .int .u8 0, .int .u8 0, .int .u8 0, .int .u8 0, .int .u8 0, .int .u8 0, .int .u8 0, .int .u8 0, .int .u8 0, .int .u8 0, .int .u8 0, .int .u8 0, .int .u8 0, .int .u8 0, .int .u8 0, .int .u8 0, .int .u8 0, .int .u8 0, .int .u8 0, .int .u8 0, .int .u8 0, .int .u8 0, .int .u8 0, .int .u8 0, .int .u8 0, .int .u8 0, .int .u8 0, .int .u8 0, .int .u8 0, .int .u8 0, .int .u8 0] 140)) := ((Below.refl _ w).alloc (Nat.le_refl _) _).alloc (by simp) _
  unfold frCells at *
  have HYL := Lib.hid hy
  clear hy
  go_enter Tryz.func89, Tryz.ntmps89
  go_wp2_with fail
  generalize (w.alloc (.cells #[.int .u64 (e : Int), .int .i64 (i : Int), .int .i64 (p : Int), .bool f, .int .i64 (z : Int), .int .u32 (n : Int), .slice A y.length k] 97)).alloc (.cells #[.int .u8 0, .int .u8 0, .int .u8 0, .int .u8 0, .int .u8 0, .int .u8 0, .int .u8 0, .int .u8 0, .int .u8 0, .int .u8 0, .int .u8 0, .int .u8 0, .int .u8 0, .int .u8 0, .int .u8 0, .int .u8 0, .int .u8 0, .int .u8 0, .int .u8 0, .int .u8 0, .int .u8 0, .int .u8 0, .int .u8 0, .int .u8 0, .int .u8 0, .int .u8 0, .int .u8 0, .int .u8 0, .int .u8 0, .int .u8 0, .int .u8 0, .int .u8 0, .int .u8 0, .int .u8 0, .int .u8 0, .int .u8 0, .int .u8 0, .int .u8 0, .int .u8 0, .int .u8 0, .int .u8 0, .int .u8 0, .int .u8 0, .int .u8 0, .int .u8 0, .int .u8 0, .int .u8 0, .int .u8 0, .int .u8 0, .int .u8 0, .int .u8 0, .int .u8 0, .int .u8 0, .int .u8 0, .int .u8 0, .int .u8 0, .int .u8 0, .int .u8 0, .int .u8 0, .int .u8 0, .int .u8 0, .int .u8 0, .int .u8 0, .int .u8 0] 140) = W1 at *
  have hc0 : ∀ w', Grow W1 w' → w'.cell? ⟨w.heap.size, 0, none⟩ = some (.int .u64 e) := fun w' hg => (hg.cell (p := ⟨w.heap.size, 0, none⟩) hbf.lt).trans (by rw [hbf.cell]; rfl)
  have hc1 : ∀ w', Grow W1 w' → w'.cell? ⟨w.heap.size, 1, none⟩ = some (.int .i64 i) := fun w' hg => (hg.cell (p := ⟨w.heap.size, 1, none⟩) hbf.lt).trans (by rw [hbf.cell]; rfl)
  have hc2 : ∀ w', Grow W1 w' → w'.cell? ⟨w.heap.size, 2, none⟩ = some (.int .i64 p) := fun w' hg => (hg.cell (p := ⟨w.heap.size, 2, none⟩) hbf.lt).trans (by rw [hbf.cell]; rfl)
  have hc3 : ∀ w', Grow W1 w' → w'.cell? ⟨w.heap.size, 3, none⟩ = some (.bool f) := fun w' hg => (hg.cell (p := ⟨w.heap.size, 3, none⟩) hbf.lt).trans (by rw [hbf.cell]; rfl)
  have hc4 : ∀ w', Grow W1 w' → w'.cell? ⟨w.heap.size, 4, none⟩ = some (.int .i64 z) := fun w' hg => (hg.cell (p := ⟨w.heap.size, 4, none⟩) hbf.lt).trans (by rw [hbf.cell]; rfl)
  have hc5 : ∀ w', Grow W1 w' → w'.cell? ⟨w.heap.size, 5, none⟩ = some (.int .u32 n) := fun w' hg => (hg.cell (p := ⟨w.heap.size, 5, none⟩) hbf.lt).trans (by rw [hbf.cell]; rfl)
  have hc6 : ∀ w', Grow W1 w' → w'.cell? ⟨w.heap.size, 6, none⟩ = some (.slice A y.length k) := fun w' hg => (hg.cell (p := ⟨w.heap.size, 6, none⟩) hbf.lt).trans (by rw [hbf.cell]; rfl)
  have hin1 := (hin.below hBw).more hBw.size
  have hlaid : ∀ w' u, Grow W1 w' → Lists [fixL 8 e, fixL 4 i, fixL 4 p, [if f then 1 else 0], fixL 4 z, fixL 4 n] u w' → Calls Tryz.prog 115 #[.slice A y.length k, u] w' fun x w2 => x = .returned (.agg ((sectB [fixL 8 e, fixL 4 i, fixL 4 p, [if f then 1 else 0], fixL 4 z, fixL 4 n].flatten y).map b8).toArray) ∧ Below w'.heap.size w' w2 := fun w' u hg hu =>
    laid_gives w' A k y _ u ((hin1.below hg).more hg.size) hu (by simp) (partB_length e i p f z n) (by rw [HYL.out]; omega)
  open Reg in
  refine region_tail_facts (by kernel_rfl) (by kernel_rfl) 30 rfl (by kernel_rfl) 27 (by decide) (by kernel_rfl) (by kernel_rfl) [3, 4, 5, 6, 7, 8, 9, 10, 11, 12, 13, 14, 15, 16, 17, 18, 19, 20, 21, 22, 23, 24, 25, 26, 27, 28, 29] (by kernel_rfl)
    [(1, .val (.pointer (some ⟨w.heap.size, 0, none⟩)))]
    [(3, .val (.pointer (some ⟨w.heap.size, 6, none⟩))), (4, .val (.slice A y.length k)), (5, .val (.pointer (some ⟨w.heap.size, 0, none⟩))), (6, .val (.int .u64 (e : Int))), (7, .res (fixL 8 e)), (8, .val (.pointer (some ⟨w.heap.size, 1, none⟩))), (9, .val (.int .i64 (i : Int))), (10, .val (.int .u32 (i : Int))), (11, .res (fixL 4 i)), (12, .val (.pointer (some ⟨w.heap.size, 2, none⟩))), (13, .val (.int .i64 (p : Int))), (14, .val (.int .u32 (p : Int))), (15, .res (fixL 4 p)), (16, .pred ((fun v w => FlagsAt w v)) (flagsAt_stable)), (17, .val (.pointer (some ⟨w.heap.size, 3, none⟩))), (18, .val (.bool f)), (19, .pred (FlagFn f) (flagFn_stable f)), (20, .res ([if f then 1 else 0])), (21, .val (.pointer (some ⟨w.heap.size, 4, none⟩))), (22, .val (.int .i64 (z : Int))), (23, .val (.int .u32 (z : Int))), (24, .res (fixL 4 z)), (25, .val (.pointer (some ⟨w.heap.size, 5, none⟩))), (26, .val (.int .u32 (n : Int))), (27, .res (fixL 4 n)), (28, .pred (Lists [fixL 8 e, fixL 4 i, fixL 4 p, [if f then 1 else 0], fixL 4 z, fixL 4 n]) (lists_stable _)), (29, .val (.agg ((sectB [fixL 8 e, fixL 4 i, fixL 4 p, [if f then 1 else 0], fixL 4 z, fixL 4 n].flatten y).map b8).toArray))]
    ⟨rfl, trivial⟩ (by kernel_rfl) (by kernel_rfl)
    (allOk_cons (ok_none rfl (l_run1 (.tmp 1) (.pointer (some ⟨w.heap.size, 0, none⟩)) (.pointer (some ⟨w.heap.size, 6, none⟩)) (hs 1 _ (by kernel_rfl) (by kernel_rfl)) (fun ρ w h => by simp [execOp, h, go_sem, Result.andThen]) (by kernel_rfl)))
    <| allOk_cons (ok_none rfl (l_load (.tmp 3) (⟨w.heap.size, 6, none⟩) _ (.slice A y.length k) (by intro w; simp [go_sem]) rfl (hs 3 (.pointer (some ⟨w.heap.size, 6, none⟩)) (by kernel_rfl) (by kernel_rfl)) (fun w hg => hc6 w hg) (by kernel_rfl)))
    <| allOk_cons (ok_none rfl (l_run1 (.tmp 1) (.pointer (some ⟨w.heap.size, 0, none⟩)) (.pointer (some ⟨w.heap.size, 0, none⟩)) (hs 1 _ (by kernel_rfl) (by kernel_rfl)) (fun ρ w h => by simp [execOp, h, go_sem, Result.andThen]) (by kernel_rfl)))
    <| allOk_cons (ok_none rfl (l_load (.tmp 5) (⟨w.heap.size, 0, none⟩) _ (.int .u64 (e : Int)) (by intro w; simp [go_sem]) rfl (hs 5 (.pointer (some ⟨w.heap.size, 0, none⟩)) (by kernel_rfl) (by kernel_rfl)) (fun w hg => hc0 w hg) (by kernel_rfl)))
    <| allOk_cons (ok_none rfl (l_call 116 _ _ rfl (enters_of Tryz.func116 (by kernel_rfl) rfl) #[.int .u64 (e : Int)] (.res (fixL 8 e)) (args1 (hs 6 (.int .u64 (e : Int)) (by kernel_rfl) (by kernel_rfl))) (fun w hg => gives_res (eight_gives e w)) (by kernel_rfl)))
    <| allOk_cons (ok_none rfl (l_run1 (.tmp 1) (.pointer (some ⟨w.heap.size, 0, none⟩)) (.pointer (some ⟨w.heap.size, 1, none⟩)) (hs 1 _ (by kernel_rfl) (by kernel_rfl)) (fun ρ w h => by simp [execOp, h, go_sem, Result.andThen]) (by kernel_rfl)))
    <| allOk_cons (ok_none rfl (l_load (.tmp 8) (⟨w.heap.size, 1, none⟩) _ (.int .i64 (i : Int)) (by intro w; simp [go_sem]) rfl (hs 8 (.pointer (some ⟨w.heap.size, 1, none⟩)) (by kernel_rfl) (by kernel_rfl)) (fun w hg => hc1 w hg) (by kernel_rfl)))
    <| allOk_cons (ok_none rfl (l_convS (.tmp 9) _ _ (.int .i64 (i : Int)) (.int .u32 (i : Int)) rfl (hs 9 (.int .i64 (i : Int)) (by kernel_rfl) (by kernel_rfl)) (fun w hg => hi32 w) (by kernel_rfl)))
    <| allOk_cons (ok_none rfl (l_call 117 _ _ rfl (enters_of Tryz.func117 (by kernel_rfl) rfl) #[.int .u32 (i : Int)] (.res (fixL 4 i)) (args1 (hs 10 (.int .u32 (i : Int)) (by kernel_rfl) (by kernel_rfl))) (fun w hg => gives_res (four_gives i w)) (by kernel_rfl)))
    <| allOk_cons (ok_none rfl (l_run1 (.tmp 1) (.pointer (some ⟨w.heap.size, 0, none⟩)) (.pointer (some ⟨w.heap.size, 2, none⟩)) (hs 1 _ (by kernel_rfl) (by kernel_rfl)) (fun ρ w h => by simp [execOp, h, go_sem, Result.andThen]) (by kernel_rfl)))
    <| allOk_cons (ok_none rfl (l_load (.tmp 12) (⟨w.heap.size, 2, none⟩) _ (.int .i64 (p : Int)) (by intro w; simp [go_sem]) rfl (hs 12 (.pointer (some ⟨w.heap.size, 2, none⟩)) (by kernel_rfl) (by kernel_rfl)) (fun w hg => hc2 w hg) (by kernel_rfl)))
    <| allOk_cons (ok_none rfl (l_convS (.tmp 13) _ _ (.int .i64 (p : Int)) (.int .u32 (p : Int)) rfl (hs 13 (.int .i64 (p : Int)) (by kernel_rfl) (by kernel_rfl)) (fun w hg => hp32 w) (by kernel_rfl)))
    <| allOk_cons (ok_none rfl (l_call 117 _ _ rfl (enters_of Tryz.func117 (by kernel_rfl) rfl) #[.int .u32 (p : Int)] (.res (fixL 4 p)) (args1 (hs 14 (.int .u32 (p : Int)) (by kernel_rfl) (by kernel_rfl))) (fun w hg => gives_res (four_gives p w)) (by kernel_rfl)))
    <| allOk_cons (ok_none rfl (l_call 118 _ _ rfl (enters_of Tryz.func118 (by kernel_rfl) rfl) #[] (.pred ((fun v w => FlagsAt w v)) (flagsAt_stable)) (fun _ _ _ => by simp) (fun w hg => (flags_gives w).mono (fun _ _ ⟨v, he, h1, h2⟩ => ⟨v, he, h2, h1⟩)) (by kernel_rfl)))
    <| allOk_cons (ok_none rfl (l_run1 (.tmp 1) (.pointer (some ⟨w.heap.size, 0, none⟩)) (.pointer (some ⟨w.heap.size, 3, none⟩)) (hs 1 _ (by kernel_rfl) (by kernel_rfl)) (fun ρ w h => by simp [execOp, h, go_sem, Result.andThen]) (by kernel_rfl)))
    <| allOk_cons (ok_none rfl (l_load (.tmp 17) (⟨w.heap.size, 3, none⟩) _ (.bool f) (by intro w; simp [go_sem]) rfl (hs 17 (.pointer (some ⟨w.heap.size, 3, none⟩)) (by kernel_rfl) (by kernel_rfl)) (fun w hg => hc3 w hg) (by kernel_rfl)))
    <| allOk_cons (ok_none rfl (l_runP 16 (.tmp 18) _ flagsAt_stable (.bool f) (.pred (FlagFn f) (flagFn_stable f)) (by kernel_rfl) (by kernel_rfl) (hs 18 _ (by kernel_rfl) (by kernel_rfl)) (fun ρ w hg h1 h2 => let ⟨r, q1, q2⟩ := run_flag f rfl h1 h2; ⟨r, w, q1, Grow.refl _, q2⟩) (by kernel_rfl)))
    <| allOk_cons (ok_none rfl (l_callFlag f 19 _ rfl (by kernel_rfl) (by kernel_rfl) (by kernel_rfl)))
    <| allOk_cons (ok_none rfl (l_run1 (.tmp 1) (.pointer (some ⟨w.heap.size, 0, none⟩)) (.pointer (some ⟨w.heap.size, 4, none⟩)) (hs 1 _ (by kernel_rfl) (by kernel_rfl)) (fun ρ w h => by simp [execOp, h, go_sem, Result.andThen]) (by kernel_rfl)))
    <| allOk_cons (ok_none rfl (l_load (.tmp 21) (⟨w.heap.size, 4, none⟩) _ (.int .i64 (z : Int)) (by intro w; simp [go_sem]) rfl (hs 21 (.pointer (some ⟨w.heap.size, 4, none⟩)) (by kernel_rfl) (by kernel_rfl)) (fun w hg => hc4 w hg) (by kernel_rfl)))
    <| allOk_cons (ok_none rfl (l_convS (.tmp 22) _ _ (.int .i64 (z : Int)) (.int .u32 (z : Int)) rfl (hs 22 (.int .i64 (z : Int)) (by kernel_rfl) (by kernel_rfl)) (fun w hg => hz32 w) (by kernel_rfl)))
    <| allOk_cons (ok_none rfl (l_call 117 _ _ rfl (enters_of Tryz.func117 (by kernel_rfl) rfl) #[.int .u32 (z : Int)] (.res (fixL 4 z)) (args1 (hs 23 (.int .u32 (z : Int)) (by kernel_rfl) (by kernel_rfl))) (fun w hg => gives_res (four_gives z w)) (by kernel_rfl)))
    <| allOk_cons (ok_none rfl (l_run1 (.tmp 1) (.pointer (some ⟨w.heap.size, 0, none⟩)) (.pointer (some ⟨w.heap.size, 5, none⟩)) (hs 1 _ (by kernel_rfl) (by kernel_rfl)) (fun ρ w h => by simp [execOp, h, go_sem, Result.andThen]) (by kernel_rfl)))
    <| allOk_cons (ok_none rfl (l_load (.tmp 25) (⟨w.heap.size, 5, none⟩) _ (.int .u32 (n : Int)) (by intro w; simp [go_sem]) rfl (hs 25 (.pointer (some ⟨w.heap.size, 5, none⟩)) (by kernel_rfl) (by kernel_rfl)) (fun w hg => hc5 w hg) (by kernel_rfl)))
    <| allOk_cons (ok_none rfl (l_call 117 _ _ rfl (enters_of Tryz.func117 (by kernel_rfl) rfl) #[.int .u32 (n : Int)] (.res (fixL 4 n)) (args1 (hs 26 (.int .u32 (n : Int)) (by kernel_rfl) (by kernel_rfl))) (fun w hg => gives_res (four_gives n w)) (by kernel_rfl)))
    <| allOk_cons (ok_none rfl (l_build6 7 11 15 20 24 27 (fixL 8 e) (fixL 4 i) (fixL 4 p) [if f then 1 else 0] (fixL 4 z) (fixL 4 n) rfl (by kernel_rfl) (by kernel_rfl) (by kernel_rfl) (by kernel_rfl) (by kernel_rfl) (by kernel_rfl) (by kernel_rfl) (by kernel_rfl) (by kernel_rfl) (by kernel_rfl) (by kernel_rfl) (by kernel_rfl) (by kernel_rfl)))
    <| allOk_cons (ok_none rfl (l_callVP 115 (.tmp 4) 28 (.slice A y.length k) (Lists [fixL 8 e, fixL 4 i, fixL 4 p, [if f then 1 else 0], fixL 4 z, fixL 4 n]) (lists_stable _) _ rfl (enters_of Tryz.func115 (by kernel_rfl) rfl) (.val (.agg ((sectB [fixL 8 e, fixL 4 i, fixL 4 p, [if f then 1 else 0], fixL 4 z, fixL 4 n].flatten y).map b8).toArray)) (hs 4 _ (by kernel_rfl) (by kernel_rfl)) (by kernel_rfl) (by kernel_rfl) (fun w u hg hu => gives_grow (hlaid w u hg hu)) (by kernel_rfl)))
    <| allOk_nil) ?_
  intro a W3 hsz hdef hGW3 hF hU
  have e29 : a.eval (.tmp 29) = .agg ((sectB [fixL 8 e, fixL 4 i, fixL 4 p, [if f then 1 else 0], fixL 4 z, fixL 4 n].flatten y).map b8).toArray := hF 29
  have ha := Reg.acts_eq [3, 4, 5, 6, 7, 8, 9, 10, 11, 12, 13, 14, 15, 16, 17, 18, 19, 20, 21, 22, 23, 24, 25, 26, 27, 28, 29] hsz hdef hU
  clear hF hU hdef
  simp only [List.foldl_cons, List.foldl_nil, e29] at ha
  clear e29 hsz
  generalize a.eval (.tmp 3) = v3 at *
  generalize a.eval (.tmp 4) = v4 at *
  generalize a.eval (.tmp 5) = v5 at *
  generalize a.eval (.tmp 6) = v6 at *
  generalize a.eval (.tmp 7) = v7 at *
  generalize a.eval (.tmp 8) = v8 at *
  generalize a.eval (.tmp 9) = v9 at *
  generalize a.eval (.tmp 10) = v10 at *
  generalize a.eval (.tmp 11) = v11 at *
  generalize a.eval (.tmp 12) = v12 at *
  generalize a.eval (.tmp 13) = v13 at *
  generalize a.eval (.tmp 14) = v14 at *
  generalize a.eval (.tmp 15) = v15 at *
  generalize a.eval (.tmp 16) = v16 at *
  generalize a.eval (.tmp 17) = v17 at *
  generalize a.eval (.tmp 18) = v18 at *
  generalize a.eval (.tmp 19) = v19 at *
  generalize a.eval (.tmp 20) = v20 at *
  generalize a.eval (.tmp 21) = v21 at *
  generalize a.eval (.tmp 22) = v22 at *
  generalize a.eval (.tmp 23) = v23 at *
  generalize a.eval (.tmp 24) = v24 at *
  generalize a.eval (.tmp 25) = v25 at *
  generalize a.eval (.tmp 26) = v26 at *
  generalize a.eval (.tmp 27) = v27 at *
  generalize a.eval (.tmp 28) = v28 at *
  simp only [Act.put, List.setIfInBounds_toArray, List.set_cons_succ, List.set_cons_zero] at ha
  subst ha
  simp only [Reg.Rest, List.drop_succ_cons, List.drop_zero]
  have hs3 := hbs.below hGW3 hbs.lt
  have hB3 : Below w.heap.size w W3 := hBw.trans (hGW3.mono hBw.size)
  have hpb : [fixL 8 e, fixL 4 i, fixL 4 p, [if f then 1 else 0], fixL 4 z, fixL 4 n].flatten = partB e i p f z n := rfl
  have hl25 := partB_length e i p f z n
  rw [hpb]
  clear hlaid hc0 hc1 hc2 hc3 hc4 hc5 hc6 hbf hbs hin1 hpb hi32 hp32 hz32
  generalize hPq : partB e i p f z n = P at *
  have HPq := Lib.hid hPq
  clear hPq
  have h64 : ((sectB P y).map b8).toArray.size = 64 := by
    simp [sectB_length]; omega
  have hRow : RowTy Tryz.prog 140 ((sectB P y).map b8).toArray.size := by rw [h64]; exact rowSector
  refine wp_storeW rfl 140 (.tmp 2) (.tmp 29) rfl (w.heap.size + 1) rfl rfl rowSector hs3 (by simp) (by rw [h64]; simp) (b8_one _) ?_
  have hb4 := hs3.setRow ((sectB P y).map b8).toArray
  have hB4 : Below w.heap.size w (W3.setRow (w.heap.size + 1) ((sectB P y).map b8).toArray) := below_setRow hB3 (by omega) _
  generalize W3.setRow (w.heap.size + 1) ((sectB P y).map b8).toArray = W4 at *
  clear h64 hs3 hl25
  simp only [wpList, Act.put, Exit.then]
  refine ‹∀ (a : Act) (w : World), Code.wp Tryz.prog Code.ret _ a w → _› _ W4 ?_
  refine wp_ret (bodyPost_ret_by (results_cellW 2 rfl rfl hRow hb4 rfl) rfl ⟨?_, hB4⟩)
  rw [HPq.out]
end Go.Proofs.YtocnabpplbeafaaGreat
/- frame.Encode. -/
namespace Go.Proofs.YtocnabpplbeafaaGreat
open Go Go.RowKit Lou

def fEnc (e : Nat) (i p : Int) (f : Bool) (z : Int) (n : Nat) (y : List UInt8) : List UInt8 := if frOk y.length i p f z then frameB (partB e i.toNat p.toNat f z.toNat n) y else []
def fErr (i p : Int) (f : Bool) (z : Int) (y : List UInt8) : Int := if frOk y.length i p f z then 0 else 2
theorem fEnc_ok {e i p : Nat} {f : Bool} {z n : Nat} {y : List UInt8} (h : frOk y.length i p f z = true) : fEnc e i p f z n y = frameB (partB e i p f z n) y ∧ fErr i p f z y = 0 := by simp [fEnc, fErr, h]
set_option maxRecDepth 100000 in
set_option maxHeartbeats 8000000 in
theorem encode_gives (e : Nat) (i p : Int) (f : Bool) (z : Int) (n : Nat) (A : Option Addr) (k : Nat) (y : List UInt8) (w : World) (hin : InB w w.heap.size A k y) :
    Calls Tryz.prog 50 #[.agg (frCells e i p f z n A y.length k)] w (GivesBE w (fEnc e i p f z n y) (fErr i p f z y)) := by
  have hbh := BlkIs.new w 97 (frCells e i p f z n A y.length k)
  have hBw : Below w.heap.size w (w.alloc (.cells (frCells e i p f z n A y.length k) 97)) := (Below.refl _ w).alloc (Nat.le_refl _) _
  have H := right_gives e i p f z n A y.length k (w.alloc (.cells (frCells e i p f z n A y.length k) 97))
  cases hk : frOk y.length i p f z with
  | false =>
    have h1 : fEnc e i p f z n y = [] := by simp [fEnc, hk]
    have h2 : fErr i p f z y = 2 := by simp [fErr, hk]
    rw [h1, h2]
    rw [hk] at H
    clear h1 h2 hk
    unfold frCells at *
    go_enter Tryz.func50, Tryz.ntmps50
    go_wp2_with (first
      | (go_at_call 88; refine H.mono ?_; rintro x w2 ⟨rfl, hB2⟩)
      | (refine wp_loadW rfl 97 (.tmp 1) rfl w.heap.size rfl rowFrame hbh (by rfl) ?_))
    exact bodyPost_ret (results_tmp2 rfl _ _ _) rfl ⟨none, 0, rfl, InB.mt _ _, hBw.trans (hB2.mono hBw.size)⟩
  | true =>
    obtain ⟨hy, ⟨hi0, hi1⟩, ⟨hp0, hp1⟩, ⟨hz0, hz1⟩, _⟩ := (frOk_iff _ _ _ _ _).1 hk
    obtain ⟨i, rfl⟩ : ∃ q : Nat, i = q := ⟨i.toNat, by omega⟩
    obtain ⟨p, rfl⟩ : ∃ q : Nat, p = q := ⟨p.toNat, by omega⟩
    obtain ⟨z, rfl⟩ : ∃ q : Nat, z = q := ⟨z.toNat, by omega⟩
    rw [hk] at H
    obtain ⟨h1, h2⟩ := fEnc_ok (e := e) (n := n) hk
    rw [h1, h2]
    have hin1 := (hin.below hBw).more hBw.size
    have HF := fun W (h : InB W W.heap.size A k y) => front_gives e i p z n f A k y W (by omega) (by omega) (by omega) h hy
    have hl25 := partB_length e i p f z n
    have hfr : frameB (partB e i p f z n) y = sectB (partB e i p f z n) y ++ y := rfl
    have hsl : (sectB (partB e i p f z n) y).length = 64 := by rw [sectB_length, hl25]
    rw [hfr]
    generalize sectB (partB e i p f z n) y = s at *
    have HSL := Lib.hid hsl
    have HYL := Lib.hid hy
    have hRow : RowTy Tryz.prog 140 (s.map b8).toArray.size := by
      have : (s.map b8).toArray.size = 64 := by simp [hsl]
      rw [this]
      exact rowSector
    clear h1 h2 hk hin hfr hl25 hsl hy
    unfold frCells at *
    go_enter Tryz.func50, Tryz.ntmps50
    go_wp2_with (first
      | (go_at_call 88; refine H.mono ?_; rintro x w2 ⟨rfl, hB2⟩; have hbh2 := hbh.below hB2 hbh.lt; have hB02 := hBw.trans (hB2.mono hBw.size); have hin2 := (hin1.below hB2).more hB2.size; clear H hbh hin1)
      | (go_at_call 89; refine (HF _ hin2).mono ?_; rintro x w3 ⟨rfl, hB3⟩; have hbh3 := hbh2.below hB3 hbh2.lt; have hB03 := hB02.trans (hB3.mono hB02.size); have hin3 := (hin2.below hB3).more hB3.size; clear HF hbh2 hin2)
      | (refine wp_loadW rfl 97 (.tmp 1) rfl w.heap.size rfl rowFrame (by assumption) (by rfl) ?_)
      | (refine wp_storeW rfl 140 (.tmp 4) (.tmp 9) rfl w3.heap.size rfl rfl rowSector (BlkIs.new w3 140 #[.int .u8 0, .int .u8 0, .int .u8 0, .int .u8 0, .int .u8 0, .int .u8 0, .int .u8 0, .int .u8 0, .int .u8 0, .int .u8 0, .int .u8 0, .int .u8 0, .int .u8 0, .int .u8 0, .int .u8 0, .int .u8 0, .int .u8 0, .int .u8 0, .int .u8 0, .int .u8 0, .int .u8 0, .int .u8 0, .int .u8 0, .int .u8 0, .int .u8 0, .int .u8 0, .int .u8 0, .int .u8 0, .int .u8 0, .int .u8 0, .int .u8 0, .int .u8 0, .int .u8 0, .int .u8 0, .int .u8 0, .int .u8 0, .int .u8 0, .int .u8 0, .int .u8 0, .int .u8 0, .int .u8 0, .int .u8 0, .int .u8 0, .int .u8 0, .int .u8 0, .int .u8 0, .int .u8 0, .int .u8 0, .int .u8 0, .int .u8 0, .int .u8 0, .int .u8 0, .int .u8 0, .int .u8 0, .int .u8 0, .int .u8 0, .int .u8 0, .int .u8 0, .int .u8 0, .int .u8 0, .int .u8 0, .int .u8 0, .int .u8 0, .int .u8 0]) (by rfl) (by have := HSL.out; simp; omega) (b8_one _) ?_))
    have hb4 := (BlkIs.new w3 140 #[.int .u8 0, .int .u8 0, .int .u8 0, .int .u8 0, .int .u8 0, .int .u8 0, .int .u8 0, .int .u8 0, .int .u8 0, .int .u8 0, .int .u8 0, .int .u8 0, .int .u8 0, .int .u8 0, .int .u8 0, .int .u8 0, .int .u8 0, .int .u8 0, .int .u8 0, .int .u8 0, .int .u8 0, .int .u8 0, .int .u8 0, .int .u8 0, .int .u8 0, .int .u8 0, .int .u8 0, .int .u8 0, .int .u8 0, .int .u8 0, .int .u8 0, .int .u8 0, .int .u8 0, .int .u8 0, .int .u8 0, .int .u8 0, .int .u8 0, .int .u8 0, .int .u8 0, .int .u8 0, .int .u8 0, .int .u8 0, .int .u8 0, .int .u8 0, .int .u8 0, .int .u8 0, .int .u8 0, .int .u8 0, .int .u8 0, .int .u8 0, .int .u8 0, .int .u8 0, .int .u8 0, .int .u8 0, .int .u8 0, .int .u8 0, .int .u8 0, .int .u8 0, .int .u8 0, .int .u8 0, .int .u8 0, .int .u8 0, .int .u8 0, .int .u8 0]).setRow (s.map b8).toArray
    have hB34 : Below w3.heap.size w3 ((w3.alloc (.cells #[.int .u8 0, .int .u8 0, .int .u8 0, .int .u8 0, .int .u8 0, .int .u8 0, .int .u8 0, .int .u8 0, .int .u8 0, .int .u8 0, .int .u8 0, .int .u8 0, .int .u8 0, .int .u8 0, .int .u8 0, .int .u8 0, .int .u8 0, .int .u8 0, .int .u8 0, .int .u8 0, .int .u8 0, .int .u8 0, .int .u8 0, .int .u8 0, .int .u8 0, .int .u8 0, .int .u8 0, .int .u8 0, .int .u8 0, .int .u8 0, .int .u8 0, .int .u8 0, .int .u8 0, .int .u8 0, .int .u8 0, .int .u8 0, .int .u8 0, .int .u8 0, .int .u8 0, .int .u8 0, .int .u8 0, .int .u8 0, .int .u8 0, .int .u8 0, .int .u8 0, .int .u8 0, .int .u8 0, .int .u8 0, .int .u8 0, .int .u8 0, .int .u8 0, .int .u8 0, .int .u8 0, .int .u8 0, .int .u8 0, .int .u8 0, .int .u8 0, .int .u8 0, .int .u8 0, .int .u8 0, .int .u8 0, .int .u8 0, .int .u8 0, .int .u8 0] 140)).setRow w3.heap.size (s.map b8).toArray) := below_setRow ((Below.refl _ w3).alloc (Nat.le_refl _) _) (Nat.le_refl _) _
    have hB4 : Below w.heap.size w ((w3.alloc (.cells #[.int .u8 0, .int .u8 0, .int .u8 0, .int .u8 0, .int .u8 0, .int .u8 0, .int .u8 0, .int .u8 0, .int .u8 0, .int .u8 0, .int .u8 0, .int .u8 0, .int .u8 0, .int .u8 0, .int .u8 0, .int .u8 0, .int .u8 0, .int .u8 0, .int .u8 0, .int .u8 0, .int .u8 0, .int .u8 0, .int .u8 0, .int .u8 0, .int .u8 0, .int .u8 0, .int .u8 0, .int .u8 0, .int .u8 0, .int .u8 0, .int .u8 0, .int .u8 0, .int .u8 0, .int .u8 0, .int .u8 0, .int .u8 0, .int .u8 0, .int .u8 0, .int .u8 0, .int .u8 0, .int .u8 0, .int .u8 0, .int .u8 0, .int .u8 0, .int .u8 0, .int .u8 0, .int .u8 0, .int .u8 0, .int .u8 0, .int .u8 0, .int .u8 0, .int .u8 0, .int .u8 0, .int .u8 0, .int .u8 0, .int .u8 0, .int .u8 0, .int .u8 0, .int .u8 0, .int .u8 0, .int .u8 0, .int .u8 0, .int .u8 0, .int .u8 0] 140)).setRow w3.heap.size (s.map b8).toArray) := hB03.trans (hB34.mono hB03.size)
    have hf4 := hbh3.below hB34 hbh3.lt
    have hin4 := (hin3.below hB34).more hB34.size
    have hs4 := hb4.inBT (by rw [HSL.out]; omega)
    rw [HSL.out] at hs4
    clear hb4 hbh3 hin3 hB34 hB03 hB02 hB2 hB3
    generalize hW4 : (w3.alloc (.cells #[.int .u8 0, .int .u8 0, .int .u8 0, .int .u8 0, .int .u8 0, .int .u8 0, .int .u8 0, .int .u8 0, .int .u8 0, .int .u8 0, .int .u8 0, .int .u8 0, .int .u8 0, .int .u8 0, .int .u8 0, .int .u8 0, .int .u8 0, .int .u8 0, .int .u8 0, .int .u8 0, .int .u8 0, .int .u8 0, .int .u8 0, .int .u8 0, .int .u8 0, .int .u8 0, .int .u8 0, .int .u8 0, .int .u8 0, .int .u8 0, .int .u8 0, .int .u8 0, .int .u8 0, .int .u8 0, .int .u8 0, .int .u8 0, .int .u8 0, .int .u8 0, .int .u8 0, .int .u8 0, .int .u8 0, .int .u8 0, .int .u8 0, .int .u8 0, .int .u8 0, .int .u8 0, .int .u8 0, .int .u8 0, .int .u8 0, .int .u8 0, .int .u8 0, .int .u8 0, .int .u8 0, .int .u8 0, .int .u8 0, .int .u8 0, .int .u8 0, .int .u8 0, .int .u8 0, .int .u8 0, .int .u8 0, .int .u8 0, .int .u8 0, .int .u8 0] 140)).setRow w3.heap.size (s.map b8).toArray = W4 at *
    generalize w3.heap.size = g3 at *
    clear hW4
    simp only [Act.put]
    have hc6 : W4.cell? ⟨w.heap.size, 6, none⟩ = some (.slice A y.length k) := by rw [hf4.cell]; rfl
    have hC := concat2_gives W4.drew (some ⟨g3, 0, none⟩) A 64 k s y hs4.drew hin4.drew (by rw [HSL.out, HYL.out]; omega)
    rw [HSL.out] at hC
    have hlt4 := hf4.lt
    go_region_held3 (fun W => Below W4.heap.size W4 W ∧ W.cell? ⟨w.heap.size, 6, none⟩ = some (.slice A y.length k)) (first | exact ⟨(Below.refl _ _).drew, hc6⟩ | exact ⟨((Below.refl _ W4).drew).alloc (Nat.le_refl _) _, (World.cell?_of_block (Below.heap_alloc W4.drew _ _ hlt4)).trans hc6⟩ | exact ⟨hB5', (hB5'.cell (p := ⟨w.heap.size, 6, none⟩) hlt4).trans hc6⟩)
      (first
        | (go_at_call 90; refine hC.mono ?_; rintro x W5 ⟨v5, rfl, own5, hB5⟩; have hB5' : Below W4.heap.size W4 W5 := (Below.refl _ W4).drew.trans hB5))
    go_wp2
    obtain ⟨A5, c5, rfl, hin5⟩ := own5.inB
    exact bodyPost_ret (results_tmp2 rfl _ _ _) rfl ⟨A5, c5, rfl, hin5, hB4.trans (hB5'.mono hB4.size)⟩
end Go.Proofs.YtocnabpplbeafaaGreat
