/- Texts that the proof of FileHolds leans on, part 7. -/
import Derived.Test.YtocnabpplbeafaaGreatFileHoldsB6
/- disk: the methods where they answer an error; Len, Loose. -/
namespace Go.Proofs.YtocnabpplbeafaaGreat
open Go Go.RowKit Lou

/-- The document's Left. -/
def relL (stops : Bool) (left : Int) : Int := if stops then left else -1
theorem relL_stopped (stops : Bool) (left : Int) : (stops && left == 0) = decide (relL stops left = 0) := by
  cases stops
  · rfl
  · by_cases h : left = 0 <;> simp [relL, h]
def rdE (many at_ left : Int) : Int := if at_ < 0 ∨ many ≤ at_ then 4 else if left = 0 then 140 else 0
section
variable (w : World) (p many : Nat) (g : Nat → List UInt8) (xs : List (Nat × List UInt8)) (left : Int) (stops : Bool)
theorem first_rd (s0 s1 p : Nat) (many : Nat) (at_ left : Int) (stops : Bool) : firstE [askThere s0 s1 many at_, askGoes p left stops] = rdE many at_ (relL stops left) := by
  unfold rdE
  by_cases h2 : at_ < 0 ∨ (many : Int) ≤ at_
  · rw [if_pos h2]
    have : (decide (at_ < 0) || decide ((many : Int) ≤ at_)) = true := by simpa using h2
    simp only [firstE, askThere, this]
    rfl
  · rw [if_neg h2]
    have : (decide (at_ < 0) || decide ((many : Int) ≤ at_)) = false := by simp; omega
    have hs := relL_stopped stops left
    by_cases h3 : relL stops left = 0
    · rw [if_pos h3]
      rw [decide_eq_true h3] at hs
      simp only [firstE, askThere, askGoes, this, hs]
      rfl
    · rw [if_neg h3]
      rw [decide_eq_false h3] at hs
      simp only [firstE, askThere, askGoes, this, hs]
      rfl
set_option maxRecDepth 100000 in
set_option maxHeartbeats 2000000 in
theorem sync_bad (hD : DkIs w p many g xs left stops) (hs : relL stops left = 0) :
    Calls Tryz.prog 52 #[.pointer (some ⟨p, 0, none⟩)] w fun e w' => e = .returned (.int .i64 140) ∧ Below w.heap.size w w' := by
  have hs2 : (stops && left == 0) = true := by rw [relL_stopped]; exact decide_eq_true hs
  have HG := goes_gives w p
  have HA : ∀ W, Below w.heap.size w W → Calls Tryz.prog 58 #[.pointer (some ⟨p, 0, none⟩), .slice (some ⟨W.heap.size, 0, none⟩) 1 1] (W.alloc (.cells #[.func (.func 124) #[.pointer (some ⟨p, 0, none⟩)] #[], .int .i64 140] 113)) fun e w' => e = .returned (.int .i64 140) ∧ Below W.heap.size W w' := by
    intro W hB
    have := asked1_gives W p many g xs left stops (hD.grow hB) (askGoes p left stops) (ans_goes W p many g xs left stops (hD.grow hB))
    have hf : firstE [askGoes p left stops] = 140 := by simp only [firstE, askGoes, hs2]; rfl
    rw [hf] at this
    exact this
  clear hs hs2
  go_enter Tryz.func52, Tryz.ntmps52
  go_wp2_with (first
    | (go_at_call 93; refine HG.mono ?_; rintro e w1 ⟨rfl, hB1⟩)
    | (go_at_call 58; refine (HA _ hB1).mono ?_; rintro e w2 ⟨rfl, hB2⟩))
  go_ret
  exact ⟨rfl, hB1.trans (hB2.mono hB1.size)⟩
set_option maxRecDepth 100000 in
set_option maxHeartbeats 2000000 in
theorem read_bad (hD : DkIs w p many g xs left stops) (at_ : Int) (hE : ¬ rdE many at_ (relL stops left) = 0) :
    Calls Tryz.prog 99 #[.pointer (some ⟨p, 0, none⟩), .int .i64 at_] w fun e w' => e = .returned (.tuple #[.slice none 0 0, .int .i64 (rdE many at_ (relL stops left))]) ∧ Below w.heap.size w w' := by
  have HT := there_gives w p at_
  have HA : ∀ w1 w2 : World, Below w.heap.size w w1 → Below w1.heap.size w1 w2 → BlkIs w1 w.heap.size 28 #[.pointer (some ⟨p, 0, none⟩)] → BlkIs w1 (w.heap.size + 1) 3 #[.int .i64 at_] →
      Calls Tryz.prog 58 #[.pointer (some ⟨p, 0, none⟩), .slice (some ⟨w2.heap.size, 0, none⟩) 2 2] (w2.alloc (.cells #[.func (.func 141) #[] #[.pointer (some ⟨w.heap.size + 1, 0, none⟩), .pointer (some ⟨w.heap.size, 0, none⟩)], .int .i64 4, .func (.func 124) #[.pointer (some ⟨p, 0, none⟩)] #[], .int .i64 140] 113))
        fun e w' => e = .returned (.int .i64 (rdE many at_ (relL stops left))) ∧ Below w2.heap.size w2 w' := fun w1 w2 hB1 hB2 s0 s1 => by
    have h1 := hD.grow (hB1.trans (hB2.mono hB1.size))
    have e3 := asked2_gives w2 p many g xs left stops h1 (askThere w.heap.size (w.heap.size + 1) many at_) (askGoes p left stops)
      (ans_there w2 p many g xs left stops at_ _ _ h1 (s0.below hB2 s0.lt) (s1.below hB2 s1.lt)) (ans_goes w2 p many g xs left stops h1)
    rw [first_rd] at e3
    exact e3
  generalize rdE many at_ (relL stops left) = E at *
  have hE2 : (E != 0) = true := by simpa using hE
  go_enter Tryz.func99, Tryz.ntmps99
  go_wp2_with (first
    | (go_at_call 123; refine HT.mono ?_; rintro e w1 ⟨rfl, s1, s2, hB1⟩)
    | (go_at_call 93; refine (goes_gives w1 p).mono ?_; rintro e w2 ⟨rfl, hB2⟩)
    | (go_at_call 58; refine (HA w1 w2 hB1 hB2 s1 s2).mono ?_; rintro e w3 ⟨rfl, hB3⟩))
  go_ret2
  exact ⟨rfl, hB1.trans ((hB2.trans (hB3.mono hB2.size)).mono hB1.size)⟩
set_option maxRecDepth 100000 in
theorem len_gives (h : DkIs w p many g xs left stops) : Calls Tryz.prog 38 #[.pointer (some ⟨p, 0, none⟩)] w fun e w' => e = .returned (.int .i64 (many : Int)) ∧ w = w' := by
  have HN := none_gives w p many g xs left stops h
  obtain ⟨r, A, c, hb, hm, hx⟩ := h.has
  have c1 : w.cell? ⟨p, 1, none⟩ = some (.int .i64 (many : Int)) := by rw [hb.cell]; rfl
  go_enter Tryz.func38, Tryz.ntmps38
  go_wp2_with (go_at_call 55; refine HN.mono ?_; rintro e w' ⟨rfl, rfl⟩)
  go_ret
  exact ⟨rfl, rfl⟩
end
end Go.Proofs.YtocnabpplbeafaaGreat
/- A range over a function whose rounds may lean on what the iterator says of each value it hands over, in the world in which it does. -/
namespace Go.Proofs.YtocnabpplbeafaaGreat
open Go Go.RowKit Go.Shelf
attribute [local go_sem] Oper.semAt_some

/-- What abides whatever happens to blocks from B on. -/
def AbNew {β : Type} (B : Nat) (I : β → World → Prop) : Prop := ∀ s X Y row, I s X → X.grownBy Y row → (∀ r, row = some r → B ≤ r) → I s Y
theorem AbNew.more {β : Type} {B B' : Nat} {I : β → World → Prop} (h : AbNew B I) (hB : B ≤ B') : AbNew B' I := fun s X Y row hs hg hr => h s X Y row hs hg (fun r e => Nat.le_trans hB (hr r e))
theorem AbNew.alloc {β : Type} {B : Nat} {I : β → World → Prop} (h : AbNew B I) {s : β} {X : World} (o : Obj) (hs : I s X) : I s (X.alloc o) :=
  h s X _ none hs ⟨rfl, rfl, rfl, by simp, fun k hk _ => Below.heap_alloc X o k hk⟩ (fun r e => by cases e)
theorem AbNew.drew {β : Type} {B : Nat} {I : β → World → Prop} (h : AbNew B I) {s : β} {X : World} (hs : I s X) : I s X.drew := h s X _ none hs (grownBy_drew X none) (fun r e => by cases e)
theorem AbNew.putObj {β : Type} {B : Nat} {I : β → World → Prop} (h : AbNew B I) {s : β} {X : World} {l : Nat} (o : Obj) (hs : I s X) (hl : B ≤ l) : I s (X.putObj l o) := h s X _ (some l) hs (grownBy_putObj' X l o) (fun r e => by cases e; exact hl)
theorem AbNew.setCell {β : Type} {B : Nat} {I : β → World → Prop} (h : AbNew B I) {s : β} {X : World} {p : Addr} (v : Value) (hs : I s X) (hl : B ≤ p.block) : I s (X.setCell p v) :=
  h s X _ (some p.block) hs ⟨rfl, rfl, rfl, by simp, fun k _ hk => Below.heap_setCell X p v k (fun e => hk (by rw [e]))⟩ (fun r e => by cases e; exact hl)
theorem AbNew.grow {β : Type} {B : Nat} {I : β → World → Prop} (h : AbNew B I) {s : β} {X Y : World} (hs : I s X) (hg : Below X.heap.size X Y) : I s Y := h s X Y none hs ⟨hg.os, hg.tape, hg.output, hg.size, fun k hk _ => hg.block k hk⟩ (fun r e => by cases e)
/-- All blocks are kept, but those below B that may be written. -/
def KeepOut (Mu : Nat → Prop) (B : Nat) (W W' : World) : Prop := W.heap.size ≤ W'.heap.size ∧ ∀ k o, W.heap[k]? = some o → (k < B → ¬ Mu k) → W'.heap[k]? = some o
theorem KeepOut.refl (Mu : Nat → Prop) (B : Nat) (W : World) : KeepOut Mu B W W := ⟨Nat.le_refl _, fun _ _ h _ => h⟩
theorem KeepOut.trans {Mu : Nat → Prop} {B : Nat} {X Y Z : World} (h : KeepOut Mu B X Y) (k : KeepOut Mu B Y Z) : KeepOut Mu B X Z := ⟨Nat.le_trans h.1 k.1, fun i o hi hm => k.2 i o (h.2 i o hi hm) hm⟩
theorem KeepOut.any {Mu : Nat → Prop} {B : Nat} {X Y : World} (h : KeepOut Mu B X Y) : KeepOut (fun _ => True) B X Y := ⟨h.1, fun k o hk hm => h.2 k o hk (fun hb => absurd trivial (hm hb))⟩
theorem KeepOut.more {Mu : Nat → Prop} {B B' : Nat} {X Y : World} (h : KeepOut Mu B X Y) (hB : B ≤ B') : KeepOut Mu B' X Y := ⟨h.1, fun k o hk hm => h.2 k o hk (fun hb => hm (by omega))⟩
theorem KeepOut.grow (Mu : Nat → Prop) (B : Nat) {X Y : World} (h : Below X.heap.size X Y) : KeepOut Mu B X Y := ⟨h.size, fun k o hk _ => (h.block k (Array.getElem?_eq_some_iff.1 hk).1).trans hk⟩
theorem KeepOut.setCell {Mu : Nat → Prop} {B : Nat} (X : World) (p : Addr) (v : Value) (hp : p.block < B) (hm : Mu p.block) : KeepOut Mu B X (X.setCell p v) :=
  ⟨by simp, fun k o hk hn => (Below.heap_setCell X p v k (fun e => hn (by rw [e]; exact hp) (by rw [e]; exact hm))).trans hk⟩
theorem KeepOut.cell {Mu : Nat → Prop} {B : Nat} {X Y : World} (h : KeepOut Mu B X Y) {p : Addr} {v : Value} (hc : X.cell? p = some v) (hm : p.block < B → ¬ Mu p.block) : Y.cell? p = some v := by
  have hb : ∃ o, X.heap[p.block]? = some o := by
    cases ho : X.heap[p.block]? with
    | none => simp [World.cell?, ho] at hc
    | some o => exact ⟨o, rfl⟩
  obtain ⟨o, ho⟩ := hb
  rw [World.cell?_of_block ((h.2 _ o ho hm).trans ho.symm)]
  exact hc
theorem KeepOut.blk {Mu : Nat → Prop} {B : Nat} {X Y : World} (h : KeepOut Mu B X Y) {g : Nat} {t : TypeId} {cs : Array Value} (hb : BlkIs X g t cs) (hm : g < B → ¬ Mu g) : BlkIs Y g t cs := h.2 _ _ hb hm
theorem KeepOut.inB {Mu : Nat → Prop} {B n₀ : Nat} {X Y : World} (h : KeepOut Mu B X Y) {A : Option Addr} {c : Nat} {l : List UInt8} (hb : InB X n₀ A c l) (hm : ∀ g, g < n₀ → ¬ Mu g) : InB Y n₀ A c l :=
  ⟨hb.le, hb.max, hb.nil, fun hl => by
    obtain ⟨g, o, e, hg, hc⟩ := hb.lies hl
    exact ⟨g, o, e, hg, fun j hj => h.cell (hc j hj) (fun _ => hm g hg)⟩⟩
/-- What an iterator does: as the kit's SeqStopsK, but that a round is asked only at values of which Rd holds, and keeps all but what lay there at the start and may be written (Mu). -/
def SeqR {α : Type} (F : Fence) (n : Nat) (P : Program) (g : Nat) (lb : Array Value) (encs : α → Array Value) (Mu : Nat → Prop) (Rd : List α → α → World → Prop) (S Sp : List α → Prop) (w : World) : Prop :=
  ∀ (l : Nat) (J Jx : List α → World → Prop) (W : World), Below w.heap.size w W → AbNew W.heap.size J → AbNew W.heap.size Jx →
    (∀ pre x W1, J pre W1 → Rd pre x W1 → YieldAt F (n - 1) P l (encs x) W1 fun e W' =>
      (e = .returned (.bool true) ∧ J (pre ++ [x]) W' ∧ KeepOut Mu W.heap.size W1 W') ∨ (e = .returned (.bool false) ∧ Jx (pre ++ [x]) W' ∧ KeepOut (fun _ => True) W.heap.size W1 W')) →
    J [] W →
    CallsIn F n P g (#[.func (.yield l) #[] #[]] ++ lb) W fun e W' => (∃ v, e = .returned v) ∧ ((∃ xs, S xs ∧ J xs W') ∨ (∃ pre, Sp pre ∧ Jx pre W'))
/-- How the body of a round may be left. -/
def postR {α : Type} (Mu : Nat → Prop) (B : Nat) (I : List α → World → Prop) (Ix : Code → List α → World → Prop) (xs : List α) (W : World) : Exit → Act → World → Prop
  | .normal, _, W' => KeepOut Mu B W W' ∧ I xs W'
  | .ret, _, W' => KeepOut (fun _ => True) B W W' ∧ Ix .ret xs W'
  | .exit id, _, W' => KeepOut (fun _ => True) B W W' ∧ Ix (.exit id) xs W'
  | .goto t, _, W' => KeepOut (fun _ => True) B W W' ∧ Ix (.goto t) xs W'
  | .panic _, _, _ => False
  | .outgrown, _, _ => False

section
variable {F : Fence} {n : Nat} {P : Program} {w : World}
end
/-- Bytes abide what turns no cells. -/
theorem InB.ownFrom {B : Nat} (A : Option Addr) (c : Nat) (l : List UInt8) : OwnFrom B (fun (_ : Unit) W => InB W W.heap.size A c l) := fun _ X Y row hs hg hr =>
  ⟨hs.le, hs.max, hs.nil, fun hl => by
    obtain ⟨g, o, hA, hgb, hc⟩ := hs.lies hl
    exact ⟨g, o, hA, Nat.lt_of_lt_of_le hgb hg.size, fun j hj => cell_kept (hc j hj) hg (fun r e => (hr r e).2)⟩⟩
end Go.Proofs.YtocnabpplbeafaaGreat
/- octet.Numbers: what its function goes through. -/
namespace Lou
/-- The numbers read in order from the start, and where the next would stand. -/
inductive Run (l : List UInt8) : List (Nat × Nat) → Nat → Prop
  | nil : Run l [] 0
  | snoc {pre : List (Nat × Nat)} {p v u : Nat} : Run l pre p → rd (l.drop p) = some (v, u) → Run l (pre ++ [(p, v)]) (p + u)
theorem Run.le {l : List UInt8} {pre : List (Nat × Nat)} {p : Nat} (h : Run l pre p) : pre.length ≤ p ∧ p ≤ l.length := by
  induction h with
  | nil => simp
  | snoc _ hr ih =>
    have := rd_bound hr
    simp at this ⊢
    omega
theorem Run.inv {l : List UInt8} {r : List (Nat × Nat)} {q : Nat} (h : Run l r q) : (r = [] ∧ q = 0) ∨ ∃ pre p v u, r = pre ++ [(p, v)] ∧ q = p + u ∧ Run l pre p ∧ rd (l.drop p) = some (v, u) := by
  cases h with
  | nil => exact .inl ⟨rfl, rfl⟩
  | snoc h hr => exact .inr ⟨_, _, _, _, rfl, rfl, h, hr⟩
theorem Run.det {l : List UInt8} {pre : List (Nat × Nat)} {p : Nat} (h : Run l pre p) : ∀ {q}, Run l pre q → p = q := by
  induction h with
  | nil =>
    intro q hq
    rcases hq.inv with ⟨_, e⟩ | ⟨pre, p, v, u, e, _⟩
    · exact e.symm
    · simp at e
  | snoc h hr ih =>
    intro q hq
    rcases hq.inv with ⟨e, _⟩ | ⟨pre', p', v', u', e, rfl, h', hr'⟩
    · simp at e
    · have e1 := List.append_inj' e rfl
      obtain ⟨rfl, e2⟩ := e1
      simp only [List.cons.injEq, Prod.mk.injEq, and_true] at e2
      obtain ⟨rfl, rfl⟩ := e2
      rw [hr] at hr'
      injection hr' with e3
      injection e3 with _ e4
      rw [e4]
/-- What stands next is the only one that goes on. -/
theorem Run.next {l : List UInt8} {pre : List (Nat × Nat)} {p : Nat} (h : Run l pre p) {x : Nat × Nat} {q : Nat} (h' : Run l (pre ++ [x]) q) : ∃ u, x.1 = p ∧ rd (l.drop p) = some (x.2, u) ∧ q = p + u := by
  rcases h'.inv with ⟨e, _⟩ | ⟨pre', p', v', u', e, rfl, h2, hr'⟩
  · simp at e
  · have e1 := List.append_inj' e rfl
    obtain ⟨rfl, e2⟩ := e1
    simp only [List.cons.injEq, and_true] at e2
    subst e2
    have := h.det h2
    subst this
    exact ⟨u', rfl, hr', rfl⟩
end Lou
namespace Go.Proofs.YtocnabpplbeafaaGreat
open Go Go.RowKit Lou Go.Shelf
attribute [local go_sem] Oper.semAt_some

theorem wrap_i64_id' (n : Int) (h0 : -9223372036854775808 ≤ n) (h1 : n < 9223372036854775808) : IntKind.i64.wrap n = n := by
  simp [IntKind.wrap, IntKind.bits, IntKind.signed]
  split <;> omega
theorem wpIn_scope_wide {P : Program} {n : Nat} {c : Code} {Q : Exit → Act → World → Prop} {a : Act} {w : World} (h : c.wpIn Fence.wide n P (Exit.noGoto Q) a w) : (Code.scope c).wpIn Fence.wide n P Q a w := wpIn_wide.2 (wp_scope_straight (wpIn_wide.1 h))
section
variable {w0 : World} {n₀ : Nat}

end
end Go.Proofs.YtocnabpplbeafaaGreat
/- slices.Chunk over bytes; frame.Cut: what its function goes through. -/
namespace Go.Proofs.YtocnabpplbeafaaGreat
open Go Go.RowKit Lou Go.Shelf
attribute [local go_sem] Oper.semAt_some

/-- How long a chunk is; how many there are. -/
def chLen (L k : Nat) : Nat := min 64 (L - 64 * k)
def chAll (L : Nat) : Nat := (L + 63) / 64
/-- Two boxes hold what they held. -/
def Keep2 (Bs Bn : Nat) (W W' : World) : Prop := W'.cell? ⟨Bs, 0, none⟩ = W.cell? ⟨Bs, 0, none⟩ ∧ W'.cell? ⟨Bn, 0, none⟩ = W.cell? ⟨Bn, 0, none⟩
theorem Keep2.trans {Bs Bn : Nat} {X Y Z : World} (h : Keep2 Bs Bn X Y) (k : Keep2 Bs Bn Y Z) : Keep2 Bs Bn X Z := ⟨k.1.trans h.1, k.2.trans h.2⟩
set_option maxHeartbeats 1000000 in
theorem chunk_in (n : Nat) (A : Option Addr) (len cap : Nat) (w : World) :
    CallsIn Fence.wide n Tryz.prog 121 #[.slice A len cap, .int .i64 64] w fun e w' => e = .returned (.func (.func 140) #[] #[.pointer (some ⟨w.heap.size, 0, none⟩), .pointer (some ⟨w.heap.size + 1, 0, none⟩)]) ∧ (w.alloc (.cells #[.slice A len cap] 38)).alloc (.cells #[.int .i64 64] 3) = w' := by
  refine callsIn_of_wp Tryz.func121 rfl trivial ?_ rfl
  simp only [Tryz.ntmps121, List.size_toArray, List.length_cons, List.length_nil, Nat.reduceAdd, Nat.reduceSub, Array.replicate_succ, Array.replicate_zero, List.push_toArray, List.append_toArray, List.nil_append, List.cons_append]
  gi_wp2
  go_ret
  exact ⟨rfl, rfl⟩

/-- frame.Cut: it keeps a copy of the bytes in a block. -/
theorem cut_gives (w : World) (A : Option Addr) (c : Nat) (b : List UInt8) (h : InB w w.heap.size A c b) (hl : b.length ≤ 1000000) :
    Calls Tryz.prog 91 #[.slice A b.length c] w fun e w' => ∃ g A2 c2, e = .returned (.func (.func 120) #[] #[.pointer (some ⟨g, 0, none⟩)]) ∧ BlkIs w' g 38 #[.slice A2 b.length c2] ∧ InB w' w'.heap.size A2 c2 b ∧ Below w.heap.size w w' := by
  go_enter Tryz.func91, Tryz.ntmps91
  go_wp2_with (go_at_call 46; refine (clone_gives w A c b h (by omega)).mono ?_; rintro x w1 ⟨v, rfl, own, hB⟩; obtain ⟨A2, c2, rfl, hin⟩ := own.inB)
  go_ret
  have ha := (Below.refl w1.heap.size w1).alloc (Nat.le_refl _) (.cells #[.slice A2 b.length c2] 38)
  exact ⟨_, A2, c2, rfl, BlkIs.new _ _ _, (hin.below ha).more ha.size, hB.trans (ha.mono hB.size)⟩

/-- A chunk's bytes. -/
def chunkB (b : List UInt8) (k : Nat) : List UInt8 := (b.drop (64 * k)).take 64
theorem chunkB_length (b : List UInt8) (k : Nat) : (chunkB b k).length = chLen b.length k := by simp [chunkB, chLen]
theorem BlkIs.abNew {B g : Nat} {t : TypeId} {cs : Array Value} (hg : g < B) {W W' : World} {row : Option Nat} (h : BlkIs W g t cs) (hgr : W.grownBy W' row) (hr : ∀ r, row = some r → B ≤ r) : BlkIs W' g t cs :=
  h.grown hgr (fun e => by have := hr g e.symm; omega)
theorem below_abNew {B n₀ : Nat} {w : World} (hB : n₀ ≤ B) {W W' : World} {row : Option Nat} (hw : n₀ ≤ W.heap.size) (h : Below n₀ w W) (hgr : W.grownBy W' row) (hr : ∀ r, row = some r → B ≤ r) : Below n₀ w W' :=
  h.trans (grown_below hgr hw (fun r e => Nat.le_trans hB (hr r e)))
theorem RoundIn.anyRound {n m l l' : Nat} {P : Program} {f : FuncId} {tmps : Array Value} {assign body : Code} {w : World} {R : Ending → World → Prop} (h : RoundIn Fence.wide n P l f tmps assign body w R) : RoundIn (Fence.wide.inRound l') m P l f tmps assign body w R :=
  ⟨h.1, fun c cs _ => h.2 c cs (room_wide _)⟩

theorem chunk_inB {W : World} {B g o c k : Nat} {b : List UInt8} (h : InB W B (some ⟨g, o, none⟩) c b) (hk : 64 * k < b.length) : InB W B (some ⟨g, o + 64 * k, none⟩) (chLen b.length k) (chunkB b k) := by
  have hl := chunkB_length b k
  refine ⟨by omega, by unfold chLen; omega, (fun h => by cases h), fun _ => ?_⟩
  obtain ⟨g', o', e, hg, hc⟩ := h.lies (by omega)
  injection e with e
  injection e with e1 e2
  subst e1 e2
  refine ⟨g, o + 64 * k, rfl, hg, fun j hj => ?_⟩
  have hj2 : 64 * k + j < b.length := by rw [hl] at hj; unfold chLen at hj; omega
  have := hc (64 * k + j) hj2
  rw [Nat.add_assoc, this]
  simp [chunkB]

theorem KeepOut.inB2 {Mu Nu : Nat → Prop} {B n₀ : Nat} {X Y : World} (h : KeepOut Mu B X Y) {A : Option Addr} {c : Nat} {l : List UInt8} (hb : InB X n₀ A c l) (hm : 0 < l.length → ∀ g o, A = some ⟨g, o, none⟩ → ¬ Nu g) (hs : ∀ g, g < n₀ → g < B → ¬ Nu g → ¬ Mu g := by first | exact fun g _ _ h => h | (intro g h1 h2 h3; simp only at *; omega)) : InB Y n₀ A c l :=
  ⟨hb.le, hb.max, hb.nil, fun hl => by
    obtain ⟨g, o, e, hg, hc⟩ := hb.lies hl
    exact ⟨g, o, e, hg, fun j hj => h.cell (hc j hj) (fun hB => hs g hg hB (hm hl g o e))⟩⟩
theorem yield_out {e : Ending} {p q : Prop} (h : (e = .returned (.bool true) ∧ p) ∨ (e = .returned (.bool false) ∧ q)) : ∃ r, e = .returned (.bool r) ∧ ((r = true ∧ p) ∨ (r = false ∧ q)) := by
  rcases h with ⟨rfl, h⟩ | ⟨rfl, h⟩
  · exact ⟨true, rfl, .inl ⟨rfl, h⟩⟩
  · exact ⟨false, rfl, .inr ⟨rfl, h⟩⟩
section
variable {n₀ : Nat}
/-- What Cut's function hands over: a chunk's number, and where its bytes lie. -/
def cutEnc (L : Nat) (x : Nat × (Option Addr × Nat)) : Array Value := #[.int .i64 (x.1 : Int), .slice x.2.1 (chLen L x.1) x.2.2]
def CutRd (b : List UInt8) (pre : List (Nat × (Option Addr × Nat))) (x : Nat × (Option Addr × Nat)) (W : World) : Prop := x.1 = pre.length ∧ 64 * x.1 < b.length ∧ InB W W.heap.size x.2.1 x.2.2 (chunkB b x.1)
end
end Go.Proofs.YtocnabpplbeafaaGreat
/- As RangeR, but what a round begins with (the range's variables, laid anew) may lie in memory. -/
namespace Go.Proofs.YtocnabpplbeafaaGreat
open Go Go.RowKit Go.Shelf
attribute [local go_sem] Oper.semAt_some

section
variable {F : Fence} {n : Nat} {P : Program} {w : World}
theorem wpIn_rangeFunc_A {α : Type} {g : Operand} {ps : Array Tmp} {assign body : Code} {Q : Exit → Act → World → Prop} {a : Act}
    (hro : F.round = none) (h1 : 1 ≤ n) {gf : Nat} {lb : Array Value} (hg : a.eval g = .func (.func gf) #[] lb) (hFg : F.fn gf) (eg : ∀ args w, (callFunc gf args).run P w = .ok (.enter gf args) w)
    {encs : α → Array Value} {Mu : Nat → Prop} {Rd : List α → α → World → Prop} {S Sp : List α → Prop} {w0 : World} (hseq : SeqR F (n - 1) P gf lb encs Mu Rd S Sp w0)
    (hb0 : Below w0.heap.size w0 w) (hps : ∀ x, (encs x).size = ps.size)
    (I : List α → World → Prop) (Ix : Code → List α → World → Prop) (hI : AbNew w.heap.size I) (hIx : ∀ c, AbNew w.heap.size (Ix c)) (hRd : ∀ pre x, OwnFrom w.heap.size (fun (_ : Unit) W => Rd pre x W)) (h0 : I [] w) (As : α → Act → World → Prop) (hAs : ∀ x a, OwnFrom w.heap.size (fun (_ : Unit) W => As x a W))
    (hassign : ∀ (l : Nat) (x : α) (W : World) (K : Act → World → Prop), w.heap.size ≤ W.heap.size → (∀ a W', Below W.heap.size W W' → As x a W' → K a W') →
      assign.wpIn (F.inRound l) (n - 1 - 1) P (Exit.then K (fun _ _ _ => False)) { tmps := (ps.zip (encs x)).foldl (fun t (p, v) => t.setIfInBounds p v) a.tmps, defers := [] } W)
    (hbody : ∀ (l : Nat) (pre : List α) (x : α) (W : World) (a : Act), w.heap.size ≤ W.heap.size → I pre W → Rd pre x W → As x a W → body.wpIn (F.inRound l) (n - 1 - 1) P (postR Mu w.heap.size I Ix (pre ++ [x]) W) a W)
    (hdone : ∀ (D : Nat) (xs : List α) (W : World), w.heap.size ≤ D → S xs → I xs W → W.heap[D]? = some (.deferred (some [])) → Q .normal { a with defers := { target := .collected D, args := #[] } :: a.defers } W)
    (hstop : ∀ (D : Nat) (c : Code) (pre : List α) (W : World), w.heap.size ≤ D → Sp pre → Ix c pre W → W.heap[D]? = some (.deferred (some [])) → c.wpIn F n P Q { a with defers := { target := .collected D, args := #[] } :: a.defers } W) :
    (Code.rangeFunc g ps assign body).wpIn F n P Q a w := by
  refine wpIn_rangeFunc fun fn hfn => ?_
  rw [hro]
  -- the loop's record, and the world that bears it and the block for deferred calls
  obtain ⟨rec, hrec⟩ : ∃ rec : LoopState → Option Code → Loop, rec = fun st pe => { state := st, pending := pe, fn, tmps := a.tmps, params := ps, assign, body, defers := w.heap.size } := ⟨_, rfl⟩
  obtain ⟨V, hV⟩ : ∃ V, (w.alloc (.deferred (some []))).alloc (.loop (rec .ready none)) = V := ⟨_, rfl⟩
  have vL : V.heap[w.heap.size + 1]? = some (.loop (rec .ready none)) := by
    subst hV
    have := World.alloc_heap_new (w.alloc (.deferred (some []))) (.loop (rec .ready none))
    rwa [World.size_alloc] at this
  have vD : V.heap[w.heap.size]? = some (.deferred (some [])) := by
    subst hV
    exact (Below.heap_alloc _ _ _ (by simp)).trans (World.alloc_heap_new w _)
  have vI : I [] V := by subst hV; exact hI.alloc _ (hI.alloc _ h0)
  have vS : V.heap.size = w.heap.size + 2 := by subst hV; simp
  have vB : Below w0.heap.size w0 V := by
    subst hV
    exact hb0.trans ((((Below.refl _ w).alloc (Nat.le_refl _) _).alloc (by simp) _).mono hb0.size)
  refine ⟨w.heap.size + 1, [{ target := .collected w.heap.size, args := #[] }], V, { target := .fn (.func gf) lb, args := #[.func (.yield (w.heap.size + 1)) #[] #[]] }, V, gf, #[.func (.yield (w.heap.size + 1)) #[] #[]] ++ lb, V, ?_, ?_, ?_, ?_, fun _ => h1, ?_⟩
  · rw [← hV, hrec]; exact run_enterLoop_outer _ _ _ _ _
  · simp only [resolve, hg]
    simp [go_sem]
  · intro f' hf'
    simp [Target.leads] at hf'
    subst hf'
    exact hFg
  · simp [invoke, go_sem, eg]
  have apart : ∀ {A B : World} {row : Option Nat} {k : Nat} {o : Obj}, A.heap[k]? = some o → A.grownBy B row → (∀ r, row = some r → V.heap.size ≤ r) → k < V.heap.size → B.heap[k]? = some o := fun hk hg hr hlt =>
    (hg.block _ (Array.getElem?_eq_some_iff.1 hk).1 (fun e => by have := hr _ e.symm; omega)).trans hk
  refine (hseq (w.heap.size + 1)
    (fun pre W => I pre W ∧ W.heap[w.heap.size + 1]? = some (.loop (rec .ready none)) ∧ W.heap[w.heap.size]? = some (.deferred (some [])))
    (fun pre W => ∃ c, Ix c pre W ∧ W.heap[w.heap.size + 1]? = some (.loop (rec .done (some c))) ∧ W.heap[w.heap.size]? = some (.deferred (some [])))
    V vB
    (fun s A B row hs hg' hr => ⟨hI s A B row hs.1 hg' (fun r e => by have := hr r e; omega), apart hs.2.1 hg' hr (by omega), apart hs.2.2 hg' hr (by omega)⟩)
    (fun s A B row hs hg' hr => by
      obtain ⟨c, hc, hl, hk⟩ := hs
      exact ⟨c, hIx c s A B row hc hg' (fun r e => by have := hr r e; omega), apart hl hg' hr (by omega), apart hk hg' hr (by omega)⟩)
    ?round ⟨vI, vL, vD⟩).mono ?behind
  case round =>
    rintro pre x W0 ⟨hi0, hl0, hk0⟩ hrd0
    have hlt0 : w.heap.size + 1 < W0.heap.size := (Array.getElem?_eq_some_iff.1 hl0).1
    have hy := run_yield (P := P) (args := encs x) hl0 (by rw [hrec]; exact hps x)
    rw [hrec] at hy
    refine ⟨fn, _, assign, body, hy, roundIn_of_wpIn hfn (hassign _ x W0 _ (by omega) (fun a2 W hBW hA2 => ⟨_, run_beginRound ((hBW.block _ hlt0).trans hl0) (by rw [hrec]), ?_⟩))⟩
    clear hy
    have hl := (hBW.block _ hlt0).trans hl0
    have hk := (hBW.block _ (show w.heap.size < W0.heap.size by omega)).trans hk0
    have hi := hI.grow hi0 hBW
    have hrd := (hRd pre x) () W0 W none hrd0 ⟨hBW.os, hBW.tape, hBW.output, hBW.size, fun k hk _ => hBW.block k hk⟩ (fun r e => by cases e)
    have hlt : w.heap.size + 1 < W.heap.size := (Array.getElem?_eq_some_iff.1 hl).1
    have bL : (W.putObj (w.heap.size + 1) (.loop { rec .ready none with state := .busy })).heap[w.heap.size + 1]? = some (.loop { rec .ready none with state := .busy }) := World.putObj_heap_same hlt
    have bD : (W.putObj (w.heap.size + 1) (.loop { rec .ready none with state := .busy })).heap[w.heap.size]? = some (.deferred (some [])) := (World.putObj_heap_other (by omega)).trans hk
    refine wpIn_mono (hbody _ pre x _ _ (by simp; omega) (hI.putObj _ hi (by omega)) ((hRd pre x).putObj (s := ()) _ hrd (by omega) hl rfl) ((hAs x a2).putObj (s := ()) _ hA2 (by omega) hl rfl)) ?_
    -- the round's end
    have fin : ∀ (jump : Option Code) (U : World), KeepOut (fun _ => True) w.heap.size (W.putObj (w.heap.size + 1) (.loop { rec .ready none with state := .busy })) U →
        (Instr.endRound (w.heap.size + 1) jump).run P U = .ok (.bool jump.isNone) (U.putObj (w.heap.size + 1) (.loop (rec (if jump.isNone then .ready else .done) jump))) ∧
        U.heap[w.heap.size + 1]? = some (.loop { rec .ready none with state := .busy }) ∧
        (U.putObj (w.heap.size + 1) (.loop (rec (if jump.isNone then .ready else .done) jump))).heap[w.heap.size + 1]? = some (.loop (rec (if jump.isNone then .ready else .done) jump)) ∧
        (U.putObj (w.heap.size + 1) (.loop (rec (if jump.isNone then .ready else .done) jump))).heap[w.heap.size]? = some (.deferred (some [])) := fun jump U hkU => by
      have uL := hkU.2 _ _ bL (fun h => by omega)
      have := run_endRound (P := P) jump uL
      rw [hrec] at this ⊢
      exact ⟨this, by rw [hrec] at uL; exact uL, World.putObj_heap_same (Array.getElem?_eq_some_iff.1 uL).1, (World.putObj_heap_other (by omega)).trans (hkU.2 _ _ bD (fun h => by omega))⟩
    have out : ∀ (c : Code) (U : World), KeepOut (fun _ => True) w.heap.size (W.putObj (w.heap.size + 1) (.loop { rec .ready none with state := .busy })) U → Ix c (pre ++ [x]) U →
        (∃ c', Ix c' (pre ++ [x]) (U.putObj (w.heap.size + 1) (.loop (rec .done (some c)))) ∧ (U.putObj (w.heap.size + 1) (.loop (rec .done (some c)))).heap[w.heap.size + 1]? = some (.loop (rec .done (some c'))) ∧ (U.putObj (w.heap.size + 1) (.loop (rec .done (some c)))).heap[w.heap.size]? = some (.deferred (some []))) ∧ KeepOut (fun _ => True) V.heap.size W0 (U.putObj (w.heap.size + 1) (.loop (rec .done (some c)))) := fun c U hkU hix => by
      obtain ⟨_, h3, h4, h5⟩ := fin (some c) U hkU
      refine ⟨⟨c, (hIx c).putObj _ hix (by omega), h4, h5⟩, (KeepOut.grow _ _ hBW).trans ⟨by have := hkU.1; simpa using this, fun k o hk hm => ?_⟩⟩
      have hkl : k ≠ w.heap.size + 1 := fun e => hm (by omega) trivial
      rw [World.putObj_heap_other hkl]
      exact hkU.2 k o (by rw [World.putObj_heap_other hkl]; exact hk) (fun h => hm (by omega))
    rintro e a3 U hp
    cases e with
    | normal =>
      obtain ⟨hk3, hi3⟩ := hp
      obtain ⟨hr, h3, h4, h5⟩ := fin none U hk3.any
      refine ⟨_, _, hr, .inl ⟨rfl, ⟨hI.putObj _ hi3 (by omega), h4, h5⟩, (KeepOut.grow _ _ hBW).trans ⟨by have := hk3.1; simpa using this, fun k o hk hm => ?_⟩⟩⟩
      by_cases hkl : k = w.heap.size + 1
      · subst hkl
        rw [hl] at hk
        rw [← hk]
        exact h4
      · rw [World.putObj_heap_other hkl]
        exact hk3.2 k o (by rw [World.putObj_heap_other hkl]; exact hk) (fun h => hm (by omega))
    | ret => exact ⟨_, _, (fin (some .ret) U hp.1).1, .inr ⟨rfl, out .ret U hp.1 hp.2⟩⟩
    | exit id => exact ⟨_, _, (fin (some (.exit id)) U hp.1).1, .inr ⟨rfl, out (.exit id) U hp.1 hp.2⟩⟩
    | goto t => exact ⟨_, _, (fin (some (.goto t)) U hp.1).1, .inr ⟨rfl, out (.goto t) U hp.1 hp.2⟩⟩
    | panic ch => exact hp.elim
    | outgrown => exact hp.elim
  case behind =>
    rintro e U ⟨⟨v, rfl⟩, (⟨xs, hS, hi, hl, hk⟩ | ⟨pre, hSp, c, hi, hl, hk⟩)⟩
    · have hr := run_endLoop (P := P) hl (by rw [hrec]; simp)
      rw [hrec] at hr
      exact ⟨none, _, hr, hdone _ xs _ (Nat.le_refl _) hS (hI.putObj _ hi (by omega)) ((World.putObj_heap_other (by omega)).trans hk)⟩
    · have hr := run_endLoop (P := P) hl (by rw [hrec]; simp)
      rw [hrec] at hr
      exact ⟨some c, _, hr, hstop _ c pre _ (Nat.le_refl _) hSp ((hIx c).putObj _ hi (by omega)) ((World.putObj_heap_other (by omega)).trans hk)⟩
end
end Go.Proofs.YtocnabpplbeafaaGreat
/- Loads, allocs, stores of whole elements in a fenced walk. -/
namespace Go.Proofs.YtocnabpplbeafaaGreat
open Go Go.RowKit Lou Go.Shelf
section
variable {F : Fence} {n : Nat} {P : Program} {w w' : World} {ops : Array Oper} {rest : List Oper} {o : Oper} {a : Act} {Q : Exit → Act → World → Prop}
theorem wpIn_loadX {v : Value} (hg : o.guard = none) (T : TypeId) (x : Operand) (hop : o.op = .load T x) (hr : (execOp a.eval o).run P w = .ok (.value v) w') (h : wpListIn F n P ops Q rest (a.put o.dst v) w') : wpListIn F n P ops Q (o :: rest) a w :=
  wpListIn_plain hg fun K' hK' => by
    unfold Oper.wpIn
    refine ⟨by simp [Oper.about, hop], ?_⟩
    rw [Oper.semAt_plain F _ _ (by rw [hop]; intro c hc'; cases hc'), hr]
    exact hK' _ _ h
theorem wpIn_allocX {v : Value} (hg : o.guard = none) (T : TypeId) (hop : o.op = .alloc T) (hr : (execOp a.eval o).run P w = .ok (.value v) w') (h : wpListIn F n P ops Q rest (a.put o.dst v) w') : wpListIn F n P ops Q (o :: rest) a w :=
  wpListIn_plain hg fun K' hK' => by
    unfold Oper.wpIn
    refine ⟨by simp [Oper.about, hop], ?_⟩
    rw [Oper.semAt_plain F _ _ (by rw [hop]; intro c hc'; cases hc'), hr]
    exact hK' _ _ h
theorem wpIn_storeX (hg : o.guard = none) (T : TypeId) (x y : Operand) (hop : o.op = .store T x y) (g : Nat) {t : TypeId} {cs cs' : Array Value} (hx : a.eval x = .pointer (some ⟨g, 0, none⟩)) (hy : a.eval y = .agg cs') {m : Nat} (hT : RowTy P T m) (hb : BlkIs w g t cs) (hn : cs.size = m)
    (hs : cs'.size = cs.size) (h1 : ∀ v ∈ cs'.toList, v.oneCell' = true) (h : wpListIn F n P ops Q rest (a.put o.dst undef) (w.setRow g cs')) : wpListIn F n P ops Q (o :: rest) a w :=
  wpListIn_plain hg fun K' hK' => by
    unfold Oper.wpIn
    refine ⟨by simp [Oper.about, hop], ?_⟩
    rw [Oper.semAt_plain F _ _ (by rw [hop]; intro c hc'; cases hc')]
    unfold execOp
    simp only [hop, hx, hy, Instr.storeAt, Instr.sureAddr, Sem.run_bind, Sem.run_pure, Result.andThen_ok, run_storeW (hn ▸ hT) hb hs h1]
    exact hK' _ _ h
end
end Go.Proofs.YtocnabpplbeafaaGreat
/- slices.Backward over loose writes. -/
namespace Go.Proofs.YtocnabpplbeafaaGreat
open Go Go.RowKit Lou Go.Shelf
attribute [local go_sem] Oper.semAt_some

/-- The k-th loose write, told from the end. -/
def backX (xs : List (Nat × List UInt8)) (k : Nat) : Nat × List UInt8 := xs.getD (xs.length - 1 - k) (0, zer64)
set_option maxRecDepth 100000 in
set_option maxHeartbeats 4000000 in
theorem back1_in (n : Nat) (hn2 : 2 ≤ n) (l Bs g o c : Nat) (xs : List (Nat × List UInt8)) (hw : Wide xs) (A : Option Addr) (hA : 0 < xs.length → A = some ⟨g, o, none⟩) (hLc : xs.length ≤ c) (hL : xs.length ≤ 1000000) (J Jx : List Nat → World → Prop) (BE : Nat)
    (hY : ∀ pre k W, J pre W → (k = pre.length ∧ k < xs.length) → YieldAt Fence.wide (n - 1) Tryz.prog l #[.int .i64 ((xs.length : Int) - 1 - k), .agg (lsC (backX xs k)).toArray] W fun e W' =>
      (e = .returned (.bool true) ∧ J (pre ++ [k]) W' ∧ KeepOut (fun _ => False) BE W W') ∨ (e = .returned (.bool false) ∧ Jx (pre ++ [k]) W' ∧ KeepOut (fun _ => True) BE W W'))
    (W : World) (hcs : W.cell? ⟨Bs, 0, none⟩ = some (.slice A xs.length c)) (hr : ∀ k, (h : k < xs.length) → W.rangeAt g (o + k * 65) (lsC xs[k])) (h0 : J [] W) :
    CallsIn Fence.wide n Tryz.prog 163 #[.func (.yield l) #[] #[], .pointer (some ⟨Bs, 0, none⟩)] W fun e W' => (∃ v, e = .returned v) ∧
      ((∃ ys, ys.length = xs.length ∧ J ys W') ∨ (∃ pre, (pre.length ≤ xs.length ∧ 0 < pre.length) ∧ Jx pre W')) := by
  have h1 : 1 ≤ n := by omega
  have hw0 : IntKind.i64.wrap ((xs.length : Int) - 1) = (xs.length : Int) - 1 := wrap_i64_fr _ (by omega) (by omega)
  refine callsIn_of_wp Tryz.func163 rfl trivial ?_ rfl
  simp only [Tryz.ntmps163, List.size_toArray, List.length_cons, List.length_nil, Nat.reduceAdd, Nat.reduceSub, Array.replicate_succ, Array.replicate_zero, List.push_toArray, List.append_toArray, List.nil_append, List.cons_append]
  gi_wp2
  gi_loopw [3] (fun i wr => ∃ (q : Int) (pre : List Nat), i = .int .i64 q ∧ q = (xs.length : Int) - 1 - pre.length ∧ pre.length ≤ xs.length ∧ J pre wr ∧ KeepOut (fun _ => False) 0 W wr)
    (fun i _ => (intOf i + 1).toNat)
  case atStart => exact ⟨(xs.length : Int) - 1, [], rfl, by simp, by simp, h0, KeepOut.refl _ _ _⟩
  case round =>
    obtain ⟨q, pre, rfl, hq, hb, hJs, hnx⟩ := hrel
    have hc1 : wr.cell? ⟨Bs, 0, none⟩ = some (.slice A xs.length c) := hnx.cell (p := ⟨Bs, 0, none⟩) hcs (fun h => by simp)
    by_cases hlt : 0 ≤ q
    · have hk : xs.length - 1 - pre.length < xs.length := by omega
      obtain rfl := hA (by omega)
      obtain ⟨m, hm⟩ : ∃ m : Nat, m = xs.length - 1 - pre.length := ⟨_, rfl⟩
      rw [← hm] at hk
      have hqm : q = (m : Int) := by omega
      subst hqm
      have hrk : wr.rangeAt g (o + m * 65) (lsC xs[m]) := fun j v hj => hnx.cell (p := ⟨g, o + m * 65 + j, none⟩) (hr m hk j v hj) (fun h => by simp)
      have h65 : (lsC xs[m]).length = 65 := lsC_length (hw _ (List.getElem_mem hk))
      obtain ⟨fn, tmps, assign, body, hy, hR⟩ := hY pre pre.length wr hJs ⟨rfl, by omega⟩
      have hbx : backX xs pre.length = xs[m] := by
        unfold backX
        rw [← hm, List.getD_eq_getElem?_getD, List.getElem?_eq_getElem hk]
        rfl
      rw [hbx, show (xs.length : Int) - 1 - (pre.length : Int) = (m : Int) from by omega] at hy
      obtain ⟨x, hxe⟩ : ∃ x, x = xs[m] := ⟨_, rfl⟩
      rw [← hxe] at hy hrk h65
      have hwm : IntKind.i64.wrap ((m : Int) - 1) = (m : Int) - 1 := wrap_i64_fr _ (by omega) (by omega)
      have HQ := Lib.hid hq
      have H65 := Lib.hid h65
      clear hq hxe hbx hm h65
      gi_wp2_with (refine wpIn_loadX rfl _ _ rfl (x_loadM rowLoose hrk H65.out rfl rfl) ?_)
      refine hR.mono ?_
      have hQ := HQ.out
      rintro e W3 (⟨rfl, hJ3, hk3⟩ | ⟨rfl, hJx3, _⟩)
      · have hnx3 : KeepOut (fun _ => False) 0 W W3 := hnx.trans ⟨hk3.1, fun k o hk hm => hk3.2 k o hk (fun h => by simp)⟩
        clear hQ
        gi_wp2
        go_roundw
        case rel => exact ⟨(m : Int) - 1, pre ++ [pre.length], rfl, by simp; have := HQ.out; omega, by simp; have := HQ.out; omega, hJ3, hnx3⟩
        case measure => simp [intOf]
      · have hl : (pre ++ [pre.length]).length ≤ xs.length ∧ 0 < (pre ++ [pre.length]).length := by simp; omega
        clear hQ
        gi_wp2
        exact bodyPost_ret (results_none rfl _ _ _) rfl ⟨⟨_, rfl⟩, .inr ⟨_, hl, hJx3⟩⟩
    · obtain ⟨hs⟩ : Nonempty (pre.length = xs.length) := ⟨by omega⟩
      gi_wp2
      go_end0
      exact ⟨⟨_, rfl⟩, .inl ⟨pre, hs, hJs⟩⟩
theorem back1_seq (n : Nat) (hn2 : 2 ≤ n) (Bs g o c : Nat) (xs : List (Nat × List UInt8)) (hw : Wide xs) (A : Option Addr) (hA : 0 < xs.length → A = some ⟨g, o, none⟩) (hLc : xs.length ≤ c) (hL : xs.length ≤ 1000000) (w : World) (hBs : Bs < w.heap.size)
    (hcs : w.cell? ⟨Bs, 0, none⟩ = some (.slice A xs.length c)) (hg : 0 < xs.length → g < w.heap.size) (hr : ∀ k, (h : k < xs.length) → w.rangeAt g (o + k * 65) (lsC xs[k])) :
    SeqR Fence.wide n Tryz.prog 163 #[.pointer (some ⟨Bs, 0, none⟩)] (fun k : Nat => #[.int .i64 ((xs.length : Int) - 1 - k), .agg (lsC (backX xs k)).toArray]) (fun _ => False)
      (fun pre k _ => k = pre.length ∧ k < xs.length) (fun ys => ys.length = xs.length) (fun pre => pre.length ≤ xs.length ∧ 0 < pre.length) w := fun l J Jx W hW _ _ hY h0 =>
  back1_in n hn2 l Bs g o c xs hw A hA hLc hL J Jx W.heap.size hY W ((hW.cell (p := ⟨Bs, 0, none⟩) hBs).trans hcs) (fun k h j v hj => (hW.cell (p := ⟨g, o + k * 65 + j, none⟩) (hg (by omega))).trans (hr k h j v hj)) h0
end Go.Proofs.YtocnabpplbeafaaGreat
/- disk: sector: what a sector holds now. -/
namespace Go.Proofs.YtocnabpplbeafaaGreat
open Go Go.RowKit Lou Go.Shelf
attribute [local go_sem] Oper.semAt_some

theorem laid_none (g : Nat → List UInt8) (xs : List (Nat × List UInt8)) (k : Nat) : ∀ m, m ≤ xs.length → (∀ j, (h : j < xs.length) → j < m → xs[j].1 ≠ k) → laid g (xs.take m) k = g k
  | 0, _, _ => rfl
  | m + 1, hm, hno => by
    rw [laid_snoc g xs m (by omega)]
    unfold gset
    rw [if_neg (fun e => hno m (by omega) (by omega) e.symm)]
    exact laid_none g xs k m (by omega) (fun j h hj => hno j h (by omega))
theorem laid_last (g : Nat → List UInt8) (xs : List (Nat × List UInt8)) (k i : Nat) (hi : i < xs.length) (hk : xs[i].1 = k) : ∀ m, i + 1 + m ≤ xs.length → (∀ j, (h : j < xs.length) → i < j → j < i + 1 + m → xs[j].1 ≠ k) → laid g (xs.take (i + 1 + m)) k = xs[i].2
  | 0, _, _ => by
    rw [Nat.add_zero, laid_snoc g xs i hi]
    unfold gset
    rw [if_pos hk.symm]
  | m + 1, hm, hno => by
    rw [← Nat.add_assoc, laid_snoc g xs (i + 1 + m) (by omega)]
    unfold gset
    rw [if_neg (fun e => hno (i + 1 + m) (by omega) (by omega) (by omega) e.symm)]
    exact laid_last g xs k i hi hk m (by omega) (fun j h h1 hj => hno j h h1 (by omega))
theorem backX_at (xs : List (Nat × List UInt8)) (j : Nat) (h : j < xs.length) : backX xs j = xs[xs.length - 1 - j] := by
  unfold backX
  rw [List.getD_eq_getElem?_getD, List.getElem?_eq_getElem (by omega)]
  rfl
theorem back_none (g : Nat → List UInt8) (xs : List (Nat × List UInt8)) (k : Nat) (h : ∀ j, j < xs.length → (backX xs j).1 ≠ k) : laid g xs k = g k := by
  have := laid_none g xs k xs.length (Nat.le_refl _) (fun j hj _ => by
    have h1 := h (xs.length - 1 - j) (by omega)
    rw [backX_at _ _ (by omega)] at h1
    have e : xs.length - 1 - (xs.length - 1 - j) = j := by omega
    simpa only [e] using h1)
  rwa [List.take_length] at this
theorem back_found (g : Nat → List UInt8) (xs : List (Nat × List UInt8)) (k m : Nat) (hm : m < xs.length) (h : ∀ j, j < m → (backX xs j).1 ≠ k) (hk : (backX xs m).1 = k) : laid g xs k = (backX xs m).2 := by
  rw [backX_at _ _ hm] at hk ⊢
  have := laid_last g xs k (xs.length - 1 - m) (by omega) hk m (by omega) (fun j hj h1 h2 => by
    have h3 := h (xs.length - 1 - j) (by omega)
    rw [backX_at _ _ (by omega)] at h3
    have e : xs.length - 1 - (xs.length - 1 - j) = j := by omega
    simpa only [e] using h3)
  have e : xs.length - 1 - m + 1 + m = xs.length := by omega
  rwa [e, List.take_length] at this

section
variable {w : World} {o : Oper} {ρ : Operand → Value}
theorem x_allocSec (ho : o.op = .alloc 107) : (execOp ρ o).run Tryz.prog w = .ok (.value (.pointer (some ⟨w.heap.size, 0, none⟩))) (w.alloc (.cells (zer64.map b8).toArray 107)) := by
  simp [execOp, ho, Instr.alloc, newVar, newRow, go_sem, Result.andThen]
  rfl
theorem x_storeW (T : TypeId) (x y : Operand) (ho : o.op = .store T x y) (g : Nat) {t : TypeId} {cs cs' : Array Value} (hx : ρ x = .pointer (some ⟨g, 0, none⟩)) (hy : ρ y = .agg cs') {m : Nat} (hT : RowTy Tryz.prog T m) (hb : BlkIs w g t cs) (hn : cs.size = m) (hs : cs'.size = cs.size) (h1 : ∀ v ∈ cs'.toList, v.oneCell' = true) :
    (execOp ρ o).run Tryz.prog w = .ok .skip (w.setRow g cs') := by
  unfold execOp
  simp only [ho, hx, hy, Instr.storeAt, Instr.sureAddr, Sem.run_bind, Sem.run_pure, Result.andThen_ok, run_storeW (hn ▸ hT) hb hs h1]
end
theorem fold2 (t : Array Value) (i j : Tmp) (a b : Value) : ((#[i, j] : Array Tmp).zip #[a, b]).foldl (fun t (p, v) => t.setIfInBounds p v) t = (t.setIfInBounds i a).setIfInBounds j b := by
  simp
theorem laid_len : ∀ (xs : List (Nat × List UInt8)) (g : Nat → List UInt8), (∀ m, (g m).length = 64) → Wide xs → ∀ k, (laid g xs k).length = 64
  | [], g, hg, _, k => hg k
  | x :: xs, g, hg, hw, k => laid_len xs (gset g x.1 x.2) (fun m => by
      unfold gset
      split
      · exact hw x (by simp)
      · exact hg m) (fun y hy => hw y (by simp [hy])) k
theorem backX_wide {xs : List (Nat × List UInt8)} (hw : Wide xs) (j : Nat) : (backX xs j).2.length = 64 := by
  unfold backX
  rw [List.getD_eq_getElem?_getD]
  cases h : xs[xs.length - 1 - j]? with
  | none => decide
  | some x => exact hw x (List.mem_of_getElem? h)
theorem below_putObj {B : Nat} {w V : World} (h : Below B w V) (D : Nat) (o : Obj) (hD : B ≤ D) : Below B w (V.putObj D o) :=
  h.trans ⟨rfl, rfl, rfl, by simp, fun k hk => World.putObj_heap_other (by omega)⟩
theorem blk_putObj {V : World} {g : Nat} {t : TypeId} {cs : Array Value} (h : BlkIs V g t cs) (D : Nat) (o : Obj) (hD : g ≠ D) : BlkIs (V.putObj D o) g t cs := (World.putObj_heap_other hD).trans h
abbrev actF (p k hs g6 len c : Nat) (A : Option Addr) (d m : Value) : Act :=
  { tmps := #[.pointer (some ⟨p, 0, none⟩), .int .i64 (k : Int), undef, .pointer (some ⟨hs, 0, none⟩), .pointer (some ⟨hs + 1, 0, none⟩), undef, .pointer (some ⟨g6, 0, none⟩), .pointer (some ⟨p, 0, none⟩), .pointer (some ⟨p, 0, none⟩), .pointer (some ⟨p, 2, none⟩), .slice A len c,
      .func (.func 163) #[] #[.pointer (some ⟨hs + 1 + 1, 0, none⟩)], d, m, undef, undef, undef, undef, undef, undef, undef, undef, undef, undef, undef, undef], defers := [] }
set_option maxHeartbeats 1000000 in
theorem back_in (n : Nat) (A : Option Addr) (len cap : Nat) (w : World) :
    CallsIn Fence.wide n Tryz.prog 145 #[.slice A len cap] w fun e w' => e = .returned (.func (.func 163) #[] #[.pointer (some ⟨w.heap.size, 0, none⟩)]) ∧ w.alloc (.cells #[.slice A len cap] 83) = w' := by
  refine callsIn_of_wp Tryz.func145 rfl trivial ?_ rfl
  simp only [Tryz.ntmps145, List.size_toArray, List.length_cons, List.length_nil, Nat.reduceAdd, Nat.reduceSub, Array.replicate_succ, Array.replicate_zero, List.push_toArray, List.append_toArray, List.nil_append, List.cons_append]
  gi_wp2
  go_ret
  exact ⟨rfl, rfl⟩

set_option maxRecDepth 100000 in
set_option maxHeartbeats 4000000 in
theorem sector_in (n : Nat) (hn : 6 ≤ n) (w : World) (p many : Nat) (g : Nat → List UInt8) (xs : List (Nat × List UInt8)) (left : Int) (stops : Bool) (hD : DkIs w p many g xs left stops) (hl : xs.length ≤ 1000000) (k : Nat) :
    CallsIn Fence.wide n Tryz.prog 128 #[.pointer (some ⟨p, 0, none⟩), .int .i64 (k : Int)] w fun e w' => e = .returned (secV (laid g xs k)) ∧ Below w.heap.size w w' := by
  obtain ⟨r, A, c, hb, hm, hw, hx⟩ := hD.has
  have h1 : 1 ≤ n := by omega
  obtain ⟨W2, hW2⟩ : ∃ W2, W2 = (w.alloc (.cells #[.int .i64 (k : Int)] 3)).alloc (.cells (zer64.map b8).toArray 107) := ⟨_, rfl⟩
  have hB2 : Below w.heap.size w W2 := by rw [hW2]; exact ((Below.refl _ w).alloc (Nat.le_refl _) _).alloc (by simp) _
  have s2 : W2.heap.size = w.heap.size + 1 + 1 := by rw [hW2]; simp
  have bk : BlkIs W2 w.heap.size 3 #[.int .i64 (k : Int)] := by rw [hW2]; exact (BlkIs.new w _ _).alloc _
  have bs : BlkIs W2 (w.heap.size + 1) 107 (zer64.map b8).toArray := by
    have := BlkIs.new (w.alloc (.cells #[.int .i64 (k : Int)] 3)) 107 (zer64.map b8).toArray
    rw [World.size_alloc] at this
    rw [hW2]
    exact this
  have c2 : W2.cell? ⟨p, 2, none⟩ = some (.slice A xs.length c) := by
    rw [hB2.cell (p := ⟨p, 2, none⟩) hb.lt, hb.cell]
    rfl
  have HW2 := Lib.hid hW2
  refine callsIn_of_wp_marks Tryz.func128 rfl trivial ?_ rfl
  simp only [Tryz.ntmps128, List.size_toArray, List.length_cons, List.length_nil, Nat.reduceAdd, Nat.reduceSub, Array.replicate_succ, Array.replicate_zero, List.push_toArray, List.append_toArray, List.nil_append, List.cons_append]
  clear hW2
  gi_wp2_with (first
    | (refine wpIn_allocX rfl _ rfl (x_allocSec rfl) ?_; rw [World.size_alloc, ← HW2.out])
    | (refine ⟨trivial, ?_⟩; gi_at_call 145; refine (back_in (n - 1) _ _ _ _).mono ?_; rintro e w' ⟨rfl, rfl⟩))
  have hle := hx.le
  obtain ⟨gA, oA, hA⟩ : ∃ gA oA, 0 < xs.length → A = some ⟨gA, oA, none⟩ ∧ gA < w.heap.size := by
    by_cases h0 : 0 < xs.length
    · obtain ⟨gA, oA, e, hg, _⟩ := hx.lies h0
      exact ⟨gA, oA, fun _ => ⟨e, hg⟩⟩
    · exact ⟨0, 0, fun h => absurd h h0⟩
  have hr4 : ∀ j, (h : j < xs.length) → w.rangeAt gA (oA + j * 65) (lsC xs[j]) := fun j h => by
    obtain ⟨e, hg⟩ := hA (by omega)
    subst e
    exact InW.elem ⟨hw, hx⟩ j h
  obtain ⟨W4, hW4⟩ : ∃ W4, W4 = W2.alloc (.cells #[.slice A xs.length c] 83) := ⟨_, rfl⟩
  have hB4 : Below w.heap.size w W4 := by rw [hW4]; exact hB2.alloc hB2.size _
  have s4 : W4.heap.size = w.heap.size + 1 + 1 + 1 := by rw [hW4]; simp [s2]
  have bk4 : BlkIs W4 w.heap.size 3 #[.int .i64 (k : Int)] := by rw [hW4]; exact bk.alloc _
  have bs4 : BlkIs W4 (w.heap.size + 1) 107 (zer64.map b8).toArray := by rw [hW4]; exact bs.alloc _
  have hcs4 : W4.cell? ⟨w.heap.size + 1 + 1, 0, none⟩ = some (.slice A xs.length c) := by rw [hW4, ← s2]; exact (BlkIs.new W2 83 #[.slice A xs.length c]).boxed
  rw [← hW4]
  have hk0 : MapF w r g := hm
  have hm0 : w.cell? ⟨p, 0, none⟩ = some (.map (some r)) := by rw [hb.cell]; rfl
  have hplt := hb.lt
  have HS4 := Lib.hid s4
  clear hW4 bk bs c2 HW2 s2 hB2
  refine wpIn_rangeFunc_A rfl h1 (gf := 163) (lb := #[.pointer (some ⟨w.heap.size + 1 + 1, 0, none⟩)]) rfl trivial (enters_of Tryz.func163 (by kernel_rfl) rfl)
    (back1_seq (n - 1) (by omega) (w.heap.size + 1 + 1) gA oA c xs hw A (fun h => (hA h).1) hle hl W4 (by omega) hcs4 (fun h => by have := (hA h).2; omega) (fun j h i v hi => (hB4.cell (p := ⟨gA, oA + j * 65 + i, none⟩) (hA (by omega)).2).trans (hr4 j h i v hi))) (Below.refl _ _) (fun _ => rfl)
    (fun pre V => Below w.heap.size w V ∧ BlkIs V w.heap.size 3 #[.int .i64 (k : Int)] ∧ BlkIs V (w.heap.size + 1) 107 (zer64.map b8).toArray ∧ (∀ j, j < pre.length → (backX xs j).1 ≠ k))
    (fun cd _ V => cd = .ret ∧ Below w.heap.size w V ∧ BlkIs V (w.heap.size + 1) 107 ((laid g xs k).map b8).toArray)
    ?own ?own2 ?ownR ⟨hB4, bk4, bs4, fun j h => by simp at h⟩
    (fun j a V => ∃ g6, a = actF p k w.heap.size g6 xs.length c A (.int .i64 ((xs.length : Int) - 1 - j)) (.agg (lsC (backX xs j)).toArray) ∧ BlkIs V g6 110 (lsC (backX xs j)).toArray)
    ?ownA ?assign ?body ?done ?stop
  case own =>
    rintro pre X Y row ⟨h1, h2, h3, h4⟩ hgr hr
    exact ⟨below_abNew (B := W4.heap.size) (by omega) h1.size h1 hgr hr, h2.abNew (by omega) hgr hr, h3.abNew (by omega) hgr hr, h4⟩
  case own2 =>
    rintro cd pre X Y row ⟨e, h1, h3⟩ hgr hr
    exact ⟨e, below_abNew (B := W4.heap.size) (by omega) h1.size h1 hgr hr, h3.abNew (by omega) hgr hr⟩
  case ownR => exact fun pre x => ownFrom_pure _ _
  case ownA =>
    rintro j a ⟨⟩ X Y row ⟨g6, e, h⟩ hgr hr
    refine ⟨g6, e, h.grown hgr (fun e2 => ?_)⟩
    obtain ⟨_, o, ho, hc⟩ := hr g6 e2.symm
    have h' : X.heap[g6]? = some (.cells (lsC (backX xs j)).toArray 110 (0, 0)) := h
    rw [h'] at ho
    cases ho
    cases hc
  case assign =>
    intro l1 j V K hV hK
    have hx6 := backX_wide hw j
    generalize backX xs j = x at *
    have h65 := lsC_length hx6
    have hsz : (lsC x).toArray.size = (lsC (0, zer64)).toArray.size := by rw [List.size_toArray, List.size_toArray, h65]; rfl
    have n0 := BlkIs.new V 110 (lsC (0, zer64)).toArray
    have nb := n0.setRow (lsC x).toArray
    have hBV : Below V.heap.size V ((V.alloc (.cells (lsC (0, zer64)).toArray 110)).setRow V.heap.size (lsC x).toArray) := below_setRow ((Below.refl _ V).alloc (Nat.le_refl _) _) (Nat.le_refl _) _
    have HZ := Lib.hid hsz
    clear hsz h65 hx6
    rw [fold2]
    simp only [List.setIfInBounds_toArray, List.set_cons_zero, List.set_cons_succ]
    gi_wp2_with (first
      | (refine wpIn_allocX rfl _ rfl (x_allocLs rfl) ?_)
      | (refine wpIn_storeX rfl 110 (.tmp 6) (.tmp 13) rfl V.heap.size rfl rfl rowLoose n0 (by rfl) HZ.out (lsC_one _) ?_))
    exact hK _ _ hBV ⟨V.heap.size, rfl, nb⟩
  case body =>
    rintro l1 pre j V a hWV ⟨hB, hk3, hs3, hno⟩ ⟨rfl, hj⟩ ⟨g6, rfl, h6⟩
    have hx6 := backX_wide hw pre.length
    have hfo := back_found g xs k pre.length hj hno
    have hcon : (backX xs pre.length).1 ≠ k → ∀ j, j < (pre ++ [pre.length]).length → (backX xs j).1 ≠ k := fun h j hj => by
      simp at hj
      by_cases e : j = pre.length
      · subst e; exact h
      · exact hno j (by omega)
    generalize backX xs pre.length = x at *
    obtain ⟨x1, x2⟩ := x
    simp only at hx6 hfo hcon
    have d0 : V.cell? ⟨g6, 0, none⟩ = some (.int .i64 (x1 : Int)) := by rw [h6.cell]; rfl
    have ck : V.cell? ⟨w.heap.size, 0, none⟩ = some (.int .i64 (k : Int)) := hk3.boxed
    have dr : V.rangeAt g6 1 (x2.map b8) := fun j v hj => by
      rw [h6.cell]
      simpa [lsC, Nat.add_comm] using hj
    have hl6 : (x2.map b8).length = 64 := by rw [List.length_map]; exact hx6
    have hsz : (x2.map b8).toArray.size = (zer64.map b8).toArray.size := by rw [List.size_toArray, hl6]; rfl
    have HL6 := Lib.hid hl6
    have HZ := Lib.hid hsz
    have HNO := Lib.hid hno
    clear hl6 hsz hx6 hno
    by_cases hxk : x1 = k
    · subst hxk
      have hfo2 := Lib.hid (hfo rfl)
      clear hfo hcon
      gi_wp2_with (first
        | (refine wpIn_loadX rfl _ _ rfl (x_loadM rowDSec dr HL6.out rfl rfl) ?_)
        | (refine wpIn_storeX rfl _ (.tmp 4) (.tmp 19) rfl (w.heap.size + 1) rfl rfl rowDSec hs3 (by rfl) HZ.out (b8_one _) ?_))
      rw [hfo2.out]
      exact ⟨⟨by simp, fun k o hk hm => (setRow_other _ _ _ _ (by intro e; subst e; exact hm (by omega) trivial)).trans hk⟩, rfl, below_setRow hB (by omega) _, hs3.setRow _⟩
    · have hne : ¬ (x1 : Int) = (k : Int) := by omega
      have hc2 := Lib.hid (hcon hxk)
      clear hfo hcon hxk
      gi_wp2
      exact ⟨KeepOut.refl _ _ _, hB, hk3, hs3, hc2.out⟩
  case done =>
    rintro D ys V hD hS ⟨hB, hk3, hs3, hno⟩ hK
    have hfo := back_none g xs k (by rw [← hS]; exact hno)
    have hglen : (g k).length = 64 := hm.len k
    have hSd : V.drew.cell? ⟨p, 0, none⟩ = some (.map (some r)) ∧ V.drew.cell? ⟨w.heap.size, 0, none⟩ = some (.int .i64 (k : Int)) ∧ MapF V.drew r g := ⟨(hB.drew.cell (p := ⟨p, 0, none⟩) hplt).trans hm0, hk3.boxed, hm.grow hB.drew⟩
    have hsz : ((g k).map b8).toArray.size = (zer64.map b8).toArray.size := by rw [List.size_toArray, List.length_map, hglen]; rfl
    have HZ := Lib.hid hsz
    have HF := Lib.hid hfo
    clear hsz hfo hglen hno hS
    gi_wp2
    refine wpIn_wide.2 ?_
    refine wp_region_noPanic ?_
    refine RegF.start (fun W => W.cell? ⟨p, 0, none⟩ = some (.map (some r)) ∧ W.cell? ⟨w.heap.size, 0, none⟩ = some (.int .i64 (k : Int)) ∧ MapF W r g) 6 (by kernel_rfl) ?_
    refine RegF.take 0 (.pointer (some ⟨p, 0, none⟩)) rfl (by kernel_rfl) (by kernel_rfl) (by kernel_rfl) (by kernel_rfl) (fun _ _ _ h => h) hSd (RegF.yld rfl (fun W hW => by go_simp)) ?_
    simp only [List.getElem_toArray, List.getElem_cons_zero, Act.put, List.setIfInBounds_toArray, List.set_cons_zero, List.set_cons_succ]
    refine RegF.take 1 (.pointer (some ⟨p, 0, none⟩)) rfl (by kernel_rfl) (by kernel_rfl) (by kernel_rfl) (by kernel_rfl) (fun _ _ _ h => h) hSd (RegF.yld rfl (fun W hW => by go_simp)) ?_
    simp only [List.getElem_toArray, List.getElem_cons_succ, List.getElem_cons_zero, Act.put, List.setIfInBounds_toArray, List.set_cons_zero, List.set_cons_succ]
    refine RegF.take 2 (.pointer (some ⟨p, 0, none⟩)) rfl (by kernel_rfl) (by kernel_rfl) (by kernel_rfl) (by kernel_rfl) (fun _ _ _ h => h) hSd (RegF.yld rfl (fun W hW => by go_simp)) ?_
    simp only [List.getElem_toArray, List.getElem_cons_succ, List.getElem_cons_zero, Act.put, List.setIfInBounds_toArray, List.set_cons_zero, List.set_cons_succ]
    refine RegF.take 3 (.map (some r)) rfl (by kernel_rfl) (by kernel_rfl) (by kernel_rfl) (by kernel_rfl) (fun _ _ _ h => h) hSd (RegF.yld rfl (fun W hW => by have e := hW.1; go_simp)) ?_
    simp only [List.getElem_toArray, List.getElem_cons_succ, List.getElem_cons_zero, Act.put, List.setIfInBounds_toArray, List.set_cons_zero, List.set_cons_succ]
    refine RegF.take 4 (.int .i64 (k : Int)) rfl (by kernel_rfl) (by kernel_rfl) (by kernel_rfl) (by kernel_rfl) (fun _ _ _ h => h) hSd (RegF.yld rfl (fun W hW => by have e := hW.2.1; go_simp)) ?_
    simp only [List.getElem_toArray, List.getElem_cons_succ, List.getElem_cons_zero, Act.put, List.setIfInBounds_toArray, List.set_cons_zero, List.set_cons_succ]
    refine RegF.take 5 (secV (g k)) rfl (by kernel_rfl) (by kernel_rfl) (by kernel_rfl) (by kernel_rfl) (fun _ _ _ h => h) hSd (RegF.yld rfl (fun W hW => x_lookup hW.2.2 rfl rfl rfl)) ?_
    simp only [List.getElem_toArray, List.getElem_cons_succ, List.getElem_cons_zero, Act.put, List.setIfInBounds_toArray, List.set_cons_zero, List.set_cons_succ]
    refine RegF.one 6 (by kernel_rfl) ?_
    refine RegF.opS (w' := V.drew.setRow (w.heap.size + 1) ((g k).map b8).toArray) rfl rfl (x_storeW _ (.tmp 4) (.tmp 25) rfl (w.heap.size + 1) rfl rfl rowDSec hs3 (by rfl) HZ.out (b8_one _)) ⟨fun h => absurd rfl h, ?_⟩
    simp only [List.getElem_toArray, List.getElem_cons_succ, List.getElem_cons_zero, Act.put]
    refine RegF.done (by kernel_rfl) ?_
    have hs5 : BlkIs (V.drew.setRow (w.heap.size + 1) ((g k).map b8).toArray) (w.heap.size + 1) 107 ((laid g xs k).map b8).toArray := by
      rw [HF.out]
      exact BlkIs.setRow (w := V.drew) hs3 _
    have hB5 : Below w.heap.size w (V.drew.setRow (w.heap.size + 1) ((g k).map b8).toArray) := below_setRow hB.drew (by omega) _
    have hK5 : (V.drew.setRow (w.heap.size + 1) ((g k).map b8).toArray).heap[D]? = some (.deferred (some [])) := (setRow_other _ _ _ _ (by omega)).trans hK
    have hszl : ((laid g xs k).map b8).toArray.size = 64 := by rw [HF.out, HZ.out]; rfl
    generalize V.drew.setRow (w.heap.size + 1) ((g k).map b8).toArray = V5 at *
    simp only [NoPanic]
    gi_wp2
    refine ⟨by simp, .inl ⟨_, _, rfl, run_takeDeferred hK5, ?_⟩⟩
    exact ⟨_, results_cellW 4 rfl rfl rowDSec (blk_putObj hs5 D _ (by omega)) hszl, rfl, below_putObj hB5 D _ (by omega)⟩
  case stop =>
    rintro D cd pre V hD hS ⟨rfl, hB, hs3⟩ hK
    have hszl : ((laid g xs k).map b8).toArray.size = 64 := by rw [List.size_toArray, List.length_map, laid_len xs g hm.len hw k]
    gi_wp2
    refine ⟨by simp, .inl ⟨_, _, rfl, run_takeDeferred hK, ?_⟩⟩
    exact ⟨_, results_cellW 4 rfl rfl rowDSec (blk_putObj hs3 D _ (by omega)) hszl, rfl, below_putObj hB D _ (by omega)⟩
end Go.Proofs.YtocnabpplbeafaaGreat
/- disk: Read. -/
namespace Go.Proofs.YtocnabpplbeafaaGreat
open Go Go.RowKit Lou

section
variable (w : World) (p many : Nat) (g : Nat → List UInt8) (xs : List (Nat × List UInt8)) (left : Int) (stops : Bool)
theorem rd_asks (hD : DkIs w p many g xs left stops) (hs : (stops && left == 0) = false) (k : Nat) (hk : k < many) (w1 w2 : World) (hB1 : Below w.heap.size w w1) (hB2 : Below w1.heap.size w1 w2)
    (b0 : BlkIs w1 w.heap.size 28 #[.pointer (some ⟨p, 0, none⟩)]) (b1 : BlkIs w1 (w.heap.size + 1) 3 #[.int .i64 (k : Int)]) :
    Calls Tryz.prog 58 #[.pointer (some ⟨p, 0, none⟩), .slice (some ⟨w2.heap.size, 0, none⟩) 2 2] (w2.alloc (.cells #[.func (.func 141) #[] #[.pointer (some ⟨w.heap.size + 1, 0, none⟩), .pointer (some ⟨w.heap.size, 0, none⟩)], .int .i64 4, .func (.func 124) #[.pointer (some ⟨p, 0, none⟩)] #[], .int .i64 140] 113))
      fun e w' => e = .returned (.int .i64 0) ∧ Below w2.heap.size w2 w' := by
  have h1 := hD.grow (hB1.trans (hB2.mono hB1.size))
  have e3 := asked2_gives w2 p many g xs left stops h1 (askThere w.heap.size (w.heap.size + 1) many k) (askGoes p left stops)
    (ans_there w2 p many g xs left stops k _ _ h1 (b0.below hB2 b0.lt) (b1.below hB2 b1.lt)) (ans_goes w2 p many g xs left stops h1)
  have hf : firstE [askThere w.heap.size (w.heap.size + 1) many k, askGoes p left stops] = 0 := by
    have a1 : decide ((k : Int) < 0) = false := by simp
    have a2 : ¬ many ≤ k := by omega
    have hs' : (askGoes p left stops).b = false := hs
    simp [firstE, askThere, a2, hs']
  rw [hf] at e3
  exact e3

set_option maxRecDepth 100000 in
set_option maxHeartbeats 4000000 in
theorem read_gives (hD : DkIs w p many g xs left stops) (hs : (stops && left == 0) = false) (k : Nat) (hk : k < many) (hl : xs.length ≤ 1000000) :
    Calls Tryz.prog 99 #[.pointer (some ⟨p, 0, none⟩), .int .i64 (k : Int)] w fun e w' => ∃ q, e = .returned (.tuple #[.slice (some ⟨q, 0, none⟩) 64 64, .int .i64 0]) ∧ InB w' w'.heap.size (some ⟨q, 0, none⟩) 64 (laid g xs k) ∧ Below w.heap.size w w' := by
  have HT := there_gives w p k
  have HA := fun w1 w2 hB1 hB2 b0' b1' => rd_asks w p many g xs left stops hD hs k hk w1 w2 hB1 hB2 b0' b1'
  have HX : ∀ W, Below w.heap.size w W → Calls Tryz.prog 128 #[.pointer (some ⟨p, 0, none⟩), .int .i64 (k : Int)] W fun e w' => e = .returned (secV (laid g xs k)) ∧ Below W.heap.size W w' := fun W hW => callsIn_wide.1 (sector_in 6 (Nat.le_refl _) W p many g xs left stops (hD.grow hW) hl k)
  have hlen : (laid g xs k).length = 64 := by
    obtain ⟨r, A, c, hb, hm, hw, hx⟩ := hD.has
    exact laid_len xs g hm.len hw k
  generalize laid g xs k = y at *
  have hsz : (y.map b8).toArray.size = (zer64.map b8).toArray.size := by rw [List.size_toArray, List.length_map, hlen]; rfl
  have HL := Lib.hid hlen
  have HZ := Lib.hid hsz
  unfold secV at HX
  clear hs hlen hsz
  go_enter Tryz.func99, Tryz.ntmps99
  go_wp2_with (first
    | (go_at_call 123; refine HT.mono ?_; rintro e w1 ⟨rfl, s1, s2, hB1⟩)
    | (go_at_call 93; refine (goes_gives w1 p).mono ?_; rintro e w2 ⟨rfl, hB2⟩)
    | (go_at_call 58; refine (HA w1 w2 hB1 hB2 s1 s2).mono ?_; rintro e w3 ⟨rfl, hB3⟩; have hB03 : Below w.heap.size w w3 := hB1.trans ((hB2.trans (hB3.mono hB2.size)).mono hB1.size))
    | (go_at_call 128; refine (HX _ hB03).mono ?_; rintro e w4 ⟨rfl, hB4⟩; have hB04 : Below w.heap.size w w4 := hB03.trans (hB4.mono hB03.size); have n0 := BlkIs.new w4 107 (zer64.map b8).toArray)
    | (refine wp_exec rfl (x_allocSec rfl) ?_)
    | (refine wp_storeW rfl 107 (.tmp 7) (.tmp 21) rfl w4.heap.size rfl rfl rowDSec n0 (by rfl) HZ.out (b8_one _) ?_))
  refine bodyPost_ret (results_tmp2 rfl _ _ _) rfl ?_
  have nb := n0.setRow (y.map b8).toArray
  have hBf : Below w.heap.size w ((w4.alloc (.cells (zer64.map b8).toArray 107)).setRow w4.heap.size (y.map b8).toArray) := below_setRow (hB04.alloc hB04.size _) hB04.size _
  refine ⟨w4.heap.size, rfl, ⟨by rw [HL.out]; exact Nat.le_refl _, by omega, (fun h => by cases h), fun _ => ⟨w4.heap.size, 0, rfl, nb.lt, fun j hj => ?_⟩⟩, hBf⟩
  rw [nb.cell, Nat.zero_add]
  simp [hj, b8]
end
end Go.Proofs.YtocnabpplbeafaaGreat
/- frame: Sectors, FrameAt, PageAt; the reference's; Right. -/
namespace Go.Proofs.YtocnabpplbeafaaGreat
open Go Go.RowKit Lou

section
variable (fr pg n : Int)
set_option maxRecDepth 100000 in
set_option maxHeartbeats 1000000 in
theorem sectors1_gives (W : World) (g : Nat) (hb : BlkIs W g 23 #[.int .i64 fr, .int .i64 pg]) (h1 : 1 ≤ fr ∧ fr ≤ 2000) (h2 : 1 ≤ pg ∧ pg ≤ 2000) :
    Calls Tryz.prog 73 #[.pointer (some ⟨g, 0, none⟩)] W fun e w' => e = .returned (.int .i64 (2 + 9 * fr + 8 * pg)) ∧ W = w' := by
  have hc0 : W.cell? ⟨g, 0, none⟩ = some (.int .i64 fr) := by rw [hb.cell]; rfl
  have hc1 : W.cell? ⟨g, 1, none⟩ = some (.int .i64 pg) := by rw [hb.cell]; rfl
  have e1 : IntKind.i64.wrap (9 * fr) = 9 * fr := wrap_i64_fr _ (by omega) (by omega)
  have e2 : IntKind.i64.wrap (2 + 9 * fr) = 2 + 9 * fr := wrap_i64_fr _ (by omega) (by omega)
  have e3 : IntKind.i64.wrap (8 * pg) = 8 * pg := wrap_i64_fr _ (by omega) (by omega)
  have e4 : IntKind.i64.wrap (2 + 9 * fr + 8 * pg) = 2 + 9 * fr + 8 * pg := wrap_i64_fr _ (by omega) (by omega)
  go_enter Tryz.func73, Tryz.ntmps73
  go_wp2
  go_ret
  exact ⟨rfl, rfl⟩
set_option maxRecDepth 100000 in
set_option maxHeartbeats 1000000 in
theorem frameAt1_gives (W : World) (g : Nat) (hb : BlkIs W g 3 #[.int .i64 n]) (h1 : 0 ≤ n ∧ n < 2000) :
    Calls Tryz.prog 87 #[.pointer (some ⟨g, 0, none⟩)] W fun e w' => e = .returned (.int .i64 (2 + 9 * n)) ∧ W = w' := by
  have hc0 : W.cell? ⟨g, 0, none⟩ = some (.int .i64 n) := by rw [hb.cell]; rfl
  have e1 : IntKind.i64.wrap (9 * n) = 9 * n := wrap_i64_fr _ (by omega) (by omega)
  have e2 : IntKind.i64.wrap (2 + 9 * n) = 2 + 9 * n := wrap_i64_fr _ (by omega) (by omega)
  go_enter Tryz.func87, Tryz.ntmps87
  go_wp2
  go_ret
  exact ⟨rfl, rfl⟩
set_option maxRecDepth 100000 in
set_option maxHeartbeats 1000000 in
theorem pageAt1_gives (W : World) (g g2 : Nat) (hb : BlkIs W g 23 #[.int .i64 fr, .int .i64 pg]) (hb2 : BlkIs W g2 3 #[.int .i64 n]) (h1 : 1 ≤ fr ∧ fr ≤ 2000) (h2 : 0 ≤ n ∧ n < 2000) :
    Calls Tryz.prog 113 #[.pointer (some ⟨g, 0, none⟩), .pointer (some ⟨g2, 0, none⟩)] W fun e w' => e = .returned (.int .i64 (2 + 9 * fr + 8 * n)) ∧ W = w' := by
  have hc0 : W.cell? ⟨g, 0, none⟩ = some (.int .i64 fr) := by rw [hb.cell]; rfl
  have hc1 : W.cell? ⟨g2, 0, none⟩ = some (.int .i64 n) := by rw [hb2.cell]; rfl
  have e1 : IntKind.i64.wrap (9 * fr) = 9 * fr := wrap_i64_fr _ (by omega) (by omega)
  have e2 : IntKind.i64.wrap (2 + 9 * fr) = 2 + 9 * fr := wrap_i64_fr _ (by omega) (by omega)
  have e3 : IntKind.i64.wrap (8 * n) = 8 * n := wrap_i64_fr _ (by omega) (by omega)
  have e4 : IntKind.i64.wrap (2 + 9 * fr + 8 * n) = 2 + 9 * fr + 8 * n := wrap_i64_fr _ (by omega) (by omega)
  go_enter Tryz.func113, Tryz.ntmps113
  go_wp2
  go_ret
  exact ⟨rfl, rfl⟩

def atV (r e : Int) : Value := .tuple #[.int .i64 (if e = 0 then r else 0), .int .i64 e]
set_option maxRecDepth 100000 in
set_option maxHeartbeats 1000000 in
theorem sectors_gives (w : World) : Calls Tryz.prog 37 #[.agg #[.int .i64 fr, .int .i64 pg]] w fun e w' => e = .returned (atV (2 + 9 * fr + 8 * pg) (plE (planOk fr pg) 0 1)) ∧ Below w.heap.size w w' := by
  have hB0 : Below w.heap.size w (w.alloc (.cells #[.int .i64 fr, .int .i64 pg] 23)) := (Below.refl _ w).alloc (Nat.le_refl _) _
  have hb := BlkIs.new w 23 #[.int .i64 fr, .int .i64 pg]
  have H := place_gives fr pg 0 1 (2 + 9 * fr + 8 * pg) 73 #[.pointer (some ⟨w.heap.size, 0, none⟩)] (enters_of Tryz.func73 (by kernel_rfl) rfl) (w.alloc (.cells #[.int .i64 fr, .int .i64 pg] 23))
    (fun hp _ _ W hW => sectors1_gives fr pg W _ (hb.below hW (by simp)) ((planOk_iff fr pg).1 hp).1 ((planOk_iff fr pg).1 hp).2)
  unfold atV
  generalize plE (planOk fr pg) 0 1 = e at *
  generalize (if e = 0 then 2 + 9 * fr + 8 * pg else 0) = v at *
  go_enter Tryz.func37, Tryz.ntmps37
  go_wp2_with fail
  refine H.mono ?_
  rintro e w' ⟨rfl, hB⟩
  go_wp2
  refine bodyPost_ret (results_tmp2 rfl _ _ _) rfl ?_
  exact ⟨rfl, hB0.trans (hB.mono (by simp))⟩
set_option maxRecDepth 100000 in
set_option maxHeartbeats 1000000 in
theorem frameAt_gives (w : World) : Calls Tryz.prog 49 #[.agg #[.int .i64 fr, .int .i64 pg], .int .i64 n] w fun e w' => e = .returned (atV (2 + 9 * n) (plE (planOk fr pg) n fr)) ∧ Below w.heap.size w w' := by
  have hB0 : Below w.heap.size w ((w.alloc (.cells #[.int .i64 fr, .int .i64 pg] 23)).alloc (.cells #[.int .i64 n] 3)) := ((Below.refl _ w).alloc (Nat.le_refl _) _).alloc (by simp) _
  have hb := BlkIs.new (w.alloc (.cells #[.int .i64 fr, .int .i64 pg] 23)) 3 #[.int .i64 n]
  rw [World.size_alloc] at hb
  have H := place_gives fr pg n fr (2 + 9 * n) 87 #[.pointer (some ⟨w.heap.size + 1, 0, none⟩)] (enters_of Tryz.func87 (by kernel_rfl) rfl) ((w.alloc (.cells #[.int .i64 fr, .int .i64 pg] 23)).alloc (.cells #[.int .i64 n] 3))
    (fun hp h0 hn W hW => frameAt1_gives n W _ (hb.below hW (by simp)) (by have := (planOk_iff fr pg).1 hp; omega))
  unfold atV
  generalize plE (planOk fr pg) n fr = e at *
  generalize (if e = 0 then 2 + 9 * n else 0) = v at *
  go_enter Tryz.func49, Tryz.ntmps49
  go_wp2_with fail
  refine H.mono ?_
  rintro e w' ⟨rfl, hB⟩
  go_wp2
  refine bodyPost_ret (results_tmp2 rfl _ _ _) rfl ?_
  exact ⟨rfl, hB0.trans (hB.mono (by simp; omega))⟩
set_option maxRecDepth 100000 in
set_option maxHeartbeats 1000000 in
theorem pageAt_gives (w : World) : Calls Tryz.prog 85 #[.agg #[.int .i64 fr, .int .i64 pg], .int .i64 n] w fun e w' => e = .returned (atV (2 + 9 * fr + 8 * n) (plE (planOk fr pg) n pg)) ∧ Below w.heap.size w w' := by
  have hB0 : Below w.heap.size w ((w.alloc (.cells #[.int .i64 fr, .int .i64 pg] 23)).alloc (.cells #[.int .i64 n] 3)) := ((Below.refl _ w).alloc (Nat.le_refl _) _).alloc (by simp) _
  have hb := BlkIs.new (w.alloc (.cells #[.int .i64 fr, .int .i64 pg] 23)) 3 #[.int .i64 n]
  have hb0 := (BlkIs.new w 23 #[.int .i64 fr, .int .i64 pg]).alloc (.cells #[.int .i64 n] 3)
  rw [World.size_alloc] at hb
  have H := place_gives fr pg n pg (2 + 9 * fr + 8 * n) 113 #[.pointer (some ⟨w.heap.size, 0, none⟩), .pointer (some ⟨w.heap.size + 1, 0, none⟩)] (enters_of Tryz.func113 (by kernel_rfl) rfl) ((w.alloc (.cells #[.int .i64 fr, .int .i64 pg] 23)).alloc (.cells #[.int .i64 n] 3))
    (fun hp h0 hn W hW => pageAt1_gives fr pg n W _ _ (hb0.below hW (by simp; omega)) (hb.below hW (by simp)) (by have := (planOk_iff fr pg).1 hp; omega) (by have := (planOk_iff fr pg).1 hp; omega))
  unfold atV
  generalize plE (planOk fr pg) n pg = e at *
  generalize (if e = 0 then 2 + 9 * fr + 8 * n else 0) = v at *
  go_enter Tryz.func85, Tryz.ntmps85
  go_wp2_with fail
  refine H.mono ?_
  rintro e w' ⟨rfl, hB⟩
  go_wp2
  refine bodyPost_ret (results_tmp2 rfl _ _ _) rfl ?_
  exact ⟨rfl, hB0.trans (hB.mono (by simp; omega))⟩
set_option maxRecDepth 100000 in
set_option maxHeartbeats 1000000 in
theorem refRight_gives (w : World) : Calls Tryz.prog 20 #[.agg #[.int .i64 fr, .int .i64 pg]] w fun e w' => e = .returned (.bool (planOk fr pg)) ∧ Below w.heap.size w w' := by
  have hB0 : Below w.heap.size w (w.alloc (.cells #[.int .i64 fr, .int .i64 pg] 23)) := (Below.refl _ w).alloc (Nat.le_refl _) _
  have hk := planOk_iff fr pg
  generalize planOk fr pg = b at *
  by_cases h1 : 1 ≤ fr
  · by_cases h2 : fr ≤ 2000
    · by_cases h3 : 1 ≤ pg
      · by_cases h4 : pg ≤ 2000
        · have e : b = true := hk.2 ⟨⟨h1, h2⟩, h3, h4⟩
          subst e
          clear hk
          go_enter Tryz.func20, Tryz.ntmps20
          go_wp2
          go_ret
          exact ⟨by first | rfl | simp [h4], hB0⟩
        · have e : b = false := by cases b; rfl; exact absurd (hk.1 rfl).2.2 h4
          subst e
          clear hk
          go_enter Tryz.func20, Tryz.ntmps20
          go_wp2
          go_ret
          exact ⟨by first | rfl | simp [h4], hB0⟩
      · have e : b = false := by cases b; rfl; exact absurd (hk.1 rfl).2.1 h3
        subst e
        clear hk
        go_enter Tryz.func20, Tryz.ntmps20
        go_wp2
        go_ret
        exact ⟨by first | rfl | simp [h3], hB0⟩
    · have e : b = false := by cases b; rfl; exact absurd (hk.1 rfl).1.2 h2
      subst e
      clear hk
      go_enter Tryz.func20, Tryz.ntmps20
      go_wp2
      go_ret
      exact ⟨by first | rfl | simp [h2], hB0⟩
  · have e : b = false := by cases b; rfl; exact absurd (hk.1 rfl).1.1 h1
    subst e
    clear hk
    go_enter Tryz.func20, Tryz.ntmps20
    go_wp2
    go_ret
    exact ⟨by first | rfl | simp [h1], hB0⟩
end
end Go.Proofs.YtocnabpplbeafaaGreat
/- wal: a log in memory; no log; what a log tells. -/
namespace Go.Proofs.YtocnabpplbeafaaGreat
open Go Go.RowKit Lou

/-- A log's cells: its disk, its plan, serial, epoch, size, frames. -/
def lgC (d : Option Addr) (fr pg : Int) (sr ep : Nat) (sz : Int) (A : Option Addr) (n c : Nat) : Array Value := #[.pointer d, .int .i64 fr, .int .i64 pg, .int .u64 (sr : Int), .int .u64 (ep : Int), .int .i64 sz, .slice A n c]
/-- No log: nil, or one without a disk. -/
def NoLog (w : World) (v : Value) : Prop := v = .pointer none ∨ ∃ g, v = .pointer (some ⟨g, 0, none⟩) ∧ BlkIs w g 57 (lgC none 0 0 0 0 0 none 0 0)
theorem NoLog.grow {w w' : World} {v : Value} (h : NoLog w v) (hB : Below w.heap.size w w') : NoLog w' v := by
  rcases h with rfl | ⟨g, rfl, hb⟩
  · exact .inl rfl
  · exact .inr ⟨g, rfl, hb.below hB hb.lt⟩
section
variable {w : World} {l d : Nat} {fr pg : Int} {sr ep : Nat} {sz : Int} {A : Option Addr} {n c : Nat}
theorem lnone_gives (hb : BlkIs w l 57 (lgC (some ⟨d, 0, none⟩) fr pg sr ep sz A n c)) : Calls Tryz.prog 42 #[.pointer (some ⟨l, 0, none⟩)] w fun e w' => e = .returned (.bool false) ∧ w = w' := by
  have c0 : w.cell? ⟨l, 0, none⟩ = some (.pointer (some ⟨d, 0, none⟩)) := by rw [hb.cell]; rfl
  go_enter Tryz.func42, Tryz.ntmps42
  go_wp2
  go_ret
  exact ⟨rfl, rfl⟩
theorem ldisk_gives (hb : BlkIs w l 57 (lgC (some ⟨d, 0, none⟩) fr pg sr ep sz A n c)) : Calls Tryz.prog 21 #[.pointer (some ⟨l, 0, none⟩)] w fun e w' => e = .returned (.pointer (some ⟨d, 0, none⟩)) ∧ w = w' := by
  have HN := lnone_gives hb
  have c0 : w.cell? ⟨l, 0, none⟩ = some (.pointer (some ⟨d, 0, none⟩)) := by rw [hb.cell]; rfl
  go_enter Tryz.func21, Tryz.ntmps21
  go_wp2_with (go_at_call 42; refine HN.mono ?_; rintro e w' ⟨rfl, rfl⟩)
  go_ret
  exact ⟨rfl, rfl⟩
theorem lsize_gives (hb : BlkIs w l 57 (lgC (some ⟨d, 0, none⟩) fr pg sr ep sz A n c)) : Calls Tryz.prog 25 #[.pointer (some ⟨l, 0, none⟩)] w fun e w' => e = .returned (.int .i64 sz) ∧ w = w' := by
  have HN := lnone_gives hb
  have c5 : w.cell? ⟨l, 5, none⟩ = some (.int .i64 sz) := by rw [hb.cell]; rfl
  go_enter Tryz.func25, Tryz.ntmps25
  go_wp2_with (go_at_call 42; refine HN.mono ?_; rintro e w' ⟨rfl, rfl⟩)
  go_ret
  exact ⟨rfl, rfl⟩
end
section
variable {w : World} {v : Value}
end
end Go.Proofs.YtocnabpplbeafaaGreat
/- Cells written in the midst of a row; the last loose write's bytes. -/
namespace Go.Proofs.YtocnabpplbeafaaGreat
open Go Go.RowKit Lou

theorem rangeAt_mid {w : World} {g : Nat} {cs : List Value} (h : w.rangeAt g 0 cs) (o : Nat) (vs : List Value) (ho : o + vs.length ≤ cs.length) :
    (w.setCells g o vs).rangeAt g 0 (cs.take o ++ vs ++ cs.drop (o + vs.length)) := by
  have hsome : ∀ j, j < vs.length → (w.cell? ⟨g, o + j, none⟩).isSome = true := fun j hj => by
    have := h (o + j) (cs[o + j]'(by omega)) (List.getElem?_eq_getElem (by omega))
    rw [Nat.zero_add] at this
    rw [this]
    rfl
  have hlt : (cs.take o).length = o := by rw [List.length_take]; omega
  intro j v hj
  rw [Nat.zero_add]
  by_cases h1 : j < o
  · rw [World.cell?_setCells_out g vs o w _ (fun _ _ => Or.inl h1)]
    rw [List.append_assoc, List.getElem?_append_left (by omega), List.getElem?_take, if_pos h1] at hj
    have := h j v hj
    rwa [Nat.zero_add] at this
  · by_cases h2 : j < o + vs.length
    · have e : j = o + (j - o) := by omega
      rw [List.append_assoc, List.getElem?_append_right (by omega), List.getElem?_append_left (by omega), hlt, List.getElem?_eq_getElem (by omega)] at hj
      rw [e, World.cell?_setCells_in g vs o w hsome (j - o) (by omega)]
      exact hj
    · rw [World.cell?_setCells_out g vs o w _ (fun _ _ => Or.inr (by show o + vs.length ≤ j; omega))]
      rw [List.getElem?_append_right (by rw [List.length_append]; omega), List.length_append, hlt, List.getElem?_drop] at hj
      rw [show o + vs.length + (j - (o + vs.length)) = j from by omega] at hj
      have := h j v hj
      rwa [Nat.zero_add] at this
theorem size_setCellsL (b : Nat) : ∀ (vs : List Value) (o : Nat) (w : World), (w.setCells b o vs).heap.size = w.heap.size
  | [], _, _ => rfl
  | v :: r, o, w => by
    rw [World.setCells, size_setCellsL b r (o + 1) _, World.size_setCell]
theorem inG_mid {w : World} {B sz g n c : Nat} {cs : List Value} (h : InG w B sz (some ⟨g, 0, none⟩) n c cs) (h0 : 0 < n) (o : Nat) (vs : List Value) (ho : o + vs.length ≤ cs.length) (h1 : ∀ v ∈ vs, v.oneCell' = true) :
    InG (w.setCells g o vs) B sz (some ⟨g, 0, none⟩) n c (cs.take o ++ vs ++ cs.drop (o + vs.length)) := by
  obtain ⟨g', o', e, hg, hr⟩ := h.lies h0
  injection e with e
  injection e with e1 e2
  subst e1 e2
  refine ⟨h.le, h.max, (fun e => by cases e), ?_, ?_, fun _ => ⟨g, 0, rfl, hg, rangeAt_mid hr o vs ho⟩⟩
  · have := h.len
    rw [List.length_append, List.length_append, List.length_take, List.length_drop]
    omega
  · intro v hv
    rcases List.mem_append.1 hv with hv | hv
    · rcases List.mem_append.1 hv with hv | hv
      · exact h.one v (List.mem_of_mem_take hv)
      · exact h1 v hv
    · exact h.one v (List.mem_of_mem_drop hv)
/-- The last loose write's bytes, written anew. -/
theorem inW_mid {w : World} {B g c m : Nat} {ki : List (Nat × List UInt8)} {x1 : Nat} {x2 z : List UInt8} (h : InW w B (some ⟨g, 0, none⟩) c (ki ++ [(x1, x2)])) (hm : m = ki.length) (hz : z.length = 64) :
    InW (w.setCells g (m * 65 + 1) (z.map b8)) B (some ⟨g, 0, none⟩) c (ki ++ [(x1, z)]) := by
  obtain ⟨hw, hx⟩ := h
  have hwk : Wide ki := fun y hy => hw y (by simp [hy])
  have h2 : x2.length = 64 := hw (x1, x2) (by simp)
  have hlk := flC_length hwk
  have e1 : flC (ki ++ [(x1, x2)]) = flC ki ++ .int .i64 (x1 : Int) :: x2.map b8 := by rw [flC_append]; simp [flC, lsC]
  have e2 : flC (ki ++ [(x1, z)]) = flC ki ++ .int .i64 (x1 : Int) :: z.map b8 := by rw [flC_append]; simp [flC, lsC]
  have hlen : (flC (ki ++ [(x1, x2)])).length = m * 65 + 65 := by rw [e1, List.length_append, hlk, List.length_cons, List.length_map, h2, hm]
  have hzl : (z.map b8).length = 64 := by rw [List.length_map, hz]
  refine ⟨?_, ?_⟩
  · intro y hy
    rcases List.mem_append.1 hy with hy | hy
    · exact hwk y hy
    · obtain rfl : y = (x1, z) := by simpa using hy
      exact hz
  · have := inG_mid hx (by simp) (m * 65 + 1) (z.map b8) (by rw [hlen, hzl]; omega) (fun v hv => b8_one _ v hv)
    rw [show (flC (ki ++ [(x1, x2)])).take (m * 65 + 1) ++ z.map b8 ++ (flC (ki ++ [(x1, x2)])).drop (m * 65 + 1 + (z.map b8).length) = flC (ki ++ [(x1, z)]) from by
      rw [hzl, List.drop_eq_nil_of_le (by rw [hlen]; omega), List.append_nil, e1, e2]
      have h3 : (flC ki ++ Value.int .i64 (x1 : Int) :: x2.map b8).take (m * 65 + 1) = flC ki ++ [Value.int .i64 (x1 : Int)] := by
        rw [hm, ← hlk, List.take_length_add_append]
        rfl
      rw [h3]
      simp] at this
    rw [show (ki ++ [(x1, z)]).length = (ki ++ [(x1, x2)]).length from by simp]
    exact this
/-- The cells of an own row's block may be written. -/
theorem own_there {w : World} {base : Nat} {T : TypeId} {sz g n c : Nat} {cs : List Value} (h : w.ownsRow base T sz (.slice (some ⟨g, 0, none⟩) n c) n cs) (o k : Nat) (hk : o + k ≤ n * sz) : w.there g o k := by
  rcases h.2 with ⟨e, _⟩ | ⟨g', cap, cur, e, hb, hg, hle, hm, hs, ht⟩
  · cases e
  · injection e with e1 e2 e3
    injection e1 with e1
    injection e1 with e1
    subst e1
    have h5 : n * sz ≤ cap * sz := Nat.mul_le_mul_right _ hle
    intro j hj
    refine ⟨?_, ?_⟩
    · rw [cell_of_row w g (o + j) cur _ (0, 0) hg, Array.getElem?_eq_getElem (by omega)]
      rfl
    · unfold World.frozen?
      simp [hg]
/-- What lay below B stays. -/
theorem below_setCellsL {B b : Nat} (hb : B ≤ b) : ∀ (vs : List Value) (o : Nat) {a w : World}, Below B a w → Below B a (w.setCells b o vs)
  | [], _, _, _, h => h
  | v :: r, o, a, w, h => below_setCellsL hb r (o + 1) (h.setCell hb v)
end Go.Proofs.YtocnabpplbeafaaGreat
