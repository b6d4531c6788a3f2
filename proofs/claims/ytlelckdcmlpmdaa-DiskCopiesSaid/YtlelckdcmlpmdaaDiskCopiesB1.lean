/- Texts that the proof of DiskCopies leans on, part 1. -/
import Derived.WalkKit
import Derived.Maps.AppendAt
import Derived.Lib.Hide
import Derived.WalkSpells
import Derived.WalkLawsBesides
import Derived.Laws.AppendOwnNone
import Derived.Lib.AppendStr
import Derived.Test.YtlelckdcmlpmdaaProg
import Derived.ProofKit
import Derived.OpenShut
import Derived.ShutString
import Derived.ChangeOld
import Derived.Below
import Derived.Defers
import Derived.Laws.LoneSync
import Derived.RegionTactic
import Derived.RegionCalls
import Derived.ChangeAlike
import Derived.RangeFuncBox
import Derived.RangeFuncNested
import Derived.RangeFuncBound
import Derived.RangeFuncCalls
import Derived.RangeFuncLeaves
import Derived.Shelf.Abstract
import Derived.Shelf.RegionOpen
import Derived.OwnWalkIn
import Derived.TacticsInMore
import Derived.LoopNIn
import Derived.LoopIn
import Derived.Laws.CopyRow
import Derived.Deep.RegionHeld3
import Derived.Deep.DrawnRows
import Derived.Lib.AppendZerosOnto
import Derived.Deep.MidRow
import Derived.MapKept
import Derived.Carry
import Derived.ScopeJumps
import Derived.Lib.AppendZeros
import Derived.Orders
/- The plain mathematics of layer 3: numbers' bytes and their reading, fixed bytes, the sum of bytes. No program in sight. -/
namespace Lou

/-! ### Numbers' bytes -/
def numF : Nat → Nat → List UInt8
  | 0, _ => []
  | f + 1, n => if n < 128 then [UInt8.ofNat n] else UInt8.ofNat (n % 128 + 128) :: numF f (n / 128)
def num (n : Nat) : List UInt8 := numF 10 n

def rdF : Nat → Nat → Nat → List UInt8 → Option (Nat × Nat)
  | 0, _, _, _ => none
  | _ + 1, _, _, [] => none
  | f + 1, i, acc, c :: r =>
    if i = 9 ∧ 1 < c.toNat then none
    else if 128 ≤ c.toNat then rdF f (i + 1) (acc + c.toNat % 128 * 128 ^ i) r
    else if c.toNat = 0 ∧ 0 < i then none
    else some (acc + c.toNat % 128 * 128 ^ i, i + 1)
def rd (l : List UInt8) : Option (Nat × Nat) := rdF 10 0 0 l

theorem rdF_bound (f i acc : Nat) (l : List UInt8) (n k : Nat) (hf : f + i = 10) (ha : acc < 128 ^ i) (h : rdF f i acc l = some (n, k)) :
    n < 2 ^ 64 ∧ i + 1 ≤ k ∧ k ≤ i + l.length := by
  induction f generalizing i acc l with
  | zero => simp [rdF] at h
  | succ f ih =>
    cases l with
    | nil => simp [rdF] at h
    | cons c r =>
      have hc : c.toNat < 256 := c.toNat_lt
      have hs : acc + c.toNat % 128 * 128 ^ i < 128 ^ (i + 1) := by
        have h1 : c.toNat % 128 ≤ 127 := by omega
        have h2 : c.toNat % 128 * 128 ^ i ≤ 127 * 128 ^ i := Nat.mul_le_mul_right _ h1
        have h3 : 128 ^ (i + 1) = 128 ^ i * 128 := Nat.pow_succ ..
        omega
      simp only [rdF] at h
      split at h
      · cases h
      · rename_i h9
        split at h
        · obtain ⟨p1, p2, p3⟩ := ih (i + 1) _ r (by omega) hs h
          refine ⟨p1, by omega, ?_⟩
          simp only [List.length_cons]
          omega
        · rename_i h128
          split at h
          · cases h
          · simp only [Option.some.injEq, Prod.mk.injEq] at h
            obtain ⟨rfl, rfl⟩ := h
            refine ⟨?_, by omega, by simp⟩
            by_cases hi : i = 9
            · subst hi
              have hc1 : c.toNat ≤ 1 := by omega
              have : c.toNat % 128 * 128 ^ 9 ≤ 1 * 128 ^ 9 := Nat.mul_le_mul_right _ (by omega)
              simp at this ha ⊢
              omega
            · have : 128 ^ (i + 1) ≤ 128 ^ 9 := Nat.pow_le_pow_right (by omega) (by omega)
              simp at this
              omega

theorem rd_bound {l : List UInt8} {n k : Nat} (h : rd l = some (n, k)) : n < 2 ^ 64 ∧ 1 ≤ k ∧ k ≤ l.length := by
  have := rdF_bound 10 0 0 l n k (by omega) (by simp) h
  omega

/-! ### Fixed bytes -/
def fixL (k n : Nat) : List UInt8 := (List.range k).map fun i => UInt8.ofNat (n / 256 ^ (k - 1 - i))
def rfix (l : List UInt8) : Nat := l.foldl (fun a c => 256 * a + c.toNat) 0

theorem fixL_length (k n : Nat) : (fixL k n).length = k := by simp [fixL]
theorem fixL_succ (k n : Nat) : fixL (k + 1) n = UInt8.ofNat (n / 256 ^ k) :: fixL k n := by
  unfold fixL
  rw [List.range_succ_eq_map, List.map_cons, List.map_map]
  simp only [Nat.add_sub_cancel, Nat.sub_zero, List.cons.injEq, true_and]
  apply List.map_congr_left
  intro i hi
  simp at hi
  simp only [Function.comp]
  rw [show k - (i + 1) = k - 1 - i from by omega]

/-! ### The sum -/
def poly : Nat := 0xedb88320
def sh (x : Nat) : Nat := if x % 2 = 1 then (x / 2) ^^^ poly else x / 2
def shN : Nat → Nat → Nat
  | 0, x => x
  | k + 1, x => shN k (sh x)
def stepC (s : Nat) (c : UInt8) : Nat := shN 8 (s ^^^ c.toNat)
def sumS (s : Nat) (l : List UInt8) : Nat := l.foldl stepC s
def sumL (l : List UInt8) : Nat := sumS 4294967295 l ^^^ 4294967295

end Lou
/- Words for memory that all texts of this seat share: bytes that a call owns; growth of the world. -/
namespace Go.Proofs.Ytlelckdcmlpmdaa
open Go Go.RowKit

@[reducible] def b8 (c : UInt8) : Value := .int .u8 (c.toNat : Int)

theorem inf_u8 : (Try.prog.info? 5).map (fun i => (i.zero, i.size, i.bytes)) = some (some (.int .u8 0), 1, 1) := by kernel_rfl

/-- The value v is bytes l, which the call owns: a row of blocks from base on. -/
def OwnB (w : World) (base : Nat) (v : Value) (l : List UInt8) : Prop := w.ownsRow base 5 1 v l.length (l.map b8)

/-- A call gives bytes of its own, and turns nothing that was there. -/
def GivesB (w0 : World) (l : List UInt8) (e : Ending) (w' : World) : Prop :=
  ∃ v, e = .returned v ∧ OwnB w' w0.heap.size v l ∧ Below w0.heap.size w0 w'

theorem OwnB.nil (w : World) (base : Nat) : OwnB w base (.slice none 0 0) [] := World.ownsRow_nil _ _ _ _

theorem OwnB.form {w : World} {base : Nat} {v : Value} {l : List UInt8} (h : OwnB w base v l) :
    (v = .slice none 0 0 ∧ l = []) ∨ ∃ g cap, v = .slice (some ⟨g, 0, none⟩) l.length cap ∧ base ≤ g ∧ g < w.heap.size ∧ l.length ≤ cap := by
  rcases h.2 with ⟨h1, h2⟩ | ⟨g, cap, cur, hv, hb, hg, hle, _⟩
  · exact .inl ⟨h1, List.eq_nil_of_length_eq_zero h2⟩
  · exact .inr ⟨g, cap, hv, hb, (Array.getElem?_eq_some_iff.1 hg).1, hle⟩

/-- Bytes that are not none: where they lie. -/
theorem OwnB.at_ {w : World} {base : Nat} {v : Value} {l : List UInt8} (h : OwnB w base v l) (hl : 0 < l.length) :
    ∃ g cap, v = .slice (some ⟨g, 0, none⟩) l.length cap ∧ base ≤ g ∧ g < w.heap.size ∧ l.length ≤ cap := by
  rcases h.form with ⟨_, rfl⟩ | h
  · simp at hl
  · exact h

/-- Bytes that came in: '.slice A l.length c' reads as l, and lies below block B. -/
structure InB (w : World) (B : Nat) (A : Option Addr) (c : Nat) (l : List UInt8) : Prop where
  le : l.length ≤ c
  max : c ≤ 9223372036854775807
  nil : A = none → c = 0
  lies : 0 < l.length → ∃ g o, A = some ⟨g, o, none⟩ ∧ g < B ∧ ∀ j (h : j < l.length), w.cell? ⟨g, o + j, none⟩ = some (.int .u8 (l[j].toNat : Int))

theorem InB.keep {w w' : World} {B : Nat} {A : Option Addr} {c : Nat} {l : List UInt8} (h : InB w B A c l) (hk : ∀ p : Addr, p.block < B → w'.cell? p = w.cell? p) : InB w' B A c l :=
  ⟨h.le, h.max, h.nil, fun hl => by
    obtain ⟨g, o, hA, hg, hc⟩ := h.lies hl
    exact ⟨g, o, hA, hg, fun j hj => (hk _ hg).trans (hc j hj)⟩⟩
theorem InB.below {w w' : World} {B : Nat} {A : Option Addr} {c : Nat} {l : List UInt8} (h : InB w B A c l) (hb : Below B w w') : InB w' B A c l := h.keep fun _ hp => hb.cell hp
theorem InB.drew {w : World} {B : Nat} {A : Option Addr} {c : Nat} {l : List UInt8} (h : InB w B A c l) : InB w.drew B A c l := ⟨h.le, h.max, h.nil, h.lies⟩
theorem InB.more {w : World} {B B' : Nat} {A : Option Addr} {c : Nat} {l : List UInt8} (h : InB w B A c l) (hB : B ≤ B') : InB w B' A c l :=
  ⟨h.le, h.max, h.nil, fun hl => by
    obtain ⟨g, o, hA, hg, hc⟩ := h.lies hl
    exact ⟨g, o, hA, by omega, hc⟩⟩

theorem OwnB.inB {w : World} {base : Nat} {v : Value} {l : List UInt8} (h : OwnB w base v l) : ∃ A c, v = .slice A l.length c ∧ InB w w.heap.size A c l := by
  rcases h.2 with ⟨h1, h2⟩ | ⟨g, cap, cur, hv, hb, hg, hle, hm, hs, ht⟩
  · obtain rfl := List.eq_nil_of_length_eq_zero h2
    exact ⟨none, 0, h1, by simp, by omega, fun _ => rfl, fun h => by simp at h⟩
  · refine ⟨_, cap, hv, hle, by unfold maxLen at hm; omega, fun h => by simp at h, fun _ => ⟨g, 0, rfl, (Array.getElem?_eq_some_iff.1 hg).1, fun j hj => ?_⟩⟩
    rw [Nat.zero_add, cell_of_row w g j cur _ (0, 0) hg]
    have := congrArg (fun x => x[j]?) ht
    simp only [List.getElem?_take, List.getElem?_map, List.getElem?_eq_getElem hj, Option.map_some] at this
    rw [if_pos (by omega)] at this
    simpa using this

/-- Cut: b[lo:hi]. -/
def cutA (A : Option Addr) (c n : Nat) : Option Addr := if c = n then A else A.map (·.add n)
theorem InB.drop {w : World} {B : Nat} {A : Option Addr} {c : Nat} {l : List UInt8} (h : InB w B A c l) (n : Nat) (hn : n ≤ l.length) : InB w B (cutA A c n) (c - n) (l.drop n) := by
  have h1 := h.le
  have h2 := h.max
  refine ⟨by simp; omega, by omega, ?_, ?_⟩
  · intro hA
    unfold cutA at hA
    split at hA
    · omega
    · have := h.nil (by simpa using hA); omega
  · intro hl
    simp at hl
    obtain ⟨g, o, rfl, hg, hc⟩ := h.lies (by omega)
    refine ⟨g, o + n, ?_, hg, ?_⟩
    · unfold cutA
      rw [if_neg (by omega)]
      by_cases hz : n = 0 <;> simp [Addr.add, hz]
    · intro j hj
      simp at hj
      have := hc (n + j) (by omega)
      rw [Nat.add_assoc, this]
      simp
theorem InB.take {w : World} {B : Nat} {A : Option Addr} {c : Nat} {l : List UInt8} (h : InB w B A c l) (n : Nat) (c' : Nat) (hn : n ≤ l.length) (hc : n ≤ c') (hc' : c' ≤ c) : InB w B A c' (l.take n) := by
  have h1 := h.le
  have h2 := h.max
  refine ⟨by simp; omega, by omega, fun hA => by have := h.nil hA; omega, ?_⟩
  intro hl
  simp at hl
  obtain ⟨g, o, rfl, hg, hcell⟩ := h.lies (by omega)
  refine ⟨g, o, rfl, hg, fun j hj => ?_⟩
  simp at hj
  rw [hcell j (by omega)]
  simp

/-- Bytes as a string. -/
def str (l : List UInt8) : ByteArray := ⟨l.toArray⟩
theorem str_size (l : List UInt8) : (str l).size = l.length := rfl
theorem str_data (l : List UInt8) : (str l).data.toList = l := rfl
theorem strOf_bytes (l : List UInt8) : strOfNums (l.map fun x => (x.toNat : Int)) = str l := by
  have e : (l.map fun x => (x.toNat : Int)).map (fun n => UInt8.ofNat n.toNat) = l := by
    rw [List.map_map]
    conv => rhs; rw [← List.map_id l]
    apply List.map_congr_left
    intro x _
    simp
  unfold strOfNums str
  rw [e]
theorem InB.string {w : World} {B : Nat} {A : Option Addr} {c : Nat} {l : List UInt8} (h : InB w B A c l) :
    (convert 30 9 (.slice A l.length c)).run Try.prog w = .ok (.string (str l)) w := by
  rcases A with _ | a
  · have := h.nil rfl
    have h1 := h.le
    obtain rfl : l = [] := List.eq_nil_of_length_eq_zero (by omega)
    exact run_convert_bytes_nil (P := Try.prog) w _ 5 Try.underlying30 Try.underlying5 _ _ _ Try.underlying9
  · rcases Nat.eq_zero_or_pos l.length with h0 | h0
    · obtain rfl := List.eq_nil_of_length_eq_zero h0
      have hl : (loadCells a ([] : List Int).length).run Try.prog w = .ok ((([] : List Int)).map (Value.int .u8)).toArray w :=
        run_loadCells_list (P := Try.prog) w a [] (fun j v hj => by simp at hj)
      rw [run_convert_bytes_string w _ _ 5 _ _ c Try.underlying30 Try.underlying5 Try.underlying9, List.length_nil]
      have := run_bytesToString (P := Try.prog) w a 0 c [] hl
      rw [this]
      exact congrArg (fun s => Result.ok (Value.string s) w) (show ByteArray.empty = str [] from rfl)
    · obtain ⟨g, o, hA, _, hc⟩ := h.lies h0
      obtain rfl : a = ⟨g, o, none⟩ := by simpa using hA
      have := run_convert_bytes_arg (P := Try.prog) w 30 5 Try.underlying30 Try.underlying5 g o l.length c (l.map fun x => (x.toNat : Int)) (by simp) (fun i hi => by rw [hc i hi]; simp [List.getD, hi]) 9 Try.underlying9
      rw [this, strOf_bytes]

/-! ### append, in bytes -/
section
variable {w : World} {ops : Array Oper} {rest : List Oper} {o : Oper} {a : Act} {Q : Exit → Act → World → Prop}

/-- make([]byte, n). -/
theorem wp_makeB (hg : o.guard = none) (x y : Operand) (ho : o.op = Op.makeSlice 30 x y) (base : Nat) (kl kc : IntKind) (n : Nat) (hx : a.eval x = .int kl (n : Int)) (hy : a.eval y = .int kc (n : Int))
    (hn : n ≤ 140737488355328) (hbase : base ≤ w.heap.size)
    (h : ∀ w', OwnB w' base (.slice (some ⟨w.heap.size, 0, none⟩) n n) (List.replicate n 0) → w.grownBy w' none → wpList Try.prog ops Q rest (a.put o.dst (.slice (some ⟨w.heap.size, 0, none⟩) n n)) w') : wpList Try.prog ops Q (o :: rest) a w := by
  obtain ⟨i0, hi, hz0, hz1, hz2⟩ := info_parts inf_u8
  refine wpList_make_full w hg x y _ ho base _ i0 (.int .u8 0) 1 Try.underlying30 hi hz0 hz1 kl kc n n n hx hy rfl rfl (by rw [hz2]; omega) (by unfold maxLen; omega) hbase ?_
  intro w' hown hgrow
  refine h w' ?_ hgrow
  have e : (madeCells (Value.int .u8 0).cells (n * 1)).toList = (List.replicate n (0 : UInt8)).map b8 := by
    rw [Nat.mul_one, show (Value.int .u8 0).cells = #[.int .u8 0] from rfl, toList_madeCells_one]
    simp [b8]
  rw [e] at hown
  unfold OwnB
  simpa using hown
end

theorem OwnB.set {w : World} {base g n cap : Nat} {l : List UInt8} (h : OwnB w base (.slice (some ⟨g, 0, none⟩) n cap) l) (j x : Nat) (hx : x < 256) :
    OwnB (w.setCell ⟨g, j, none⟩ (.int .u8 (x : Int))) base (.slice (some ⟨g, 0, none⟩) n cap) (l.set j (UInt8.ofNat x)) := by
  rcases h.form with ⟨h1, _⟩ | ⟨g', cap', h1, _, _, _⟩
  · cases h1
  · injection h1 with h2 h3 h4
    subst h3
    have := (World.ownsRow.stored (w := w) h j (.int .u8 (x : Int))).1
    unfold OwnB
    rw [List.length_set, List.map_set]
    have e : b8 (UInt8.ofNat x) = .int .u8 (x : Int) := by simp [b8]; omega
    rw [e]
    exact this
theorem OwnB.cell {w : World} {base g n cap : Nat} {l : List UInt8} (h : OwnB w base (.slice (some ⟨g, 0, none⟩) n cap) l) (j : Nat) (hj : j < l.length) : w.cell? ⟨g, j, none⟩ = some (.int .u8 (l[j].toNat : Int)) := by
  rcases h.form with ⟨h1, _⟩ | ⟨g', cap', h1, _, _, _⟩
  · cases h1
  · injection h1 with h2 h3 h4
    subst h3
    have := World.ownsRow.cellAt (w := w) h j (by omega)
    rw [this]
    simp [b8, hj]
theorem OwnB.free {w : World} {base g n cap : Nat} {l : List UInt8} (h : OwnB w base (.slice (some ⟨g, 0, none⟩) n cap) l) (j : Nat) : w.frozen? ⟨g, j, none⟩ = false := by
  rcases h.form with ⟨h1, _⟩ | ⟨g', cap', h1, _, _, _⟩
  · cases h1
  · injection h1 with h2 h3 h4
    subst h3
    exact World.ownsRow.frozenAt (w := w) h j

/-! ### A block that is known whole -/
def BlkIs (w : World) (g : Nat) (t : TypeId) (cs : Array Value) : Prop := w.heap[g]? = some (.cells cs t (0, 0))
section
variable {w w' : World} {g : Nat} {t : TypeId} {cs : Array Value}
theorem BlkIs.lt (h : BlkIs w g t cs) : g < w.heap.size := (Array.getElem?_eq_some_iff.1 h).1
theorem BlkIs.cell (h : BlkIs w g t cs) (i : Nat) : w.cell? ⟨g, i, none⟩ = cs[i]? := cell_of_row w g i cs t (0, 0) h
theorem BlkIs.free (h : BlkIs w g t cs) (i : Nat) : w.frozen? ⟨g, i, none⟩ = false := by
  unfold BlkIs at h
  simp [World.frozen?, h]
theorem BlkIs.set (h : BlkIs w g t cs) (i : Nat) (u : Value) : BlkIs (w.setCell ⟨g, i, none⟩ u) g t (cs.setIfInBounds i u) := by
  unfold BlkIs at h ⊢
  simp [World.setCell, Array.getElem?_modify, h]
theorem BlkIs.other (h : BlkIs w g t cs) {p : Addr} (hp : g ≠ p.block) (u : Value) : BlkIs (w.setCell p u) g t cs := (Below.heap_setCell w p u g hp).trans h
theorem BlkIs.drew (h : BlkIs w g t cs) : BlkIs w.drew g t cs := h
theorem BlkIs.alloc (h : BlkIs w g t cs) (o : Obj) : BlkIs (w.alloc o) g t cs := (Below.heap_alloc w o g h.lt).trans h
theorem BlkIs.new (w : World) (t : TypeId) (cs : Array Value) : BlkIs (w.alloc (.cells cs t)) w.heap.size t cs := heap_alloc_new w _
theorem BlkIs.below {B : Nat} (h : BlkIs w g t cs) (hb : Below B w w') (hg : g < B) : BlkIs w' g t cs := (hb.block g hg).trans h
theorem BlkIs.grown {row : Option Nat} (h : BlkIs w g t cs) (hb : w.grownBy w' row) (hg : some g ≠ row) : BlkIs w' g t cs := (hb.block g h.lt hg).trans h
end
/-- A block of bytes. -/
theorem BlkIs.inB {w : World} {g : Nat} {l : List UInt8} (h : BlkIs w g 5 (l.map b8).toArray) (B : Nat) (hB : g < B) (hm : l.length ≤ 9223372036854775807) : InB w B (some ⟨g, 0, none⟩) l.length l :=
  ⟨Nat.le_refl _, hm, (fun h => by cases h), fun _ => ⟨g, 0, rfl, hB, fun j hj => by
    rw [h.cell, Nat.zero_add]
    simp [hj, b8]⟩⟩

theorem grownBy_trans {a b c : World} {row : Option Nat} (h : a.grownBy b row) (k : b.grownBy c row) : a.grownBy c row :=
  ⟨k.os.trans h.os, k.tape.trans h.tape, k.output.trans h.output, Nat.le_trans h.size k.size, fun i hi hr => (k.block i (Nat.lt_of_lt_of_le hi h.size) hr).trans (h.block i hi hr)⟩
theorem grownBy_drew (w : World) (row : Option Nat) : w.grownBy w.drew row := ⟨rfl, rfl, rfl, Nat.le_refl _, fun _ _ _ => rfl⟩

end Go.Proofs.Ytlelckdcmlpmdaa
/- From a row's own reading of a slice of bytes to InB. -/
namespace Go.Proofs.Ytlelckdcmlpmdaa
open Go Go.RowKit Lou

/-- What a row tells of a slice of integers that came in. -/
def IsRow (k : IntKind) (w : World) (a : Option Addr) (len cap : Nat) (zs : List Int) : Prop :=
  (a = none ∧ len = 0 ∧ cap = 0 ∧ zs = []) ∨
  ∃ x, a = some x ∧ len ≤ cap ∧ cap ≤ maxLen ∧ zs.length = cap ∧ (∀ i, i < zs.length → w.cell? (x.add i) = some (.int k (zs.getD i 0))) ∧ ∀ n ∈ zs, (Lit.int k n).wf = true

theorem u8_wf {n : Int} (h : (Lit.int .u8 n).wf = true) : 0 ≤ n ∧ n < 256 := by
  simp only [Lit.wf, Bool.and_eq_true, decide_eq_true_eq] at h
  have e1 : IntKind.u8.min = 0 := by decide
  have e2 : IntKind.u8.max = 255 := by decide
  omega
theorem cell_block_lt {w : World} {a : Addr} {v : Value} (h : w.cell? a = some v) : a.block < w.heap.size := by
  simp only [World.cell?] at h
  by_cases hb : a.block < w.heap.size
  · exact hb
  · exfalso
    simp [Array.getElem?_eq_none (Nat.le_of_not_lt hb)] at h
theorem IsRow.inB {w : World} {a : Option Addr} {len cap : Nat} {zs : List Int} (h : IsRow .u8 w a len cap zs) : ∃ l : List UInt8, l.length = len ∧ InB w w.heap.size a cap l := by
  rcases h with ⟨rfl, rfl, rfl, rfl⟩ | ⟨x, rfl, hl, hm, hz, hcell, hwf⟩
  · exact ⟨[], rfl, ⟨by simp, by simp, fun _ => rfl, fun h => by simp at h⟩⟩
  · refine ⟨(zs.take len).map (fun n => UInt8.ofNat n.toNat), by simp; omega, ?_⟩
    have hlen : ((zs.take len).map (fun n => UInt8.ofNat n.toNat)).length = len := by simp; omega
    refine ⟨by omega, by unfold maxLen at hm; omega, (fun h => by cases h), fun h0 => ?_⟩
    obtain ⟨b, off, spot⟩ := x
    have hc := hcell 0 (by omega)
    have hspot : spot = none := by simpa [Addr.add] using World.cell?_spot hc
    subst hspot
    refine ⟨b, off, rfl, ?_, fun j hj => ?_⟩
    · exact cell_block_lt hc
    · have hj' : j < zs.length := by omega
      have := hcell j hj'
      have hw := u8_wf (hwf (zs.getD j 0) (by rw [List.getD_eq_getElem?_getD, List.getElem?_eq_getElem hj']; simp))
      have he : ((((zs.take len).map (fun n => UInt8.ofNat n.toNat))[j]'hj).toNat : Int) = zs.getD j 0 := by
        simp only [List.getElem_map, List.getElem_take]
        rw [List.getD_eq_getElem?_getD, List.getElem?_eq_getElem hj'] at hw ⊢
        simp only [Option.getD_some] at hw ⊢
        simp
        omega
      rw [he]
      have ea : (⟨b, off, none⟩ : Addr).add j = ⟨b, off + j, none⟩ := by cases j <;> simp [Addr.add]
      rw [← ea]
      exact this
end Go.Proofs.Ytlelckdcmlpmdaa
/- From a row's own reading of structs and arrays that came in to their parts. -/
namespace Go.Proofs.Ytlelckdcmlpmdaa
open Go Lou Go.ChangeShapes Go.WideShapes Go.ChangeAt Go.RowKit

section
variable {H : Type} {enc : TypeId × Value → H} {W : World} {r : Reach} {b0 b1 : Nat} {spare : Nat → Bool} {held : Bool} {v : Value} {d : DataW H} {p : List MemPlace}
set_option maxRecDepth 100000 in
theorem open_arr {T e : TypeId} {n : Nat} (hu : Try.prog.underlying T = some (.array n e)) (hval : Value.okWide Try.prog W r b0 T v) (h : DataW.Trod enc Try.prog W b1 spare held T v d p) :
    ∃ cs : List Value, v = .agg cs.toArray ∧ cs.length = Try.prog.cellsOf T ∧ ∀ i, i < n → ∃ m x, DataW.trod enc Try.prog W b1 spare held m e ((cs.drop (i * Try.prog.cellsOf e)).take (Try.prog.cellsOf e)) = some x := by
  unfold Value.okWide at hval
  rw [hu] at hval
  obtain ⟨cs, rfl, hsz, _⟩ := hval
  obtain ⟨fuel, hf⟩ := h
  obtain ⟨xs, m, _, _, _, hl, hi⟩ := DataW.trod_array hu hf
  refine ⟨cs.toList, by simp, by simpa using hsz, fun i hin => ?_⟩
  have e := hi i hin
  rw [List.getElem?_eq_getElem (by omega)] at e
  exact ⟨m, _, e⟩
end
end Go.Proofs.Ytlelckdcmlpmdaa
/- octet.Number, louperef03.Number: they give the number's bytes. -/
namespace Go.Proofs.Ytlelckdcmlpmdaa
open Go Go.RowKit Lou

def NumAt (n0 n f : Nat) (pre : List UInt8) : Prop := pre ++ numF f n = num n0 ∧ n < 2 ^ (7 * f - 6) ∧ 1 ≤ f ∧ pre.length + f = 10

theorem NumAt.start {n0 : Nat} (h : n0 < 2 ^ 64) : NumAt n0 n0 10 [] := ⟨rfl, by simpa using h, by omega, by simp⟩
theorem NumAt.next {n0 n f : Nat} {pre : List UInt8} (h : NumAt n0 n f pre) (hge : 128 ≤ n) : NumAt n0 (n / 128) (f - 1) (pre ++ [UInt8.ofNat (n % 128 + 128)]) := by
  obtain ⟨h1, h2, h3, h4⟩ := h
  cases f with
  | zero => omega
  | succ f =>
    have hf : 1 ≤ f := by
      rcases Nat.eq_zero_or_pos f with h0 | h0
      · subst h0; simp at h2; omega
      · exact h0
    refine ⟨?_, ?_, by simpa using hf, by simp; omega⟩
    · rw [← h1]
      conv => rhs; unfold numF
      rw [if_neg (by omega)]
      simp
    · rw [Nat.div_lt_iff_lt_mul (by omega)]
      have : 2 ^ (7 * f - 6) * 128 = 2 ^ (7 * (f + 1) - 6) := by
        rw [show 7 * (f + 1) - 6 = (7 * f - 6) + 7 from by omega, Nat.pow_add]
      simp only [Nat.add_sub_cancel]
      omega

theorem NumAt.lt {n0 n f : Nat} {pre : List UInt8} (h : NumAt n0 n f pre) : n < 18446744073709551616 := by
  have h1 : 2 ^ (7 * f - 6) ≤ 2 ^ 64 := Nat.pow_le_pow_right (by omega) (by have := h.2.2.2; omega)
  have := h.2.1
  omega

end Go.Proofs.Ytlelckdcmlpmdaa
/- What sync.Once leans on, each a contract of its own (turned from the guide's worked text on a lazy value). -/
namespace Go.Proofs.Ytlelckdcmlpmdaa
open Go Go.RowKit Lou

end Go.Proofs.Ytlelckdcmlpmdaa
/- louperef03.Sum: the sum of bytes. -/
namespace Go.Proofs.Ytlelckdcmlpmdaa
open Go Go.RowKit Lou

end Go.Proofs.Ytlelckdcmlpmdaa
/- (*octet.table).make, step: the sum's table, made once. -/
namespace Go.Proofs.Ytlelckdcmlpmdaa
open Go Go.RowKit Lou

/-- k entries of the table are told. -/
structure TabTo (cs0 : Array Value) (k : Nat) (cs : Array Value) : Prop where
  size : cs.size = 260
  c0 : cs[0]? = cs0[0]?
  c1 : cs[1]? = cs0[1]?
  c2 : cs[2]? = cs0[2]?
  many : cs[3]? = some (.int .i64 (k : Int))
  to : ∀ j, j < k → cs[4 + j]? = some (.int .u32 (shN 8 j : Int))

theorem TabTo.next {cs0 cs : Array Value} {k : Nat} (h : TabTo cs0 k cs) (hk : k < 256) :
    TabTo cs0 (k + 1) ((cs.setIfInBounds (4 + k) (.int .u32 (shN 8 k : Int))).setIfInBounds 3 (.int .i64 ((k : Int) + 1))) := by
  have hs := h.size
  refine ⟨by simp [hs], ?_, ?_, ?_, ?_, ?_⟩
  · rw [Array.getElem?_setIfInBounds, if_neg (by omega), Array.getElem?_setIfInBounds, if_neg (by omega)]; exact h.c0
  · rw [Array.getElem?_setIfInBounds, if_neg (by omega), Array.getElem?_setIfInBounds, if_neg (by omega)]; exact h.c1
  · rw [Array.getElem?_setIfInBounds, if_neg (by omega), Array.getElem?_setIfInBounds, if_neg (by omega)]; exact h.c2
  · simp [Array.getElem?_setIfInBounds, hs]
  · intro j hj
    rw [Array.getElem?_setIfInBounds, if_neg (by omega), Array.getElem?_setIfInBounds]
    by_cases e : j = k
    · subst e; rw [if_pos rfl, if_pos (by omega)]
    · rw [if_neg (by omega)]; exact h.to j (by omega)

/-- The Once, its lock free; done: 0 or 1. Where it's done the table is told. -/
structure TabOk (d : Nat) (cs : Array Value) : Prop where
  size : cs.size = 260
  c0 : cs[0]? = some (.int .u32 (d : Int))
  c1 : cs[1]? = some (.int .i32 0)
  dd : d = 0 ∨ d = 1
  many : d = 0 → cs[3]? = some (.int .i64 0)
  to : d = 1 → ∀ j, j < 256 → cs[4 + j]? = some (.int .u32 (shN 8 j : Int))

end Go.Proofs.Ytlelckdcmlpmdaa
/- What ranges over functions lean on in this seat: growth that turns no cells; what has come of a list. -/
namespace Go.Proofs.Ytlelckdcmlpmdaa
open Go Go.RowKit Lou

/-- A block of cells is kept where one block that holds none is turned. -/
theorem BlkIs.kept {W W' : World} {row : Option Nat} {g : Nat} {t : TypeId} {cs : Array Value} (h : BlkIs W g t cs) (hg : W.grownBy W' row) (hr : ∀ r, row = some r → ∃ o : Obj, W.heap[r]? = some o ∧ o.isCells = false) : BlkIs W' g t cs :=
  h.grown hg (fun e => by
    obtain ⟨o, ho, hc⟩ := hr g e.symm
    rw [h] at ho
    injection ho with ho
    subst ho
    cases hc)
theorem BlkIs.own (g : Nat) (t : TypeId) {β : Type} (cs : β → Array Value) : Own (fun (s : β) W => BlkIs W g t (cs s)) := fun _ _ _ _ hs hg hr => hs.kept hg hr
theorem BlkIs.boxed {W : World} {g : Nat} {t : TypeId} {v : Value} (h : BlkIs W g t #[v]) : W.cell? ⟨g, 0, none⟩ = some v := by rw [h.cell]; rfl
end Go.Proofs.Ytlelckdcmlpmdaa
/- slices.Values over lists of bytes; octet.Sum. -/
namespace Go.Proofs.Ytlelckdcmlpmdaa
open Go Go.RowKit Lou Go.Shelf
attribute [local go_sem] Oper.semAt_some

/-- Bytes that came in, as one value (below n₀ in the world w0). -/
abbrev Piece (w0 : World) (n₀ : Nat) := { x : (Option Addr × Nat) × List UInt8 // InB w0 n₀ x.1.1 x.1.2 x.2 }
def Piece.val {w0 : World} {n₀ : Nat} (p : Piece w0 n₀) : Value := .slice p.1.1.1 p.1.2.length p.1.1.2
def Piece.l {w0 : World} {n₀ : Nat} (p : Piece w0 n₀) : List UInt8 := p.1.2

/-- A list of bytes' lists that came in. -/
structure InLL (w : World) (B : Nat) (A : Option Addr) (c : Nat) (ls : List (Piece w B)) : Prop where
  le : ls.length ≤ c
  max : c ≤ 9223372036854775807
  lies : 0 < ls.length → ∃ g o, A = some ⟨g, o, none⟩ ∧ g < B ∧ ∀ j (h : j < ls.length), w.cell? ⟨g, o + j, none⟩ = some ls[j].val

section
variable {w0 : World} {n₀ : Nat}

end

end Go.Proofs.Ytlelckdcmlpmdaa
/- copy of bytes into a block of the call's own. -/
namespace Go.Proofs.Ytlelckdcmlpmdaa
open Go Go.RowKit Lou

theorem BlkIs.setRow {w : World} {g : Nat} {t : TypeId} {cs : Array Value} (h : BlkIs w g t cs) (cs' : Array Value) : BlkIs (w.setRow g cs') g t cs' := setRow_heap w g cs cs' t (0, 0) h
theorem BlkIs.setRow_ne {w : World} {g k : Nat} {t : TypeId} {cs : Array Value} (h : BlkIs w g t cs) (hk : g ≠ k) (cs' : Array Value) : BlkIs (w.setRow k cs') g t cs := (setRow_other w k g cs' hk).trans h
theorem below_setRow {B : Nat} {w0 w : World} (hb : Below B w0 w) {g : Nat} (hg : B ≤ g) (cs : Array Value) : Below B w0 (w.setRow g cs) :=
  hb.trans ⟨rfl, rfl, rfl, by simp [World.setRow], fun k hk => setRow_other w g k cs (by omega)⟩

/-- What stands after a copy. -/
def spliceB (l : List UInt8) (o n : Nat) (src : List UInt8) : List UInt8 := l.take o ++ src.take n ++ l.drop (o + min src.length n)
theorem copyB_run {w : World} {g o : Nat} {l src : List UInt8} {A : Option Addr} {c B dLen dCap : Nat} (ty : TypeId) {T : TypeId} (hb : BlkIs w g T (l.map b8).toArray) (hin : InB w B A c src) (hfit : o + dLen ≤ l.length) :
    (Builtin.copy_ #[30, 30] ty #[.slice (some ⟨g, o, none⟩) dLen dCap, .slice A src.length c]).run Try.prog w = .ok (.int .i64 ((min src.length dLen : Nat) : Int)) (w.setRow g ((spliceB l o dLen src).map b8).toArray) := by
  obtain ⟨i0, hi, hz0, hz1, hz2⟩ := info_parts inf_u8
  have hs : (Try.prog.info? 5).map (·.size) = some 1 := by rw [hi]; simp [hz1]
  rcases Nat.eq_zero_or_pos src.length with h0 | h0
  · obtain rfl := List.eq_nil_of_length_eq_zero h0
    have e : spliceB l o dLen [] = l := by simp [spliceB]
    rw [e, setRow_self w g _ _ _ hb]
    rcases A with _ | ad
    · obtain rfl := hin.nil rfl
      have := run_copy_nil (P := Try.prog) w 30 30 ty 5 ⟨g, o, none⟩ dLen dCap Try.underlying30 (by rw [hi]; rfl)
      simpa [goInt] using this
    · have := run_copy_row (P := Try.prog) w 30 30 ty 5 g o dLen dCap ad 0 c _ _ [] Try.underlying30 hs hb (by simp) (by simp) (by simp; omega) (by simp)
      have e2 : ((l.map b8).toArray.toList.take o ++ [] ++ (l.map b8).toArray.toList.drop (o + ([] : List Value).length)).toArray = (l.map b8).toArray := by simp
      rw [e2, setRow_self w g _ _ _ hb] at this
      simpa [goInt] using this
  · obtain ⟨g2, o2, rfl, hg2, hc⟩ := hin.lies h0
    have := run_copy_row (P := Try.prog) w 30 30 ty 5 g o dLen dCap ⟨g2, o2, none⟩ src.length c _ _ ((src.take dLen).map b8) Try.underlying30 hs hb (by simp [Nat.min_comm]) ?_ (by simp; omega) (fun v hv => by obtain ⟨x, _, rfl⟩ := List.mem_map.1 hv; rfl)
    · rw [this]
      simp [goInt, spliceB, Nat.min_comm, List.map_take, List.map_drop]
    · intro j v hj
      have hj2 : j < (src.take dLen).length := by
        have := (List.getElem?_eq_some_iff.1 hj).1
        simpa using this
      have hjs : j < src.length := by simp at hj2; omega
      have ea : (⟨g2, o2, none⟩ : Addr).add j = ⟨g2, o2 + j, none⟩ := by cases j <;> simp [Addr.add]
      rw [ea, hc j hjs]
      rw [List.getElem?_map, List.getElem?_eq_getElem hj2, List.getElem_take] at hj
      simpa [b8] using hj

section
variable {w : World} {ops : Array Oper} {rest : List Oper} {o : Oper} {a : Act} {Q : Exit → Act → World → Prop}
theorem oper_copyB {K : Act → World → Prop} (d s : Operand) (ho : o.op = .call { callee := .builtin .copy, args := #[d, s], argTypes := #[30, 30] })
    (g off : Nat) (l src : List UInt8) (A : Option Addr) (c B dLen dCap : Nat) (hd : a.eval d = .slice (some ⟨g, off, none⟩) dLen dCap) (hs : a.eval s = .slice A src.length c)
    {T : TypeId} (hb : BlkIs w g T (l.map b8).toArray) (hin : InB w B A c src) (hfit : off + dLen ≤ l.length)
    (h : K (a.put o.dst (.int .i64 ((min src.length dLen : Nat) : Int))) (w.setRow g ((spliceB l off dLen src).map b8).toArray)) : o.wp Try.prog a w K Q := by
  have hr := copyB_run (dCap := dCap) o.type hb hin hfit
  unfold Oper.wp execOp
  simp only [ho, resolve, invoke, builtin, Sem.run_bind, Sem.run_pure, Result.andThen_ok, List.map_toArray, List.map_cons, List.map_nil, hd, hs, hr]
  exact h
end
/-- An own row without spare room, as a block. -/
theorem OwnB.blk {w : World} {base g : Nat} {l : List UInt8} (h : OwnB w base (.slice (some ⟨g, 0, none⟩) l.length l.length) l) : BlkIs w g 5 (l.map b8).toArray ∧ base ≤ g := by
  rcases h.2 with ⟨h1, _⟩ | ⟨g', cap, cur, hv, hb, hg, hle, _, hs, ht⟩
  · cases h1
  · injection hv with e1 e2 e3
    injection e1 with e1
    injection e1 with e1 _ _
    subst e1 e3
    refine ⟨?_, hb⟩
    have e : cur.toList = l.map b8 := by
      rw [← ht, List.take_of_length_le]
      simp; omega
    have e' : cur = (l.map b8).toArray := by rw [← e]
    unfold BlkIs
    rw [hg, e']
end Go.Proofs.Ytlelckdcmlpmdaa
/- Steps of a region that draws its order, for go_region_held3: append and copy of bytes. -/
namespace Go.Proofs.Ytlelckdcmlpmdaa
open Go Go.RowKit Lou

/-- A row's block lies at the base or behind it. -/
theorem OwnB.ownGe {w : World} {base : Nat} {v : Value} {l : List UInt8} (h : OwnB w base v l) : ∀ r, v.ownBlock = some r → base ≤ r := by
  intro r hr
  rcases h.form with ⟨rfl, _⟩ | ⟨g, cap, rfl, hb, _⟩
  · cases hr
  · injection hr with hr
    subst hr
    exact hb
theorem grown_below {w w' : World} {B : Nat} {row : Option Nat} (hg : w.grownBy w' row) (hB : B ≤ w.heap.size) (hr : ∀ r, row = some r → B ≤ r) : Below B w w' :=
  ⟨hg.os, hg.tape, hg.output, hg.size, fun k hk => hg.block k (by omega) (fun e => by have := hr k e.symm; omega)⟩
section
variable {w : World} {ops : Array Oper} {o : Oper} {a : Act} {K : Act → World → Prop} {Q : Exit → Act → World → Prop} {E : Prop}
theorem step_copyB (hgd : o.guard = none) (d s : Operand) (ho : o.op = .call { callee := .builtin .copy, args := #[d, s], argTypes := #[30, 30] })
    (g off : Nat) (l src : List UInt8) (A : Option Addr) (c B dLen dCap : Nat) (hd : a.eval d = .slice (some ⟨g, off, none⟩) dLen dCap) (hs : a.eval s = .slice A src.length c)
    {T : TypeId} (hb : BlkIs w g T (l.map b8).toArray) (hin : InB w B A c src) (hfit : off + dLen ≤ l.length)
    (h : K (a.put o.dst (.int .i64 ((min src.length dLen : Nat) : Int))) (w.setRow g ((spliceB l off dLen src).map b8).toArray)) :
    if Region.wanted o (yielded ops a.tmps) = true then Oper.wp Try.prog o a w K Q else E := by
  have hw : Region.wanted o (yielded ops a.tmps) = true := by simp [Region.wanted, hgd]
  rw [if_pos hw]
  exact oper_copyB d s ho g off l src A c B dLen dCap hd hs hb hin hfit h
end
end Go.Proofs.Ytlelckdcmlpmdaa
/- Structs and arrays that lie whole in a block: load, store, results. -/
namespace Go.Proofs.Ytlelckdcmlpmdaa
open Go Go.RowKit Lou

theorem BlkIs.range {w : World} {g : Nat} {t : TypeId} {cs : Array Value} (h : BlkIs w g t cs) : w.rangeAt g 0 cs.toList := fun j v hj => by
  rw [Nat.zero_add, h.cell]
  simpa using hj
/-- A type whose values lie in n cells of a block of their own. -/
structure RowTy (P : Program) (T : TypeId) (n : Nat) : Prop where
  desc : ∃ d, P.underlying T = some d ∧ d.isRow = true
  size : (P.info? T).map (·.size) = some n
theorem run_loadW {P : Program} {w : World} {g : Nat} {T t : TypeId} {cs : Array Value} (hT : RowTy P T cs.size) (hb : BlkIs w g t cs) : (loadVar T ⟨g, 0, none⟩).run P w = .ok (.agg cs) w := by
  obtain ⟨d, hu, hd⟩ := hT.desc
  have := run_loadVar_mid (P := P) w g 0 T cs.toList d hb.range hu hd (by simpa using hT.size)
  simpa using this
theorem run_storeW {P : Program} {w : World} {g : Nat} {T t : TypeId} {cs cs' : Array Value} (hT : RowTy P T cs.size) (hb : BlkIs w g t cs) (hs : cs'.size = cs.size) (h1 : ∀ v ∈ cs'.toList, v.oneCell' = true) : (storeVar T ⟨g, 0, none⟩ (.agg cs')).run P w = .ok () (w.setRow g cs') := by
  have h := run_storeCells_at (P := P) g 0 t cs'.toList 0 cs w hb (by simp; omega) h1
  have e : (cs.toList.take (0 + 0) ++ cs'.toList ++ cs.toList.drop (0 + 0 + cs'.toList.length)).toArray = cs' := by
    simp [List.drop_of_length_le, hs]
  rw [e] at h
  have hi := hT.size
  cases hq : P.info? T with
  | none => simp [hq] at hi
  | some i =>
    have hs2 : cs'.size = i.size := by simp [hq] at hi; omega
    simp [storeVar, sizeOf, typeInfo, hq, Value.cells, hs2, h]
section
variable {P : Program} {w : World} {ops : Array Oper} {rest : List Oper} {o : Oper} {a : Act} {Q : Exit → Act → World → Prop}
theorem oper_loadW {K : Act → World → Prop} (T : TypeId) (x : Operand) (ho : o.op = .load T x) (g : Nat) {t : TypeId} {cs : Array Value} (hx : a.eval x = .pointer (some ⟨g, 0, none⟩)) {n : Nat} (hT : RowTy P T n) (hb : BlkIs w g t cs) (hn : cs.size = n)
    (h : K (a.put o.dst (.agg cs)) w) : o.wp P a w K Q := by
  unfold Oper.wp execOp
  simp only [ho, hx, Instr.loadAt, Instr.sureAddr, Sem.run_bind, Sem.run_pure, Result.andThen_ok, run_loadW (hn ▸ hT) hb]
  exact h
theorem oper_storeW {K : Act → World → Prop} (T : TypeId) (x y : Operand) (ho : o.op = .store T x y) (g : Nat) {t : TypeId} {cs cs' : Array Value} (hx : a.eval x = .pointer (some ⟨g, 0, none⟩)) (hy : a.eval y = .agg cs') {n : Nat} (hT : RowTy P T n) (hb : BlkIs w g t cs) (hn : cs.size = n)
    (hs : cs'.size = cs.size) (h1 : ∀ v ∈ cs'.toList, v.oneCell' = true) (h : K (a.put o.dst undef) (w.setRow g cs')) : o.wp P a w K Q := by
  unfold Oper.wp execOp
  simp only [ho, hx, hy, Instr.storeAt, Instr.sureAddr, Sem.run_bind, Sem.run_pure, Result.andThen_ok, run_storeW (hn ▸ hT) hb hs h1]
  exact h
theorem wp_loadW (hgd : o.guard = none) (T : TypeId) (x : Operand) (ho : o.op = .load T x) (g : Nat) {t : TypeId} {cs : Array Value} (hx : a.eval x = .pointer (some ⟨g, 0, none⟩)) {n : Nat} (hT : RowTy P T n) (hb : BlkIs w g t cs) (hn : cs.size = n)
    (h : wpList P ops Q rest (a.put o.dst (.agg cs)) w) : wpList P ops Q (o :: rest) a w :=
  wpList_plain hgd fun _ hK => oper_loadW T x ho g hx hT hb hn (hK _ _ h)
theorem wp_storeW (hgd : o.guard = none) (T : TypeId) (x y : Operand) (ho : o.op = .store T x y) (g : Nat) {t : TypeId} {cs cs' : Array Value} (hx : a.eval x = .pointer (some ⟨g, 0, none⟩)) (hy : a.eval y = .agg cs') {n : Nat} (hT : RowTy P T n) (hb : BlkIs w g t cs) (hn : cs.size = n)
    (hs : cs'.size = cs.size) (h1 : ∀ v ∈ cs'.toList, v.oneCell' = true) (h : wpList P ops Q rest (a.put o.dst undef) (w.setRow g cs')) : wpList P ops Q (o :: rest) a w :=
  wpList_plain hgd fun _ hK => oper_storeW T x y ho g hx hy hT hb hn hs h1 (hK _ _ h)
end
theorem results_cellW {fn : Func} {P : Program} {a : Act} {w : World} {g : Nat} {T t : TypeId} {cs : Array Value} (k : Tmp) (h : fn.results = #[.cell k T]) (hk : a.eval (.tmp k) = .pointer (some ⟨g, 0, none⟩)) {n : Nat} (hT : RowTy P T n) (hb : BlkIs w g t cs) (hn : cs.size = n) :
    (results fn a.tmps).run P w = .ok (.agg cs) w := by
  have e : a.tmps.getD k undef = .pointer (some ⟨g, 0, none⟩) := hk
  unfold results
  simp only [h]
  simp [← Array.getD_eq_getD_getElem?, e, asAddr, run_loadW (hn ▸ hT) hb, Result.andThen]
theorem results_cellW_tmp {fn : Func} {P : Program} {a : Act} {w : World} {g : Nat} {T t : TypeId} {cs : Array Value} {v : Value} (k m : Tmp) (h : fn.results = #[.cell k T, .tmp m]) (hk : a.eval (.tmp k) = .pointer (some ⟨g, 0, none⟩)) (hm : a.eval (.tmp m) = v) {n : Nat} (hT : RowTy P T n) (hb : BlkIs w g t cs) (hn : cs.size = n) :
    (results fn a.tmps).run P w = .ok (.tuple #[.agg cs, v]) w := by
  have e : a.tmps.getD k undef = .pointer (some ⟨g, 0, none⟩) := hk
  have e2 : a.tmps.getD m undef = v := hm
  unfold results
  simp only [h]
  simp [← Array.getD_eq_getD_getElem?, e, e2, asAddr, run_loadW (hn ▸ hT) hb, Result.andThen]
theorem b8_one (l : List UInt8) : ∀ v ∈ (l.map b8).toArray.toList, v.oneCell' = true := by
  intro v hv
  simp at hv
  obtain ⟨x, _, rfl⟩ := hv
  rfl
end Go.Proofs.Ytlelckdcmlpmdaa
/- Rows of elements of whatever type: that came in, that a call owns; append, Clone, an element read. -/
namespace Go.Proofs.Ytlelckdcmlpmdaa
open Go Go.RowKit Lou

/-- n elements of sz cells each lie in a row below B: '.slice A n c'; cs are their cells. -/
structure InG (w : World) (B sz : Nat) (A : Option Addr) (n c : Nat) (cs : List Value) : Prop where
  le : n ≤ c
  max : c ≤ 9223372036854775807
  nil : A = none → c = 0
  len : cs.length = n * sz
  one : ∀ v ∈ cs, v.oneCell' = true
  lies : 0 < n → ∃ g o, A = some ⟨g, o, none⟩ ∧ g < B ∧ w.rangeAt g o cs
theorem InG.keep {w w' : World} {B sz : Nat} {A : Option Addr} {n c : Nat} {cs : List Value} (h : InG w B sz A n c cs) (hk : ∀ p : Addr, p.block < B → w'.cell? p = w.cell? p) : InG w' B sz A n c cs :=
  ⟨h.le, h.max, h.nil, h.len, h.one, fun hl => by
    obtain ⟨g, o, hA, hg, hc⟩ := h.lies hl
    exact ⟨g, o, hA, hg, fun j v hj => (hk _ hg).trans (hc j v hj)⟩⟩
theorem InG.below {w w' : World} {B sz : Nat} {A : Option Addr} {n c : Nat} {cs : List Value} (h : InG w B sz A n c cs) (hb : Below B w w') : InG w' B sz A n c cs := h.keep fun _ hp => hb.cell hp
theorem InG.more {w : World} {B B' sz : Nat} {A : Option Addr} {n c : Nat} {cs : List Value} (h : InG w B sz A n c cs) (hB : B ≤ B') : InG w B' sz A n c cs :=
  ⟨h.le, h.max, h.nil, h.len, h.one, fun hl => by
    obtain ⟨g, o, hA, hg, hc⟩ := h.lies hl
    exact ⟨g, o, hA, by omega, hc⟩⟩
theorem InG.grow {w w' : World} {sz : Nat} {A : Option Addr} {n c : Nat} {cs : List Value} (h : InG w w.heap.size sz A n c cs) (hb : Below w.heap.size w w') : InG w' w'.heap.size sz A n c cs := (h.below hb).more hb.size
theorem InG.mt (w : World) (B sz : Nat) : InG w B sz none 0 0 [] := ⟨Nat.le_refl _, by omega, fun _ => rfl, by simp, (fun v h => by cases h), fun h => by omega⟩
/-- The same row, cut to its first k. -/
theorem InG.take {w : World} {B sz : Nat} {A : Option Addr} {n c : Nat} {cs : List Value} (h : InG w B sz A n c cs) (k c' : Nat) (hk : k ≤ n) (hc : k ≤ c') (hc' : c' ≤ c) : InG w B sz A k c' (cs.take (k * sz)) :=
  ⟨hc, Nat.le_trans hc' h.max, fun e => by have := h.nil e; omega, by rw [List.length_take, h.len]; exact Nat.min_eq_left (Nat.mul_le_mul_right _ hk), fun v hv => h.one v (List.mem_of_mem_take hv), fun h0 => by
    obtain ⟨g, o, e, hg, hr⟩ := h.lies (by omega)
    refine ⟨g, o, e, hg, fun j v hj => hr j v ?_⟩
    rw [List.getElem?_take] at hj
    split at hj
    · exact hj
    · cases hj⟩
/-- An element's cells. -/
theorem InG.elem {w : World} {B sz g o : Nat} {n c : Nat} {cs : List Value} (h : InG w B sz (some ⟨g, o, none⟩) n c cs) (j : Nat) (hj : j < n) : w.rangeAt g (o + j * sz) ((cs.drop (j * sz)).take sz) := by
  obtain ⟨g', o', e, hg, hr⟩ := h.lies (by omega)
  injection e with e
  injection e with e1 e2
  subst e1 e2
  intro i v hi
  rw [List.getElem?_take] at hi
  split at hi
  · rw [List.getElem?_drop] at hi
    rw [Nat.add_assoc]
    exact hr _ v hi
  · cases hi

/-- A row that a call owns, as one that came in. -/
theorem ownG_in {w : World} {base : Nat} {T : TypeId} {sz : Nat} {v : Value} {n : Nat} {cs : List Value} (h : w.ownsRow base T sz v n cs) (h1 : ∀ v ∈ cs, v.oneCell' = true) : ∃ A c, v = .slice A n c ∧ InG w w.heap.size sz A n c cs := by
  rcases h.2 with ⟨e1, e2⟩ | ⟨g, cap, cur, hv, hb, hg, hle, hm, hs, ht⟩
  · subst e2
    exact ⟨none, 0, e1, Nat.le_refl _, by omega, fun _ => rfl, h.1, h1, fun h => by omega⟩
  · refine ⟨_, cap, hv, hle, by unfold maxLen at hm; omega, (fun e => by cases e), h.1, h1, fun _ => ⟨g, 0, rfl, (Array.getElem?_eq_some_iff.1 hg).1, fun j u hj => ?_⟩⟩
    rw [Nat.zero_add, cell_of_row w g j cur _ (0, 0) hg]
    rw [← ht, List.getElem?_take] at hj
    split at hj
    · simpa using hj
    · cases hj
theorem ownG_ge {w : World} {base : Nat} {T : TypeId} {sz : Nat} {v : Value} {n : Nat} {cs : List Value} (h : w.ownsRow base T sz v n cs) : ∀ r, v.ownBlock = some r → base ≤ r := by
  intro r hr
  rcases h.2 with ⟨rfl, _⟩ | ⟨g, cap, cur, rfl, hb, _⟩
  · cases hr
  · injection hr with hr
    subst hr
    exact hb
theorem ownG_lt {w : World} {base : Nat} {T : TypeId} {sz : Nat} {v : Value} {n : Nat} {cs : List Value} (h : w.ownsRow base T sz v n cs) : ∀ r, v.ownBlock = some r → r < w.heap.size := by
  intro r hr
  rcases h.2 with ⟨rfl, _⟩ | ⟨g, cap, cur, rfl, hb, hg, _⟩
  · cases hr
  · injection hr with hr
    subst hr
    exact (Array.getElem?_eq_some_iff.1 hg).1
theorem ownG_later {w w' : World} {base : Nat} {T : TypeId} {sz : Nat} {v : Value} {n : Nat} {cs : List Value} (h : w.ownsRow base T sz v n cs) (hB : ∀ r, v.ownBlock = some r → w'.heap[r]? = w.heap[r]?) : w'.ownsRow base T sz v n cs := by
  refine ⟨h.1, ?_⟩
  rcases h.2 with h | ⟨g, cap, cur, h1, h2, h3, h4⟩
  · exact .inl h
  · exact .inr ⟨g, cap, cur, h1, h2, (hB g (by rw [h1]; rfl)).trans h3, h4⟩
theorem ownG_grow {w w' : World} {base : Nat} {T : TypeId} {sz : Nat} {v : Value} {n : Nat} {cs : List Value} (h : w.ownsRow base T sz v n cs) (hB : Below w.heap.size w w') : w'.ownsRow base T sz v n cs :=
  ownG_later h fun r hr => hB.block r (ownG_lt h r hr)
theorem ownG_base {w : World} {b b' : Nat} {T : TypeId} {sz : Nat} {v : Value} {n : Nat} {cs : List Value} (h : w.ownsRow b T sz v n cs) (hb : b' ≤ b) : w.ownsRow b' T sz v n cs := by
  refine ⟨h.1, ?_⟩
  rcases h.2 with h | ⟨g, cap, cur, h1, h2, h3⟩
  · exact .inl h
  · exact .inr ⟨g, cap, cur, h1, by omega, h3⟩
/-- What is known of an element's type. -/
structure ElT (S T : TypeId) (sz by_ : Nat) (z : Value) : Prop where
  und : Try.prog.underlying S = some (.slice T)
  inf : (Try.prog.info? T).map (fun i => (i.zero, i.size, i.bytes)) = some (some z, sz, by_)
  zs : z.cells.size = sz
  pos : 0 < sz
section
variable {w : World} {ops : Array Oper} {rest : List Oper} {o : Oper} {a : Act} {Q : Exit → Act → World → Prop}
theorem wp_appG (hg : o.guard = none) {S T : TypeId} {sz by_ : Nat} {z : Value} (hT : ElT S T sz by_ z) (s x : Operand) (ho : o.op = .call { callee := .builtin .append, args := #[s, x], argTypes := #[S, S] })
    (base : Nat) (v : Value) (n : Nat) (cs : List Value) (hs : a.eval s = v) (hown : w.ownsRow base T sz v n cs) (B : Nat) (A : Option Addr) (m c : Nat) (cs2 : List Value) (hx : a.eval x = .slice A m c) (hin : InG w B sz A m c cs2)
    (hm : n + m ≤ maxLen) (hbytes : (n + m) * by_ ≤ 140737488355328) (hbase : base ≤ w.heap.size)
    (h : ∀ v' w', w'.ownsRow base T sz v' (n + m) (cs ++ cs2) → w.grownBy w' v.ownBlock → wpList Try.prog ops Q rest (a.put o.dst v') w') : wpList Try.prog ops Q (o :: rest) a w := by
  obtain ⟨i0, hi, hz0, hz1, hz2⟩ := info_parts hT.inf
  have hle := hin.le
  rcases A with _ | ad
  · have hc0 := hin.nil rfl
    obtain rfl : m = 0 := by omega
    obtain rfl : cs2 = [] := List.eq_nil_of_length_eq_zero (by rw [hin.len]; omega)
    subst hc0
    refine wpList_append_own_none (w := w) hg s x _ ho base _ i0 sz hT.und hi v n cs hs hown hx ?_
    exact h v w (by rw [List.append_nil]; exact hown) (World.grownBy.refl _ _)
  · have hnews : ∀ j u, cs2[j]? = some u → w.cell? (ad.add j) = some u := by
      intro j u hu
      have hm0 : 0 < m := by
        rcases Nat.eq_zero_or_pos m with h0 | h0
        · subst h0
          have := hin.len
          obtain rfl : cs2 = [] := List.eq_nil_of_length_eq_zero (by omega)
          simp at hu
        · exact h0
      obtain ⟨g, o', hA, _, hr⟩ := hin.lies hm0
      obtain rfl : ad = ⟨g, o', none⟩ := by simpa using hA
      rw [Addr.add_mid]
      exact hr j u hu
    refine wpList_append_own w hg s x _ ho base _ i0 z sz by_ hT.und hi hz0 hz1 hz2 hT.zs hT.pos v n cs hs hown ad m c cs2 hx hin.len hnews hin.one hm hbytes hbase ?_
    intro v' w' hown' hgrow _
    exact h v' w' hown' hgrow
/-- An element, loaded. -/
theorem x_loadM {P : Program} {ρ : Operand → Value} {T : TypeId} {k g off : Nat} {cs : List Value} {x : Operand} (hT : RowTy P T k) (hr : w.rangeAt g off cs) (hk : cs.length = k) (ho : o.op = .load T x) (hx : ρ x = .pointer (some ⟨g, off, none⟩)) : (execOp ρ o).run P w = .ok (.value (.agg cs.toArray)) w := by
  obtain ⟨d, hu, hd⟩ := hT.desc
  have := run_loadVar_mid (P := P) w g off T cs d hr hu hd (by rw [hT.size, hk])
  simp only [execOp, ho, hx, Instr.loadAt, Instr.sureAddr, Sem.run_bind, Sem.run_pure, Result.andThen_ok, this]
end
theorem run_appG {w : World} (ty : TypeId) {S T : TypeId} {sz by_ : Nat} {z : Value} (hT : ElT S T sz by_ z) (base : Nat) (v : Value) (n : Nat) (cs : List Value) (hown : w.ownsRow base T sz v n cs) (B : Nat) (A : Option Addr) (m c : Nat) (cs2 : List Value) (hin : InG w B sz A m c cs2)
    (hm : n + m ≤ maxLen) (hbytes : (n + m) * by_ ≤ 140737488355328) (hbase : base ≤ w.heap.size) :
    ∃ v' w', (Builtin.append_ #[S, S] ty #[v, .slice A m c]).run Try.prog w = .ok v' w' ∧ w'.ownsRow base T sz v' (n + m) (cs ++ cs2) ∧ w.grownBy w' v.ownBlock := by
  obtain ⟨i0, hi, hz0, hz1, hz2⟩ := info_parts hT.inf
  have hle := hin.le
  rcases A with _ | ad
  · have hc0 := hin.nil rfl
    obtain rfl : m = 0 := by omega
    obtain rfl : cs2 = [] := List.eq_nil_of_length_eq_zero (by rw [hin.len]; omega)
    subst hc0
    have hr := run_append_owned_none (P := Try.prog) w base S ty T i0 sz hT.und hi v n cs hown
    exact ⟨v, w, hr, by rw [List.append_nil]; exact hown, World.grownBy.refl _ _⟩
  · have hnews : ∀ j u, cs2[j]? = some u → w.cell? (ad.add j) = some u := by
      intro j u hu
      have hm0 : 0 < m := by
        rcases Nat.eq_zero_or_pos m with h0 | h0
        · subst h0
          have := hin.len
          obtain rfl : cs2 = [] := List.eq_nil_of_length_eq_zero (by omega)
          simp at hu
        · exact h0
      obtain ⟨g, o', hA, _, hr⟩ := hin.lies hm0
      obtain rfl : ad = ⟨g, o', none⟩ := by simpa using hA
      rw [Addr.add_mid]
      exact hr j u hu
    obtain ⟨v', w', hr, h2, h3, _, _⟩ := run_append_own_at (P := Try.prog) w base S ty T i0 z sz by_ hT.und hi hz0 hz1 hz2 hT.zs hT.pos v n cs hown ad m c cs2 hin.len hnews hin.one hm hbytes hbase
    exact ⟨v', w', hr, h2, h3⟩
section
variable {w : World} {ops : Array Oper} {o : Oper} {a : Act} {Q : Exit → Act → World → Prop} {K : Act → World → Prop} {E : Prop}
end
end Go.Proofs.Ytlelckdcmlpmdaa
/- Maps that lie in a block: made, written, read. -/
namespace Go.Proofs.Ytlelckdcmlpmdaa
open Go Go.RowKit Lou

/-- The map's entries. -/
def MapIs (w : World) (r : Nat) (es : Array MapEntry) (clock : Nat) : Prop := w.heap[r]? = some (.map es clock)
theorem MapIs.lt {w : World} {r : Nat} {es : Array MapEntry} {clock : Nat} (h : MapIs w r es clock) : r < w.heap.size := (Array.getElem?_eq_some_iff.1 h).1
theorem MapIs.below {w w' : World} {B r : Nat} {es : Array MapEntry} {clock : Nat} (h : MapIs w r es clock) (hB : Below B w w') (hr : r < B) : MapIs w' r es clock := (hB.block r hr).trans h
theorem MapIs.grown {w w' : World} {r : Nat} {es : Array MapEntry} {clock : Nat} {row : Option Nat} (h : MapIs w r es clock) (hg : w.grownBy w' row) (hr : some r ≠ row) : MapIs w' r es clock := (hg.block r h.lt hr).trans h
/-- Another map in its place. -/
def setMap (w : World) (r : Nat) (es : Array MapEntry) (clock : Nat) : World := { w with heap := w.heap.setIfInBounds r (.map es clock) }
theorem MapIs.set {w : World} {r : Nat} {es : Array MapEntry} {clock : Nat} (h : MapIs w r es clock) (es' : Array MapEntry) (clock' : Nat) : MapIs (setMap w r es' clock') r es' clock' := (MapKept.heap_set (o' := .map es' clock') h).1
theorem setMap_grown {w : World} {r : Nat} {es : Array MapEntry} {clock : Nat} (h : MapIs w r es clock) (es' : Array MapEntry) (clock' : Nat) : w.grownBy (setMap w r es' clock') (some r) :=
  ⟨rfl, rfl, rfl, by simp [setMap], fun k _ hk => (MapKept.heap_set (o' := .map es' clock') h).2 k (fun e => hk (by rw [e]))⟩
theorem BlkIs.setMap {w : World} {g q : Nat} {t : TypeId} {cs : Array Value} {es0 : Array MapEntry} {clock0 : Nat} (h : BlkIs w g t cs) (h0 : MapIs w q es0 clock0) (es' : Array MapEntry) (clock' : Nat) : BlkIs (setMap w q es' clock') g t cs := by
  have hne : g ≠ q := by
    intro e
    subst e
    have h' : w.heap[g]? = some (.cells cs t (0, 0)) := h
    rw [show w.heap[g]? = some (.map es0 clock0) from h0] at h'
    cases h'
  exact ((MapKept.heap_set (o' := .map es' clock') h0).2 g hne).trans h

section
variable {P : Program} {w : World} {mty kt et : TypeId} {d : TypeDesc} {r clock : Nat} {es : Array MapEntry} {key val : Value}
end
section
variable {P : Program} {w : World} {ops : Array Oper} {rest : List Oper} {o : Oper} {a : Act} {Q : Exit → Act → World → Prop} {mty kt et : TypeId} {d : TypeDesc} {r clock : Nat} {es : Array MapEntry} {key val : Value}
theorem wp_makeMap (hg : o.guard = none) (ho : o.op = .makeMap mty none) (h : MapIs (w.alloc (.map #[] 0)) w.heap.size #[] 0 → wpList P ops Q rest (a.put o.dst (.map (some w.heap.size))) (w.alloc (.map #[] 0))) : wpList P ops Q (o :: rest) a w :=
  wpList_plain hg fun _ hK => by
    unfold Oper.wp execOp
    simp only [ho, Option.map_none, run_makeMap, Sem.run_bind, Result.andThen_ok, Sem.run_pure]
    exact hK _ _ (h (heap_alloc_new w _))
end
end Go.Proofs.Ytlelckdcmlpmdaa
/- octet.ReadNumber: it reads the number with whose bytes these begin. -/
namespace Go.Proofs.Ytlelckdcmlpmdaa
open Go Go.RowKit Lou

/-- What a number's reading answers. -/
def rdV (l : List UInt8) : Value :=
  match rd l with
  | some (n, k) => .tuple #[.int .u64 (n : Int), .int .i64 (k : Int), .int .i64 0]
  | none => .tuple #[.int .u64 0, .int .i64 0, .int .i64 130]
/-- k bytes are read. -/
def RdAt (l : List UInt8) (acc k : Nat) : Prop := rdF (10 - k) k acc (l.drop k) = rd l ∧ acc < 128 ^ k ∧ k ≤ 10
theorem RdAt.start (l : List UInt8) : RdAt l 0 0 := ⟨rfl, by simp, by omega⟩
theorem RdAt.unfold {l : List UInt8} {acc k : Nat} (h : RdAt l acc k) (hk : k < l.length) (h10 : k < 10) :
    rd l = if k = 9 ∧ 1 < l[k].toNat then none else if 128 ≤ l[k].toNat then rdF (10 - (k + 1)) (k + 1) (acc + l[k].toNat % 128 * 128 ^ k) (l.drop (k + 1))
      else if l[k].toNat = 0 ∧ 0 < k then none else some (acc + l[k].toNat % 128 * 128 ^ k, k + 1) := by
  rw [← h.1, List.drop_eq_getElem_cons hk, show 10 - k = (10 - (k + 1)) + 1 from by omega]
  rfl
theorem RdAt.out {l : List UInt8} {acc k : Nat} (h : RdAt l acc k) (hk : l.length ≤ k ∨ 10 ≤ k) : rd l = none := by
  rw [← h.1]
  rcases hk with hk | hk
  · rw [List.drop_eq_nil_of_le hk]
    cases 10 - k <;> rfl
  · rw [show 10 - k = 0 from by omega]
    rfl
theorem RdAt.next {l : List UInt8} {acc k : Nat} (h : RdAt l acc k) (hk : k < l.length) (h9 : k < 9) (hc : 128 ≤ l[k].toNat) : RdAt l (acc + l[k].toNat % 128 * 128 ^ k) (k + 1) := by
  refine ⟨?_, ?_, by omega⟩
  · rw [h.unfold hk (by omega), if_neg (by omega), if_pos hc]
  · have h1 : l[k].toNat % 128 ≤ 127 := by omega
    have h2 : l[k].toNat % 128 * 128 ^ k ≤ 127 * 128 ^ k := Nat.mul_le_mul_right _ h1
    have h3 : 128 ^ (k + 1) = 128 ^ k * 128 := Nat.pow_succ ..
    have := h.2.1
    omega

/-- Behind a jump to the label: the frame is whatever it is. -/
def RdNone (l : List UInt8) (a : Act) : Prop := rd l = none ∧ ∃ u0 u1 u2 u3 u4 u5 u6 u7 u8 u9 u10 u11 u12 u13 u14 u15 u16 u17 u18 u19 u20 u21 u22 u23 u24 u25 u26 u27 u28 u29 u30 u31 u32 u33 u34 u35 u36 u37 u38 u39 u40 u41 u42 u43 : Value, a = { tmps := #[u0, u1, u2, u3, u4, u5, u6, u7, u8, u9, u10, u11, u12, u13, u14, u15, u16, u17, u18, u19, u20, u21, u22, u23, u24, u25, u26, u27, u28, u29, u30, u31, u32, u33, u34, u35, u36, u37, u38, u39, u40, u41, u42, u43], defers := [] }

end Go.Proofs.Ytlelckdcmlpmdaa
/- louperef03.Number, ReadNumber: the same bytes, the same reading. -/
namespace Go.Proofs.Ytlelckdcmlpmdaa
open Go Go.RowKit Lou

def unitAt (k : Nat) : Nat := 128 ^ (min k 9)

end Go.Proofs.Ytlelckdcmlpmdaa
/- octet.ReadFour, ReadEight and what they call; louperef03.ReadFixed. -/
namespace Go.Proofs.Ytlelckdcmlpmdaa
open Go Go.RowKit Lou

def fixV (m : Nat) (l : List UInt8) : Value := if l.length < m then .tuple #[.int .u64 0, .int .i64 130] else .tuple #[.int .u64 (rfix (l.take m) : Int), .int .i64 0]

def fixV32 (l : List UInt8) : Value := if l.length < 4 then .tuple #[.int .u32 0, .int .i64 130] else .tuple #[.int .u32 (rfix (l.take 4) : Int), .int .i64 0]

end Go.Proofs.Ytlelckdcmlpmdaa
/- octet.String, ReadString; louperef03.String, ReadString. -/
namespace Go.Proofs.Ytlelckdcmlpmdaa
open Go Go.RowKit Lou

/-- A string's bytes. -/
def strL (l : List UInt8) : List UInt8 := num l.length ++ l

theorem OwnB.below {w0 w w' : World} {v : Value} {l : List UInt8} (h : OwnB w w0.heap.size v l) (hb : Below w0.heap.size w0 w) (hg : w.grownBy w' v.ownBlock) : Below w0.heap.size w0 w' :=
  hb.grown hg hb.size (fun k hk => (World.ownsRow.lt h k hk).1)

/-- What a string's reading answers. -/
def rdS (l : List UInt8) : Option (List UInt8 × Nat) :=
  match rd l with
  | some (n, k) => if n ≤ l.length - k then some ((l.drop k).take n, k + n) else none
  | none => none
def rdSV (l : List UInt8) : Value :=
  match rdS l with
  | some (s, k) => .tuple #[.string (str s), .int .i64 (k : Int), .int .i64 0]
  | none => .tuple #[.string (str []), .int .i64 0, .int .i64 130]
end Go.Proofs.Ytlelckdcmlpmdaa
/- frame: within (slices.ContainsFunc over ints), Check, place, Sectors, FrameAt, PageAt. -/
namespace Go.Proofs.Ytlelckdcmlpmdaa
open Go Go.RowKit Lou

/-- Numbers that lie in a row. -/
structure InN (w : World) (A : Option Addr) (xs : List Int) : Prop where
  lies : 0 < xs.length → ∃ g o, A = some ⟨g, o, none⟩ ∧ ∀ j (h : j < xs.length), w.cell? ⟨g, o + j, none⟩ = some (.int .i64 xs[j])

theorem wrap_i64_fr (n : Int) (h0 : -9223372036854775808 ≤ n) (h1 : n < 9223372036854775808) : IntKind.i64.wrap n = n := by
  simp [IntKind.wrap, IntKind.bits, IntKind.signed]
  split <;> omega

def isIn (lo hi : Int) (xs : List Int) : Bool := !xs.any (fun x => decide (x < lo) || decide (hi < x))
end Go.Proofs.Ytlelckdcmlpmdaa
/- slices.Grow, Concat, Repeat, Clone over bytes. -/
namespace Go.Proofs.Ytlelckdcmlpmdaa
open Go Go.RowKit Lou

end Go.Proofs.Ytlelckdcmlpmdaa
/- A region that draws its order, by facts: one predicate a slot, each operation shown once, whatever the order. -/
namespace Go.Proofs.Ytlelckdcmlpmdaa
open Go Go.RowKit

/-- The world has grown: what lay lies as it lay. -/
def Grow (w w' : World) : Prop := Below w.heap.size w w'
theorem Grow.refl (w : World) : Grow w w := Below.refl _ _
theorem Grow.trans {a b c : World} (h : Grow a b) (k : Grow b c) : Grow a c := Below.trans h (Below.mono k h.size)
theorem Grow.drew (w : World) : Grow w w.drew := (Below.refl _ _).drew
theorem Grow.alloc (w : World) (o : Obj) : Grow w (w.alloc o) := (Below.refl _ _).alloc (Nat.le_refl _) o

namespace Reg
variable {P : Program} {ops : Array Oper} {FS : Tmp → Value → World → Prop}

/-- What is known of an operation's slot. -/
def FSd (FS : Tmp → Value → World → Prop) : Option Tmp → Value → World → Prop
  | some d, v, w => FS d v w
  | none, _, _ => True

/-- An operation is in order: from what is known of the slots that it looks at, it comes to what is claimed of its own. -/
def OpOk (P : Program) (ops : Array Oper) (FS : Tmp → Value → World → Prop) (w0 : World) (o : Oper) : Prop :=
  ∀ (a : Act) (w : World) (K : Act → World → Prop) (Q : Exit → Act → World → Prop), Grow w0 w → (∀ t, (o.looksAt ops).contains t = true → FS t (a.eval (.tmp t)) w) →
    (∀ v w', Grow w w' → FSd FS o.dst v w' → K (a.put o.dst v) w') →
    (if Region.wanted o (yielded ops a.tmps) then o.wp P a w K Q ∨ (o.asks P a w ∧ LetsOut Q) else K (a.put o.dst undef) w)

def AllOk (P : Program) (ops : Array Oper) (FS : Tmp → Value → World → Prop) (w0 : World) : List Oper → Prop
  | [] => True
  | o :: r => OpOk P ops FS w0 o ∧ AllOk P ops FS w0 r

theorem AllOk.get {w0 : World} : ∀ {l : List Oper}, AllOk P ops FS w0 l → ∀ o ∈ l, OpOk P ops FS w0 o
  | [], _, o, h => by cases h
  | x :: r, h, o, hm => by
    rcases List.mem_cons.1 hm with rfl | hm
    · exact h.1
    · exact AllOk.get h.2 o hm

/-- Each edge that binds leads back; each slot that an operation looks at and that the region writes is written by an operation that comes ahead by an edge. -/
def covered (ops : Array Oper) : Bool :=
  ops.toList.zipIdx.all fun (o, i) =>
    (o.after.toList.all fun e => !Region.binds .any e || decide (e.on < i)) &&
    (o.looksAt ops).all fun t => ops.toList.zipIdx.all fun (p, j) => p.dst != some t || (o.after.toList.any fun e => Region.binds .any e && e.on == j)

def Known (ops : Array Oper) (listed : Array Bool) (t : Tmp) : Prop := ∀ (j : Nat) (p : Oper), ops[j]? = some p → p.dst = some t → listed.getD j true = true

structure J (ops : Array Oper) (FS : Tmp → Value → World → Prop) (w0 : World) (n : Nat) (d : List Deferred) (listed : Array Bool) (a : Act) (w : World) : Prop where
  size : a.tmps.size = n
  defers : a.defers = d
  grow : Grow w0 w
  facts : ∀ t, Known ops listed t → FS t (a.eval (.tmp t)) w

theorem eval_put_same {a : Act} {d : Tmp} {v : Value} (h : d < a.tmps.size) : (a.put (some d) v).eval (.tmp d) = v := by
  simp [Act.put, Act.eval, h]
theorem eval_put_other {a : Act} {d t : Tmp} {v : Value} (h : t ≠ d) : (a.put (some d) v).eval (.tmp t) = a.eval (.tmp t) := by
  simp [Act.put, Act.eval, Array.getD_eq_getD_getElem?, Array.getElem?_setIfInBounds, Ne.symm h]

theorem ready_mem {i : Nat} {listed : Array Bool} (h : i ∈ Region.ready .any ops listed) : ∃ o, ops[i]? = some o ∧ listed.getD i true = false ∧ ∀ e ∈ o.after.toList, Region.binds .any e = true → listed.getD e.on false = true := by
  unfold Region.ready at h
  simp only [List.mem_filter, List.mem_range, Bool.and_eq_true, Bool.not_eq_true'] at h
  obtain ⟨hi, h1, h2⟩ := h
  cases ho : ops[i]? with
  | none => simp [ho] at h2
  | some o =>
    refine ⟨o, rfl, h1, ?_⟩
    simp only [ho, Option.map_some, Option.getD_some] at h2
    intro e he hb
    rw [Array.all_eq_true_iff_forall_mem] at h2
    have := h2 e (Array.mem_toList_iff.1 he)
    simpa [hb] using this

theorem covered_spec (h : covered ops = true) {i : Nat} {o : Oper} (ho : ops[i]? = some o) :
    (∀ e ∈ o.after.toList, Region.binds .any e = true → e.on < i) ∧
    (∀ t, (o.looksAt ops).contains t = true → ∀ (j : Nat) (p : Oper), ops[j]? = some p → p.dst = some t → ∃ e ∈ o.after.toList, Region.binds .any e = true ∧ e.on = j) := by
  unfold covered at h
  rw [List.all_eq_true] at h
  have hm : (o, i) ∈ ops.toList.zipIdx := by
    rw [List.mem_zipIdx_iff_getElem?]
    simpa using ho
  have := h _ hm
  simp only [Bool.and_eq_true, List.all_eq_true] at this
  obtain ⟨h1, h2⟩ := this
  constructor
  · intro e he hb
    have := h1 e he
    simpa [hb] using this
  · intro t ht j p hp hd
    have hp' : (p, j) ∈ ops.toList.zipIdx := by
      rw [List.mem_zipIdx_iff_getElem?]
      simpa using hp
    have := h2 t (by simpa using ht) _ hp'
    simp only [hd, bne_self_eq_false, Bool.false_or, List.any_eq_true, Bool.and_eq_true, beq_iff_eq] at this
    obtain ⟨e, he, hb, hj⟩ := this
    exact ⟨e, he, hb, hj⟩

/-- The number of operations that are still to come. -/
def left (listed : Array Bool) : Nat := (listed.toList.filter (! ·)).length

theorem region_wpAny (hm : P.follows .mixedOrders = true) (hcov : covered ops = true) {a0 : Act} {w0 : World} {Q : Exit → Act → World → Prop} (n : Nat) (hn : a0.tmps.size = n)
    (hdst : ∀ o ∈ ops.toList, ∀ d, o.dst = some d → d < n) (FS : Tmp → Value → World → Prop)
    (hstab : ∀ t v w w', FS t v w → Grow w w' → FS t v w')
    (hstart : ∀ t, (∀ o ∈ ops.toList, o.dst ≠ some t) → FS t (a0.eval (.tmp t)) w0)
    (hok : AllOk P ops FS w0 ops.toList)
    (hend : ∀ a w, a.tmps.size = n → a.defers = a0.defers → Grow w0 w → (∀ t, FS t (a.eval (.tmp t)) w) → Q .normal a w) :
    wpAny P .any ops Q ops.size (Array.replicate ops.size false) a0 { w0 with drawn := w0.drawn + 1 } := by
  have key : ∀ (fuel : Nat) (listed : Array Bool) (a : Act) (w : World), listed.size = ops.size → left listed ≤ fuel → J ops FS w0 n a0.defers listed a w → wpAny P .any ops Q fuel listed a w := by
    intro fuel
    have hdone : ∀ (listed : Array Bool) (a : Act) (w : World), listed.size = ops.size → J ops FS w0 n a0.defers listed a w → Region.ready .any ops listed = [] → Q .normal a w := by
      intro listed a w hs hJ hr
      have hall : ∀ i, i < ops.size → listed.getD i true = true := by
        intro i
        induction i using Nat.strongRecOn with
        | _ i ih =>
          intro hi
          cases hl : listed.getD i true with
          | true => rfl
          | false =>
            exfalso
            have : i ∈ Region.ready .any ops listed := by
              unfold Region.ready
              simp only [List.mem_filter, List.mem_range, Bool.and_eq_true, Bool.not_eq_true']
              refine ⟨hi, hl, ?_⟩
              have ho : ops[i]? = some ops[i] := Array.getElem?_eq_getElem hi
              simp only [ho, Option.map_some, Option.getD_some]
              rw [Array.all_eq_true_iff_forall_mem]
              intro e he
              have hc := (covered_spec hcov ho).1 e (Array.mem_toList_iff.2 he)
              cases hb : Region.binds .any e with
              | false => simp
              | true =>
                have hlt := hc hb
                have h1 := ih e.on hlt (by omega)
                have h2 : e.on < listed.size := by omega
                simp only [Array.getD, h2, dif_pos] at h1 ⊢
                simpa using h1
            rw [hr] at this
            cases this
      refine hend a w hJ.size hJ.defers hJ.grow (fun t => hJ.facts t ?_)
      intro j p hp _
      exact hall j (Array.getElem?_eq_some_iff.1 hp).1
    induction fuel with
    | zero =>
      intro listed a w hs hf hJ
      have hr : Region.ready .any ops listed = [] := by
        rcases hr : Region.ready .any ops listed with _ | ⟨i, r⟩
        · rfl
        · exfalso
          obtain ⟨o, ho, hl, _⟩ := ready_mem (ops := ops) (listed := listed) (i := i) (by rw [hr]; simp)
          have hi : i < listed.size := by rw [hs]; exact (Array.getElem?_eq_some_iff.1 ho).1
          have hmem : listed[i] ∈ listed.toList.filter (! ·) := by
            rw [List.mem_filter]
            refine ⟨by simp, ?_⟩
            have hl' : listed[i] = false := by simpa [Array.getD, hi] using hl
            simp [hl']
          have : 0 < left listed := List.length_pos_of_mem hmem
          omega
      exact ⟨hr, hdone listed a w hs hJ hr⟩
    | succ fuel ih =>
      intro listed a w hs hf hJ
      refine ⟨hdone listed a w hs hJ, fun i hi => ?_⟩
      obtain ⟨o, ho, hl, hedges⟩ := ready_mem hi
      have hom : o ∈ ops.toList := by
        obtain ⟨h1, h2⟩ := Array.getElem?_eq_some_iff.1 ho
        subst h2
        simp
      have hisz : i < listed.size := by rw [hs]; exact (Array.getElem?_eq_some_iff.1 ho).1
      have hlook : ∀ t, (o.looksAt ops).contains t = true → FS t (a.eval (.tmp t)) w := by
        intro t ht
        refine hJ.facts t ?_
        intro j p hp hd
        obtain ⟨e, he, hb, rfl⟩ := (covered_spec hcov ho).2 t ht j p hp hd
        have := hedges e he hb
        have hlt : e.on < listed.size := by rw [hs]; exact (Array.getElem?_eq_some_iff.1 hp).1
        simp only [Array.getD, hlt, dif_pos] at this ⊢
        exact this
      have hnext : ∀ v w', Grow w w' → FSd FS o.dst v w' → wpAny P .any ops Q fuel (listed.setIfInBounds i true) (a.put o.dst v) w' := by
        intro v w' hg hv
        refine ih _ _ _ (by simpa using hs) ?_ ⟨?_, ?_, hJ.grow.trans hg, ?_⟩
        · have hl' : listed[i] = false := by simpa [Array.getD, hisz] using hl
          have : left (listed.setIfInBounds i true) < left listed := by
            unfold left
            rw [Array.toList_setIfInBounds]
            have e1 : listed.toList = listed.toList.take i ++ false :: listed.toList.drop (i + 1) := by
              have h3 : listed.toList[i]'(by simpa using hisz) = false := by simpa using hl'
              conv => lhs; rw [← List.take_append_drop i listed.toList, List.drop_eq_getElem_cons (by simpa using hisz), h3]
            rw [List.set_eq_take_append_cons_drop, if_pos (by simpa using hisz)]
            conv => rhs; rw [e1]
            simp
          omega
        · cases hd : o.dst with
          | none => simpa [Act.put] using hJ.size
          | some d => simpa [Act.put] using hJ.size
        · cases hd : o.dst with
          | none => simpa [Act.put] using hJ.defers
          | some d => simpa [Act.put] using hJ.defers
        · intro t ht
          by_cases hdt : o.dst = some t
          · rw [hdt] at hv ⊢
            rw [eval_put_same (by rw [hJ.size]; exact hdst o hom t hdt)]
            exact hv
          · have hk : Known ops listed t := by
              intro j p hp hd
              have := ht j p hp hd
              by_cases e : i = j
              · subst e
                rw [ho] at hp
                injection hp with hp
                subst hp
                exact absurd hd hdt
              · simpa [Array.getD_eq_getD_getElem?, Array.getElem?_setIfInBounds, e] using this
            have := hstab t _ w w' (hJ.facts t hk) hg
            cases hd : o.dst with
            | none => simpa [Act.put] using this
            | some d =>
              rw [eval_put_other (by intro e; subst e; exact hdt hd)]
              exact this
      have := AllOk.get hok o hom a w _ Q hJ.grow hlook hnext
      unfold wpOp
      simp only [ho]
      exact this
  refine key ops.size _ a0 _ (by simp) ?_ ⟨hn, rfl, Grow.drew w0, ?_⟩
  · unfold left
    simp
  · intro t ht
    refine hstab t _ w0 _ (hstart t ?_) (Grow.drew w0)
    intro o ho hd
    obtain ⟨i, hi, rfl⟩ := List.getElem_of_mem ho
    have hi' : i < ops.size := by simpa using hi
    have := ht i ops[i] (Array.getElem?_eq_getElem hi') (by simpa using hd)
    simp [Array.getD, hi'] at this

theorem region (hm : P.follows .mixedOrders = true) (hcov : covered ops = true) {id : Nat} {a0 : Act} {w0 : World} {Q : Exit → Act → World → Prop} (n : Nat) (hn : a0.tmps.size = n)
    (hdst : ∀ o ∈ ops.toList, ∀ d, o.dst = some d → d < n) (FS : Tmp → Value → World → Prop)
    (hstab : ∀ t v w w', FS t v w → Grow w w' → FS t v w')
    (hstart : ∀ t, (∀ o ∈ ops.toList, o.dst ≠ some t) → FS t (a0.eval (.tmp t)) w0)
    (hok : AllOk P ops FS w0 ops.toList)
    (hend : ∀ a w, a.tmps.size = n → a.defers = a0.defers → Grow w0 w → (∀ t, FS t (a.eval (.tmp t)) w) → Q .normal a w) :
    (Code.region id ops true).wp P Q a0 w0 :=
  wp_region_any hm (region_wpAny hm hcov n hn hdst FS hstab hstart hok hend)

/-! ### Rules for single operations -/
variable {w0 : World} {o : Oper}

/-- The operation itself, its guard being met. -/
def RunOk (P : Program) (ops : Array Oper) (FS : Tmp → Value → World → Prop) (w0 : World) (o : Oper) : Prop :=
  ∀ (a : Act) (w : World) (K : Act → World → Prop) (Q : Exit → Act → World → Prop), Grow w0 w → (∀ t, (o.looksAt ops).contains t = true → FS t (a.eval (.tmp t)) w) →
    (∀ v w', Grow w w' → FSd FS o.dst v w' → K (a.put o.dst v) w') → o.wp P a w K Q

theorem ok_none (hg : o.guard = none) (h : RunOk P ops FS w0 o) : OpOk P ops FS w0 o := by
  intro a w K Q hG hl hK
  rw [if_pos (by simp [Region.wanted, hg])]
  exact .inl (h a w K Q hG hl hK)
theorem ok_guard (j : Nat) (want : Bool) (d : Tmp) (hg : o.guard = some (j, want)) (hd : (ops[j]?).bind (·.dst) = some d) (hl : (o.looksAt ops).contains d = true) (hF : ∀ v w, FS d v w → v = .bool want)
    (h : RunOk P ops FS w0 o) : OpOk P ops FS w0 o := by
  intro a w K Q hG hlk hK
  have e := hF _ _ (hlk d hl)
  have hw : Region.wanted o (yielded ops a.tmps) = true := by
    have h2 : a.tmps[d]? = some (.bool want) := by
      replace e : a.tmps.getD d undef = .bool want := e
      rw [Array.getD_eq_getD_getElem?] at e
      cases hx : a.tmps[d]? with
      | none => rw [hx] at e; cases e
      | some x => rw [hx] at e; simpa using e
    simp [Region.wanted, hg, yielded, hd, h2]
  rw [if_pos hw]
  exact .inl (h a w K Q hG hlk hK)

/-- An operand's value is known. -/
def Has (ops : Array Oper) (FS : Tmp → Value → World → Prop) (o : Oper) (x : Operand) (v : Value) : Prop :=
  ∀ (a : Act) (w : World), (∀ t, (o.looksAt ops).contains t = true → FS t (a.eval (.tmp t)) w) → a.eval x = v
theorem has_tmp {t : Tmp} {v : Value} (h : (o.looksAt ops).contains t = true) (hF : ∀ u w, FS t u w → u = v) : Has ops FS o (.tmp t) v := fun _ _ hl => hF _ _ (hl t h)
theorem has_const {v : Value} : Has ops FS o (.const v) v := fun _ _ _ => rfl

theorem run_mvF (t : Tmp) (ho : o.op = .move (.tmp t) ∨ o.op = .assign (.tmp t)) (hc : (o.looksAt ops).contains t = true) (hd : ∀ v w, FS t v w → FSd FS o.dst v w) : RunOk P ops FS w0 o := by
  intro a w K Q hG hl hK
  unfold Oper.wp execOp
  rcases ho with ho | ho <;> simp only [ho, Sem.run_pure, Oper.upon_value] <;> exact hK _ w (Grow.refl w) (hd _ _ (hl t hc))
theorem run1 (x : Operand) {u r : Value} (hx : Has ops FS o x u) (hrun : ∀ (ρ : Operand → Value) (w : World), ρ x = u → (execOp ρ o).run P w = .ok (.value r) w) (hd : ∀ w, FSd FS o.dst r w) : RunOk P ops FS w0 o := by
  intro a w K Q hG hl hK
  unfold Oper.wp
  rw [hrun a.eval w (hx a w hl)]
  exact hK r w (Grow.refl w) (hd w)
theorem run2 (x y : Operand) {u v r : Value} (hx : Has ops FS o x u) (hy : Has ops FS o y v) (hrun : ∀ (ρ : Operand → Value) (w : World), ρ x = u → ρ y = v → (execOp ρ o).run P w = .ok (.value r) w) (hd : ∀ w, FSd FS o.dst r w) : RunOk P ops FS w0 o := by
  intro a w K Q hG hl hK
  unfold Oper.wp
  rw [hrun a.eval w (hx a w hl) (hy a w hl)]
  exact hK r w (Grow.refl w) (hd w)
theorem run_pick (x y : Operand) (ho : o.op = .pick x y (.const (.bool false))) {r : Value} (hx : Has ops FS o x (.bool true)) (hy : Has ops FS o y r) (hd : ∀ w, FSd FS o.dst r w) : RunOk P ops FS w0 o := by
  refine run2 x y hx hy (fun ρ w h1 h2 => ?_) hd
  simp only [execOp, ho, h1, asBool, Sem.run_bind, Sem.run_pure, Result.andThen_ok, if_true, h2]
/-- A call of a named function whose arguments are known. -/
theorem run_call (f : FuncId) (xs : Array Operand) (ts : Array TypeId) (ho : o.op = .call { callee := .value (.func f), args := xs, argTypes := ts }) (hent : ∀ args w, (callFunc f args).run P w = .ok (.enter f args) w)
    (args : Array Value) (hargs : ∀ (a : Act) (w : World), (∀ t, (o.looksAt ops).contains t = true → FS t (a.eval (.tmp t)) w) → xs.map a.eval = args)
    (hC : ∀ w, Grow w0 w → Calls P f args w fun e w' => ∃ v, e = .returned v ∧ Grow w w' ∧ FSd FS o.dst v w') : RunOk P ops FS w0 o := by
  intro a w K Q hG hl hK
  have e := hargs a w hl
  unfold Oper.wp
  have hr : (execOp a.eval o).run P w = .ok (.enter f args) w := by
    have e' : (Array.map a.eval xs) = args := e
    have ef : a.eval (.func f) = .func (.func f) #[] #[] := rfl
    have h := hent args w
    simp [execOp, ho, resolve, e', ef, Deferred.ofValue, invoke, Result.andThen, h]
  rw [hr, Oper.upon_enter]
  refine (hC w hG).mono ?_
  rintro e w' ⟨v, rfl, hg, hf⟩
  exact hK v w' hg hf

end Reg
end Go.Proofs.Ytlelckdcmlpmdaa
/- Facts on slots, as data; rules for the operations of a law's last region. -/
namespace Go.Proofs.Ytlelckdcmlpmdaa
open Go Go.RowKit Lou

/-- What may be known of a slot: its value; that it reads as bytes; nothing. -/
inductive Fact where
  | val (v : Value)
  | res (l : List UInt8)
  | any
  | pred (p : Value → World → Prop) (h : ∀ v w w', p v w → Grow w w' → p v w')
def Fact.holds : Fact → Value → World → Prop
  | .val x, v, _ => v = x
  | .res l, v, w => ∃ A c, v = .slice A l.length c ∧ InB w w.heap.size A c l
  | .any, _, _ => True
  | .pred p _, v, w => p v w
theorem Fact.stable (f : Fact) {v : Value} {w w' : World} (h : f.holds v w) (hg : Grow w w') : f.holds v w' := by
  cases f with
  | val x => exact h
  | res l =>
    obtain ⟨A, c, e, hin⟩ := h
    exact ⟨A, c, e, (hin.below hg).more hg.size⟩
  | any => trivial
  | pred p hp => exact hp v w w' h hg
def factOf : List (Nat × Fact) → Nat → Fact
  | [], _ => .any
  | (k, f) :: r, t => if k == t then f else factOf r t
/-- The slots' facts out of a list. -/
def FSof (L : List (Nat × Fact)) (t : Tmp) (v : Value) (w : World) : Prop := (factOf L t).holds v w
theorem FSof.stable (L : List (Nat × Fact)) (t : Tmp) (v : Value) (w w' : World) (h : FSof L t v w) (hg : Grow w w') : FSof L t v w' := Fact.stable _ h hg

def written (ops : Array Oper) (t : Nat) : Bool := ops.toList.any fun o => o.dst == some t
def dstsIn (ops : Array Oper) (n : Nat) : Bool := ops.toList.all fun o => match o.dst with | some d => decide (d < n) | none => true

namespace Reg
/-- What holds of the slots that the region doesn't write. -/
def StartOk (a0 : Act) (w0 : World) : List (Nat × Fact) → Prop
  | [] => True
  | (k, f) :: r => f.holds (a0.eval (.tmp k)) w0 ∧ StartOk a0 w0 r

theorem start_fact {a0 : Act} {w0 : World} {ops : Array Oper} : ∀ (V W : List (Nat × Fact)), StartOk a0 w0 V → (W.all fun p => written ops p.1) = true → ∀ t, (∀ o ∈ ops.toList, o.dst ≠ some t) → (factOf (V ++ W) t).holds (a0.eval (.tmp t)) w0
  | [], [], _, _, t, _ => by simp [factOf, Fact.holds]
  | [], (k, f) :: r, hV, hW, t, ht => by
    simp only [List.all_cons, Bool.and_eq_true] at hW
    simp only [List.nil_append, factOf]
    split
    · rename_i e
      obtain rfl : k = t := by simpa using e
      exfalso
      have := hW.1
      simp only [written, List.any_eq_true, beq_iff_eq] at this
      obtain ⟨o, ho, hd⟩ := this
      exact ht o ho hd
    · exact start_fact [] r hV hW.2 t ht
  | (k, f) :: r, W, hV, hW, t, ht => by
    simp only [List.cons_append, factOf]
    split
    · rename_i e
      obtain rfl : k = t := by simpa using e
      exact hV.1
    · exact start_fact r W hV.2 hW t ht

/-- The region, by two lists of facts: of the slots that it finds, of those that it writes. -/
theorem region_facts {P : Program} {ops : Array Oper} (hm : P.follows .mixedOrders = true) (hcov : covered ops = true) {id : Nat} {a0 : Act} {w0 : World} {Q : Exit → Act → World → Prop} (n : Nat) (hn : a0.tmps.size = n)
    (hdst : dstsIn ops n = true) (V W : List (Nat × Fact)) (hV : StartOk a0 w0 V) (hW : (W.all fun p => written ops p.1) = true)
    (hok : AllOk P ops (FSof (V ++ W)) w0 ops.toList)
    (hend : ∀ a w, a.tmps.size = n → a.defers = a0.defers → Grow w0 w → (∀ t, FSof (V ++ W) t (a.eval (.tmp t)) w) → Q .normal a w) :
    (Code.region id ops true).wp P Q a0 w0 := by
  refine region hm hcov n hn ?_ (FSof (V ++ W)) (FSof.stable _) (start_fact V W hV hW) hok hend
  intro o ho d hd
  unfold dstsIn at hdst
  rw [List.all_eq_true] at hdst
  have := hdst o ho
  simpa [hd] using this

theorem allOk_cons {P : Program} {ops : Array Oper} {FS : Tmp → Value → World → Prop} {w0 : World} {o : Oper} {r : List Oper} (h : OpOk P ops FS w0 o) (k : AllOk P ops FS w0 r) : AllOk P ops FS w0 (o :: r) := ⟨h, k⟩
theorem allOk_nil {P : Program} {ops : Array Oper} {FS : Tmp → Value → World → Prop} {w0 : World} : AllOk P ops FS w0 [] := trivial

section rules
variable {ops : Array Oper} {FS : Tmp → Value → World → Prop} {w0 : World} {o : Oper}

theorem rule_conv (t : Tmp) (l : List UInt8) (ho : o.op = .convert 30 9 (.tmp t)) (hc : (o.looksAt ops).contains t = true) (hF : ∀ v w, FS t v w → (Fact.res l).holds v w) (hd : ∀ w, FSd FS o.dst (.string (str l)) w) : RunOk Try.prog ops FS w0 o := by
  intro a w K Q hG hl hK
  obtain ⟨A, c, e, hin⟩ := hF _ _ (hl t hc)
  have hs := hin.string
  unfold Oper.wp
  have hr : (execOp a.eval o).run Try.prog w = .ok (.value (.string (str l))) w := by
    simp [execOp, ho, e, hs, Result.andThen]
  rw [hr]
  exact hK _ w (Grow.refl w) (hd w)
theorem rule_convS (x : Operand) (S D : TypeId) {u r : Value} (ho : o.op = .convert S D x) (hx : Has ops FS o x u) (hrun : ∀ w, Grow w0 w → (convert S D u).run Try.prog w = .ok r w) (hd : ∀ w, FSd FS o.dst r w) : RunOk Try.prog ops FS w0 o := by
  intro a w K Q hG hl hK
  have e := hx a w hl
  unfold Oper.wp
  have hr : (execOp a.eval o).run Try.prog w = .ok (.value r) w := by simp [execOp, ho, e, hrun w hG, Result.andThen]
  rw [hr]
  exact hK r w (Grow.refl w) (hd w)
theorem rule_eqi (x y : Operand) (T T' : TypeId) (k : IntKind) (m : Int) (ho : o.op = .binOp .eql T x y T') (hT : Try.prog.underlying T = some (.int k)) (hx : Has ops FS o x (.int k m)) (hy : Has ops FS o y (.int k m)) (hd : ∀ w, FSd FS o.dst (.bool true) w) : RunOk Try.prog ops FS w0 o :=
  run2 x y hx hy (fun ρ w h1 h2 => by simp [execOp, ho, h1, h2, go_sem]) hd
theorem rule_eqs (x y : Operand) (T T' : TypeId) (s : ByteArray) (ho : o.op = .binOp .eql T x y T') (hT : Try.prog.underlying T = some .string) (hx : Has ops FS o x (.string s)) (hy : Has ops FS o y (.string s)) (hd : ∀ w, FSd FS o.dst (.bool true) w) : RunOk Try.prog ops FS w0 o :=
  run2 x y hx hy (fun ρ w h1 h2 => by simp [execOp, ho, h1, h2, go_sem]) hd
theorem rule_len (t : Tmp) (A : Option Addr) (n c : Nat) (T : TypeId) (hT : Try.prog.underlying T = some (.slice (Try.prog.elem T))) (ho : o.op = .call { callee := .builtin .len, args := #[.tmp t], argTypes := #[T] }) (hx : Has ops FS o (.tmp t) (.slice A n c)) (hd : ∀ w, FSd FS o.dst (.int .i64 (n : Int)) w) : RunOk Try.prog ops FS w0 o :=
  run1 (.tmp t) hx (fun ρ w h => by simp [execOp, ho, h, go_sem, resolve, invoke, run_len_slice _ _ _ _ _ _ hT]) hd
theorem args1 {x : Operand} {u : Value} (h : Has ops FS o x u) : ∀ (a : Act) (w : World), (∀ t, (o.looksAt ops).contains t = true → FS t (a.eval (.tmp t)) w) → Array.map a.eval #[x] = #[u] := fun a w hl => by simp [h a w hl]
theorem args2 {x y : Operand} {u v : Value} (h : Has ops FS o x u) (k : Has ops FS o y v) : ∀ (a : Act) (w : World), (∀ t, (o.looksAt ops).contains t = true → FS t (a.eval (.tmp t)) w) → Array.map a.eval #[x, y] = #[u, v] := fun a w hl => by simp [h a w hl, k a w hl]
end rules

theorem results1 {fn : Func} {P : Program} {a : Act} {w : World} {v : Value} (t : Tmp) (h : fn.results = #[.tmp t]) (hv : a.eval (.tmp t) = v) : (results fn a.tmps).run P w = .ok v w := by
  have e : a.tmps.getD t undef = v := hv
  unfold results
  simp only [h]
  simp [← e, Array.getD_eq_getD_getElem?]
/-- The end of a function of one result, without deferred calls. -/
theorem ends1 {fn : Func} {P : Program} {a : Act} {w : World} {R : Ending → World → Prop} (t : Tmp) (v : Value) (h : fn.results = #[.tmp t]) (hv : a.eval (.tmp t) = v) (hd : a.defers = []) (hR : R (.returned v) w) : Code.wp P Code.ret (bodyPost P fn R) a w :=
  wp_ret (bodyPost_ret_by (results1 t h hv) hd hR)
theorem gives_same {P : Program} {w : World} {f : FuncId} {args : Array Value} {v : Value} (h : Calls P f args w fun e w' => e = .returned v ∧ w = w') : Calls P f args w fun e w' => ∃ u, e = .returned u ∧ Grow w w' ∧ u = v :=
  h.mono (by rintro e w' ⟨rfl, rfl⟩; exact ⟨_, rfl, Grow.refl _, rfl⟩)
theorem gives_grow {P : Program} {w : World} {f : FuncId} {args : Array Value} {v : Value} (h : Calls P f args w fun e w' => e = .returned v ∧ Below w.heap.size w w') : Calls P f args w fun e w' => ∃ u, e = .returned u ∧ Grow w w' ∧ u = v :=
  h.mono (by rintro e w' ⟨rfl, hB⟩; exact ⟨_, rfl, hB, rfl⟩)
theorem gives_res {w : World} {f : FuncId} {args : Array Value} {l : List UInt8} (h : Calls Try.prog f args w (GivesB w l)) : Calls Try.prog f args w fun e w' => ∃ v, e = .returned v ∧ Grow w w' ∧ (Fact.res l).holds v w' :=
  h.mono fun e w' ⟨v, he, hown, hB⟩ => ⟨v, he, hB, hown.inB⟩

/-! ### The same rules over lists of facts: what is looked up is left to the kernel -/
def FD (L : List (Nat × Fact)) : Option Tmp → Fact
  | some d => factOf L d
  | none => .any
theorem fsd {L : List (Nat × Fact)} {d : Option Tmp} {f : Fact} {v : Value} {w : World} (h : FD L d = f) (hv : f.holds v w) : FSd (FSof L) d v w := by
  cases d with
  | none => trivial
  | some d => subst h; exact hv
section lists
variable {L : List (Nat × Fact)} {ops : Array Oper} {w0 : World} {o : Oper} {P : Program}
theorem hs (t : Tmp) (v : Value) (hc : (o.looksAt ops).contains t = true) (hF : factOf L t = .val v) : Has ops (FSof L) o (.tmp t) v :=
  has_tmp hc fun u w h => by
    have h' : (factOf L t).holds u w := h
    rw [hF] at h'
    exact h'
theorem hc (v : Value) : Has ops (FSof L) o (.const v) v := has_const
theorem okg (j : Nat) (want : Bool) (d : Tmp) (hg : o.guard = some (j, want)) (hd : (ops[j]?).bind (·.dst) = some d) (hl : (o.looksAt ops).contains d = true) (hF : factOf L d = .val (.bool want))
    (h : RunOk P ops (FSof L) w0 o) : OpOk P ops (FSof L) w0 o :=
  ok_guard j want d hg hd hl (fun v w h => by
    have h' : (factOf L d).holds v w := h
    rw [hF] at h'
    exact h') h
theorem l_mvF (t : Tmp) (f : Fact) (ho : o.op = .move (.tmp t) ∨ o.op = .assign (.tmp t)) (hc : (o.looksAt ops).contains t = true) (hF : factOf L t = f) (hd : FD L o.dst = f) : RunOk P ops (FSof L) w0 o :=
  run_mvF t ho hc fun v w h => fsd hd (by
    have h' : (factOf L t).holds v w := h
    rw [hF] at h'
    exact h')
theorem l_pick (x y : Operand) (r : Value) (ho : o.op = .pick x y (.const (.bool false))) (hx : Has ops (FSof L) o x (.bool true)) (hy : Has ops (FSof L) o y r) (hd : FD L o.dst = .val r) : RunOk P ops (FSof L) w0 o :=
  run_pick x y ho hx hy fun _ => fsd hd rfl
theorem l_conv (t : Tmp) (l : List UInt8) (ho : o.op = .convert 30 9 (.tmp t)) (hc : (o.looksAt ops).contains t = true) (hF : factOf L t = .res l) (hd : FD L o.dst = .val (.string (str l))) : RunOk Try.prog ops (FSof L) w0 o :=
  rule_conv t l ho hc (fun v w h => by
    have h' : (factOf L t).holds v w := h
    rw [hF] at h'
    exact h') fun _ => fsd hd rfl
theorem l_convS (x : Operand) (S D : TypeId) (u r : Value) (ho : o.op = .convert S D x) (hx : Has ops (FSof L) o x u) (hrun : ∀ w, Grow w0 w → (convert S D u).run Try.prog w = .ok r w) (hd : FD L o.dst = .val r) : RunOk Try.prog ops (FSof L) w0 o :=
  rule_convS x S D ho hx hrun fun _ => fsd hd rfl
theorem l_eqi (x y : Operand) (T T' : TypeId) (k : IntKind) (m : Int) (ho : o.op = .binOp .eql T x y T') (hT : Try.prog.underlying T = some (.int k)) (hx : Has ops (FSof L) o x (.int k m)) (hy : Has ops (FSof L) o y (.int k m)) (hd : FD L o.dst = .val (.bool true)) : RunOk Try.prog ops (FSof L) w0 o :=
  rule_eqi x y T T' k m ho hT hx hy fun _ => fsd hd rfl
theorem l_eqs (x y : Operand) (T T' : TypeId) (s : ByteArray) (ho : o.op = .binOp .eql T x y T') (hT : Try.prog.underlying T = some .string) (hx : Has ops (FSof L) o x (.string s)) (hy : Has ops (FSof L) o y (.string s)) (hd : FD L o.dst = .val (.bool true)) : RunOk Try.prog ops (FSof L) w0 o :=
  rule_eqs x y T T' s ho hT hx hy fun _ => fsd hd rfl
theorem l_len (t : Tmp) (A : Option Addr) (n c : Nat) (T : TypeId) (hT : Try.prog.underlying T = some (.slice (Try.prog.elem T))) (ho : o.op = .call { callee := .builtin .len, args := #[.tmp t], argTypes := #[T] }) (hx : Has ops (FSof L) o (.tmp t) (.slice A n c)) (hd : FD L o.dst = .val (.int .i64 (n : Int))) : RunOk Try.prog ops (FSof L) w0 o :=
  rule_len t A n c T hT ho hx fun _ => fsd hd rfl
theorem l_call (f : FuncId) (xs : Array Operand) (ts : Array TypeId) (ho : o.op = .call { callee := .value (.func f), args := xs, argTypes := ts }) (hent : ∀ args w, (callFunc f args).run P w = .ok (.enter f args) w)
    (args : Array Value) (g : Fact) (hargs : ∀ (a : Act) (w : World), (∀ t, (o.looksAt ops).contains t = true → FSof L t (a.eval (.tmp t)) w) → xs.map a.eval = args)
    (hC : ∀ w, Grow w0 w → Calls P f args w fun e w' => ∃ v, e = .returned v ∧ Grow w w' ∧ g.holds v w') (hd : FD L o.dst = g) : RunOk P ops (FSof L) w0 o :=
  run_call f xs ts ho hent args hargs fun w hG => (hC w hG).mono fun _ _ ⟨v, e, hg, hh⟩ => ⟨v, e, hg, fsd hd hh⟩
/-- Any operation of two operands whose run is known; the world may grow. -/
theorem l_run2W (x y : Operand) (g : Fact) (u v : Value) (hx : Has ops (FSof L) o x u) (hy : Has ops (FSof L) o y v)
    (hrun : ∀ (ρ : Operand → Value) (w : World), Grow w0 w → ρ x = u → ρ y = v → ∃ r w', (execOp ρ o).run P w = .ok (.value r) w' ∧ Grow w w' ∧ g.holds r w') (hd : FD L o.dst = g) : RunOk P ops (FSof L) w0 o := by
  intro a w K Q hG hl hK
  obtain ⟨r, w', h1, h2, h3⟩ := hrun a.eval w hG (hx a w hl) (hy a w hl)
  unfold Oper.wp
  rw [h1]
  exact hK r w' h2 (fsd hd h3)
theorem l_run1W (x : Operand) (g : Fact) (u : Value) (hx : Has ops (FSof L) o x u)
    (hrun : ∀ (ρ : Operand → Value) (w : World), Grow w0 w → ρ x = u → ∃ r w', (execOp ρ o).run P w = .ok (.value r) w' ∧ Grow w w' ∧ g.holds r w') (hd : FD L o.dst = g) : RunOk P ops (FSof L) w0 o := by
  intro a w K Q hG hl hK
  obtain ⟨r, w', h1, h2, h3⟩ := hrun a.eval w hG (hx a w hl)
  unfold Oper.wp
  rw [h1]
  exact hK r w' h2 (fsd hd h3)
end lists
end Reg
end Go.Proofs.Ytlelckdcmlpmdaa
