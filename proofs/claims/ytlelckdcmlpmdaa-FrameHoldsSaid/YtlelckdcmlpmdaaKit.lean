/- Words for memory that all texts of this seat share: bytes that a call owns; growth of the world. -/
import Derived.WalkKit
import Derived.Maps.AppendAt
import Derived.Lib.Hide
import Derived.WalkSpells
import Derived.WalkLawsBesides
import Derived.Laws.AppendOwnNone
import Derived.Lib.AppendStr
import Derived.Test.YtlelckdcmlpmdaaProg
import Derived.Test.YtlelckdcmlpmdaaOctetMath
namespace Go.Proofs.Ytlelckdcmlpmdaa
open Go Go.RowKit

@[reducible] def b8 (c : UInt8) : Value := .int .u8 (c.toNat : Int)

theorem inf_u8 : (Try.prog.info? 5).map (fun i => (i.zero, i.size, i.bytes)) = some (some (.int .u8 0), 1, 1) := by kernel_rfl

/-- The value v is bytes l, which the call owns: a row of blocks from base on. -/
def OwnB (w : World) (base : Nat) (v : Value) (l : List UInt8) : Prop := w.ownsRow base 5 1 v l.length (l.map b8)

/-- A call gives bytes of its own, and turns nothing that was there. -/
def GivesB (w0 : World) (l : List UInt8) (e : Ending) (w' : World) : Prop :=
  ∃ v, e = .returned v ∧ OwnB w' w0.heap.size v l ∧ Below w0.heap.size w0 w'

theorem OwnB.nil (w : World) (base : Nat) : OwnB w base (.slice none 0 0) [] := World.ownsRow_nil _ _ _ _

theorem OwnB.form {w : World} {base : Nat} {v : Value} {l : List UInt8} (h : OwnB w base v l) :
    (v = .slice none 0 0 ∧ l = []) ∨ ∃ g cap, v = .slice (some ⟨g, 0, none⟩) l.length cap ∧ base ≤ g ∧ g < w.heap.size ∧ l.length ≤ cap := by
  rcases h.2 with ⟨h1, h2⟩ | ⟨g, cap, cur, hv, hb, hg, hle, _⟩
  · exact .inl ⟨h1, List.eq_nil_of_length_eq_zero h2⟩
  · exact .inr ⟨g, cap, hv, hb, (Array.getElem?_eq_some_iff.1 hg).1, hle⟩

/-- Bytes that are not none: where they lie. -/
theorem OwnB.at_ {w : World} {base : Nat} {v : Value} {l : List UInt8} (h : OwnB w base v l) (hl : 0 < l.length) :
    ∃ g cap, v = .slice (some ⟨g, 0, none⟩) l.length cap ∧ base ≤ g ∧ g < w.heap.size ∧ l.length ≤ cap := by
  rcases h.form with ⟨_, rfl⟩ | h
  · simp at hl
  · exact h

/-- Bytes that came in: '.slice A l.length c' reads as l, and lies below block B. -/
structure InB (w : World) (B : Nat) (A : Option Addr) (c : Nat) (l : List UInt8) : Prop where
  le : l.length ≤ c
  max : c ≤ 9223372036854775807
  nil : A = none → c = 0
  lies : 0 < l.length → ∃ g o, A = some ⟨g, o, none⟩ ∧ g < B ∧ ∀ j (h : j < l.length), w.cell? ⟨g, o + j, none⟩ = some (.int .u8 (l[j].toNat : Int))

theorem InB.keep {w w' : World} {B : Nat} {A : Option Addr} {c : Nat} {l : List UInt8} (h : InB w B A c l) (hk : ∀ p : Addr, p.block < B → w'.cell? p = w.cell? p) : InB w' B A c l :=
  ⟨h.le, h.max, h.nil, fun hl => by
    obtain ⟨g, o, hA, hg, hc⟩ := h.lies hl
    exact ⟨g, o, hA, hg, fun j hj => (hk _ hg).trans (hc j hj)⟩⟩
theorem InB.below {w w' : World} {B : Nat} {A : Option Addr} {c : Nat} {l : List UInt8} (h : InB w B A c l) (hb : Below B w w') : InB w' B A c l := h.keep fun _ hp => hb.cell hp
theorem InB.drew {w : World} {B : Nat} {A : Option Addr} {c : Nat} {l : List UInt8} (h : InB w B A c l) : InB w.drew B A c l := ⟨h.le, h.max, h.nil, h.lies⟩
theorem InB.more {w : World} {B B' : Nat} {A : Option Addr} {c : Nat} {l : List UInt8} (h : InB w B A c l) (hB : B ≤ B') : InB w B' A c l :=
  ⟨h.le, h.max, h.nil, fun hl => by
    obtain ⟨g, o, hA, hg, hc⟩ := h.lies hl
    exact ⟨g, o, hA, by omega, hc⟩⟩

theorem OwnB.inB {w : World} {base : Nat} {v : Value} {l : List UInt8} (h : OwnB w base v l) : ∃ A c, v = .slice A l.length c ∧ InB w w.heap.size A c l := by
  rcases h.2 with ⟨h1, h2⟩ | ⟨g, cap, cur, hv, hb, hg, hle, hm, hs, ht⟩
  · obtain rfl := List.eq_nil_of_length_eq_zero h2
    exact ⟨none, 0, h1, by simp, by omega, fun _ => rfl, fun h => by simp at h⟩
  · refine ⟨_, cap, hv, hle, by unfold maxLen at hm; omega, fun h => by simp at h, fun _ => ⟨g, 0, rfl, (Array.getElem?_eq_some_iff.1 hg).1, fun j hj => ?_⟩⟩
    rw [Nat.zero_add, cell_of_row w g j cur _ (0, 0) hg]
    have := congrArg (fun x => x[j]?) ht
    simp only [List.getElem?_take, List.getElem?_map, List.getElem?_eq_getElem hj, Option.map_some] at this
    rw [if_pos (by omega)] at this
    simpa using this

/-- Cut: b[lo:hi]. -/
def cutA (A : Option Addr) (c n : Nat) : Option Addr := if c = n then A else A.map (·.add n)
theorem InB.drop {w : World} {B : Nat} {A : Option Addr} {c : Nat} {l : List UInt8} (h : InB w B A c l) (n : Nat) (hn : n ≤ l.length) : InB w B (cutA A c n) (c - n) (l.drop n) := by
  have h1 := h.le
  have h2 := h.max
  refine ⟨by simp; omega, by omega, ?_, ?_⟩
  · intro hA
    unfold cutA at hA
    split at hA
    · omega
    · have := h.nil (by simpa using hA); omega
  · intro hl
    simp at hl
    obtain ⟨g, o, rfl, hg, hc⟩ := h.lies (by omega)
    refine ⟨g, o + n, ?_, hg, ?_⟩
    · unfold cutA
      rw [if_neg (by omega)]
      by_cases hz : n = 0 <;> simp [Addr.add, hz]
    · intro j hj
      simp at hj
      have := hc (n + j) (by omega)
      rw [Nat.add_assoc, this]
      simp
theorem InB.take {w : World} {B : Nat} {A : Option Addr} {c : Nat} {l : List UInt8} (h : InB w B A c l) (n : Nat) (c' : Nat) (hn : n ≤ l.length) (hc : n ≤ c') (hc' : c' ≤ c) : InB w B A c' (l.take n) := by
  have h1 := h.le
  have h2 := h.max
  refine ⟨by simp; omega, by omega, fun hA => by have := h.nil hA; omega, ?_⟩
  intro hl
  simp at hl
  obtain ⟨g, o, rfl, hg, hcell⟩ := h.lies (by omega)
  refine ⟨g, o, rfl, hg, fun j hj => ?_⟩
  simp at hj
  rw [hcell j (by omega)]
  simp

/-- Bytes as a string. -/
def str (l : List UInt8) : ByteArray := ⟨l.toArray⟩
theorem str_size (l : List UInt8) : (str l).size = l.length := rfl
theorem str_data (l : List UInt8) : (str l).data.toList = l := rfl
theorem str_of (s : ByteArray) : s = str s.data.toList := by cases s; simp [str]
theorem strOf_bytes (l : List UInt8) : strOfNums (l.map fun x => (x.toNat : Int)) = str l := by
  have e : (l.map fun x => (x.toNat : Int)).map (fun n => UInt8.ofNat n.toNat) = l := by
    rw [List.map_map]
    conv => rhs; rw [← List.map_id l]
    apply List.map_congr_left
    intro x _
    simp
  unfold strOfNums str
  rw [e]
theorem InB.string {w : World} {B : Nat} {A : Option Addr} {c : Nat} {l : List UInt8} (h : InB w B A c l) :
    (convert 30 9 (.slice A l.length c)).run Try.prog w = .ok (.string (str l)) w := by
  rcases A with _ | a
  · have := h.nil rfl
    have h1 := h.le
    obtain rfl : l = [] := List.eq_nil_of_length_eq_zero (by omega)
    exact run_convert_bytes_nil (P := Try.prog) w _ 5 Try.underlying30 Try.underlying5 _ _ _ Try.underlying9
  · rcases Nat.eq_zero_or_pos l.length with h0 | h0
    · obtain rfl := List.eq_nil_of_length_eq_zero h0
      have hl : (loadCells a ([] : List Int).length).run Try.prog w = .ok ((([] : List Int)).map (Value.int .u8)).toArray w :=
        run_loadCells_list (P := Try.prog) w a [] (fun j v hj => by simp at hj)
      rw [run_convert_bytes_string w _ _ 5 _ _ c Try.underlying30 Try.underlying5 Try.underlying9, List.length_nil]
      have := run_bytesToString (P := Try.prog) w a 0 c [] hl
      rw [this]
      exact congrArg (fun s => Result.ok (Value.string s) w) (show ByteArray.empty = str [] from rfl)
    · obtain ⟨g, o, hA, _, hc⟩ := h.lies h0
      obtain rfl : a = ⟨g, o, none⟩ := by simpa using hA
      have := run_convert_bytes_arg (P := Try.prog) w 30 5 Try.underlying30 Try.underlying5 g o l.length c (l.map fun x => (x.toNat : Int)) (by simp) (fun i hi => by rw [hc i hi]; simp [List.getD, hi]) 9 Try.underlying9
      rw [this, strOf_bytes]

/-! ### append, in bytes -/
section
variable {w : World} {ops : Array Oper} {rest : List Oper} {o : Oper} {a : Act} {Q : Exit → Act → World → Prop}

theorem cons_inj8 {l : List UInt8} {n : Nat} (h : n < 256) : l.map b8 ++ [.int .u8 (n : Int)] = (l ++ [UInt8.ofNat n]).map b8 := by
  simp [b8]; omega

/-- append(v, x...), x bytes that came in (or not), v the call's own. -/
theorem wp_appB (hg : o.guard = none) (s x : Operand) (ho : o.op = .call { callee := .builtin .append, args := #[s, x], argTypes := #[30, 30] })
    (base : Nat) (v : Value) (l : List UInt8) (hs : a.eval s = v) (hown : OwnB w base v l) (B : Nat) (A : Option Addr) (c : Nat) (l2 : List UInt8) (hx : a.eval x = .slice A l2.length c) (hin : InB w B A c l2)
    (hbytes : l.length + l2.length ≤ 140737488355328) (hbase : base ≤ w.heap.size)
    (h : ∀ v' w', OwnB w' base v' (l ++ l2) → w.grownBy w' v.ownBlock → wpList Try.prog ops Q rest (a.put o.dst v') w') : wpList Try.prog ops Q (o :: rest) a w := by
  obtain ⟨i0, hi, hz0, hz1, hz2⟩ := info_parts inf_u8
  have hle := hin.le
  rcases A with _ | ad
  · have hc0 := hin.nil rfl
    obtain rfl : l2 = [] := List.eq_nil_of_length_eq_zero (by omega)
    subst hc0
    refine wpList_append_own_none (w := w) hg s x _ ho base _ i0 1 Try.underlying30 hi v l.length (l.map b8) hs hown hx ?_
    exact h v w (by rw [List.append_nil]; exact hown) (World.grownBy.refl _ _)
  · have hnews : ∀ j u, (l2.map b8)[j]? = some u → w.cell? (ad.add j) = some u := by
      intro j u hu
      have hj : j < l2.length := by
        rcases Nat.lt_or_ge j l2.length with h | h
        · exact h
        · rw [List.getElem?_eq_none (by simpa using h)] at hu; cases hu
      obtain ⟨g, o', hA, _, hc⟩ := hin.lies (by omega)
      obtain rfl : ad = ⟨g, o', none⟩ := by simpa using hA
      have e : (⟨g, o', none⟩ : Addr).add j = ⟨g, o' + j, none⟩ := by unfold Addr.add; split <;> simp_all
      rw [e, hc j hj]
      simpa [hj, b8] using hu
    refine wpList_append_own w hg s x _ ho base _ i0 (.int .u8 0) 1 1 Try.underlying30 hi hz0 hz1 hz2 rfl (by decide) v l.length (l.map b8) hs hown ad l2.length c (l2.map b8) hx (by simp) hnews (by simp [b8, Value.oneCell']) (by unfold maxLen; omega) (by omega) hbase ?_
    intro v' w' hown' hgrow _
    refine h v' w' ?_ hgrow
    unfold OwnB
    simpa using hown'

/-- append(v, n), n one byte in a block just laid. -/
theorem wp_app1 (hg : o.guard = none) (s x : Operand) (ho : o.op = .call { callee := .builtin .append, args := #[s, x], argTypes := #[30, 30] })
    (base : Nat) (v : Value) (l : List UInt8) (hs : a.eval s = v) (hown : OwnB w base v l) (g n : Nat) (hx : a.eval x = .slice (some ⟨g, 0, none⟩) 1 1) (hcell : w.cell? ⟨g, 0, none⟩ = some (.int .u8 (n : Int))) (hn : n < 256)
    (hbytes : l.length + 1 ≤ 140737488355328) (hbase : base ≤ w.heap.size)
    (h : ∀ v' w', OwnB w' base v' (l ++ [UInt8.ofNat n]) → w.grownBy w' v.ownBlock → wpList Try.prog ops Q rest (a.put o.dst v') w') : wpList Try.prog ops Q (o :: rest) a w := by
  obtain ⟨i0, hi, hz0, hz1, hz2⟩ := info_parts inf_u8
  have hnews : ∀ j u, [Value.int .u8 (n : Int)][j]? = some u → w.cell? ((⟨g, 0, none⟩ : Addr).add j) = some u := by
    intro j u hu
    match j, hu with
    | 0, hu => simp at hu; subst hu; simpa [Addr.add] using hcell
  refine wpList_append_own w hg s x _ ho base _ i0 (.int .u8 0) 1 1 Try.underlying30 hi hz0 hz1 hz2 rfl (by decide) v l.length (l.map b8) hs hown _ 1 1 [.int .u8 (n : Int)] hx (by simp) hnews (by simp [Value.oneCell']) (by unfold maxLen; omega) (by omega) hbase ?_
  intro v' w' hown' hgrow _
  refine h v' w' ?_ hgrow
  rw [cons_inj8 hn] at hown'
  unfold OwnB
  simpa using hown'

/-- append(v, s...), s a string. -/
theorem wp_appS (hg : o.guard = none) (s x : Operand) (ho : o.op = .call { callee := .builtin .append, args := #[s, x], argTypes := #[30, 9] })
    (base : Nat) (v : Value) (l : List UInt8) (hs : a.eval s = v) (hown : OwnB w base v l) (st : ByteArray) (hx : a.eval x = .string st)
    (hbytes : l.length + st.size ≤ 140737488355328) (hbase : base ≤ w.heap.size)
    (h : ∀ v' w', OwnB w' base v' (l ++ st.data.toList) → w.grownBy w' v.ownBlock → wpList Try.prog ops Q rest (a.put o.dst v') w') : wpList Try.prog ops Q (o :: rest) a w := by
  obtain ⟨i0, hi, hz0, hz1, hz2⟩ := info_parts inf_u8
  refine Lib.wpList_append_own_string w hg s x _ _ ho base _ i0 Try.underlying30 Try.underlying9 hi hz0 hz1 hz2 v l.length (l.map b8) hs hown st hx (by unfold maxLen; omega) (by omega) hbase ?_
  intro v' w' hown' hgrow _
  refine h v' w' ?_ hgrow
  unfold OwnB
  have e : Lib.strCells st = st.data.toList.map b8 := rfl
  rw [e] at hown'
  have e2 : (l ++ st.data.toList).length = l.length + st.size := by rw [List.length_append, Array.length_toList]; rfl
  rw [e2, List.map_append]
  exact hown'
/-- make([]byte, n). -/
theorem wp_makeB (hg : o.guard = none) (x y : Operand) (ho : o.op = Op.makeSlice 30 x y) (base : Nat) (kl kc : IntKind) (n : Nat) (hx : a.eval x = .int kl (n : Int)) (hy : a.eval y = .int kc (n : Int))
    (hn : n ≤ 140737488355328) (hbase : base ≤ w.heap.size)
    (h : ∀ w', OwnB w' base (.slice (some ⟨w.heap.size, 0, none⟩) n n) (List.replicate n 0) → w.grownBy w' none → wpList Try.prog ops Q rest (a.put o.dst (.slice (some ⟨w.heap.size, 0, none⟩) n n)) w') : wpList Try.prog ops Q (o :: rest) a w := by
  obtain ⟨i0, hi, hz0, hz1, hz2⟩ := info_parts inf_u8
  refine wpList_make_full w hg x y _ ho base _ i0 (.int .u8 0) 1 Try.underlying30 hi hz0 hz1 kl kc n n n hx hy rfl rfl (by rw [hz2]; omega) (by unfold maxLen; omega) hbase ?_
  intro w' hown hgrow
  refine h w' ?_ hgrow
  have e : (madeCells (Value.int .u8 0).cells (n * 1)).toList = (List.replicate n (0 : UInt8)).map b8 := by
    rw [Nat.mul_one, show (Value.int .u8 0).cells = #[.int .u8 0] from rfl, toList_madeCells_one]
    simp [b8]
  rw [e] at hown
  unfold OwnB
  simpa using hown
end

theorem OwnB.set {w : World} {base g n cap : Nat} {l : List UInt8} (h : OwnB w base (.slice (some ⟨g, 0, none⟩) n cap) l) (j x : Nat) (hx : x < 256) :
    OwnB (w.setCell ⟨g, j, none⟩ (.int .u8 (x : Int))) base (.slice (some ⟨g, 0, none⟩) n cap) (l.set j (UInt8.ofNat x)) := by
  rcases h.form with ⟨h1, _⟩ | ⟨g', cap', h1, _, _, _⟩
  · cases h1
  · injection h1 with h2 h3 h4
    subst h3
    have := (World.ownsRow.stored (w := w) h j (.int .u8 (x : Int))).1
    unfold OwnB
    rw [List.length_set, List.map_set]
    have e : b8 (UInt8.ofNat x) = .int .u8 (x : Int) := by simp [b8]; omega
    rw [e]
    exact this
theorem OwnB.cell {w : World} {base g n cap : Nat} {l : List UInt8} (h : OwnB w base (.slice (some ⟨g, 0, none⟩) n cap) l) (j : Nat) (hj : j < l.length) : w.cell? ⟨g, j, none⟩ = some (.int .u8 (l[j].toNat : Int)) := by
  rcases h.form with ⟨h1, _⟩ | ⟨g', cap', h1, _, _, _⟩
  · cases h1
  · injection h1 with h2 h3 h4
    subst h3
    have := World.ownsRow.cellAt (w := w) h j (by omega)
    rw [this]
    simp [b8, hj]
theorem OwnB.free {w : World} {base g n cap : Nat} {l : List UInt8} (h : OwnB w base (.slice (some ⟨g, 0, none⟩) n cap) l) (j : Nat) : w.frozen? ⟨g, j, none⟩ = false := by
  rcases h.form with ⟨h1, _⟩ | ⟨g', cap', h1, _, _, _⟩
  · cases h1
  · injection h1 with h2 h3 h4
    subst h3
    exact World.ownsRow.frozenAt (w := w) h j

/-! ### A block that is known whole -/
def BlkIs (w : World) (g : Nat) (t : TypeId) (cs : Array Value) : Prop := w.heap[g]? = some (.cells cs t (0, 0))
section
variable {w w' : World} {g : Nat} {t : TypeId} {cs : Array Value}
theorem BlkIs.lt (h : BlkIs w g t cs) : g < w.heap.size := (Array.getElem?_eq_some_iff.1 h).1
theorem BlkIs.cell (h : BlkIs w g t cs) (i : Nat) : w.cell? ⟨g, i, none⟩ = cs[i]? := cell_of_row w g i cs t (0, 0) h
theorem BlkIs.free (h : BlkIs w g t cs) (i : Nat) : w.frozen? ⟨g, i, none⟩ = false := by
  unfold BlkIs at h
  simp [World.frozen?, h]
theorem BlkIs.set (h : BlkIs w g t cs) (i : Nat) (u : Value) : BlkIs (w.setCell ⟨g, i, none⟩ u) g t (cs.setIfInBounds i u) := by
  unfold BlkIs at h ⊢
  simp [World.setCell, Array.getElem?_modify, h]
theorem BlkIs.other (h : BlkIs w g t cs) {p : Addr} (hp : g ≠ p.block) (u : Value) : BlkIs (w.setCell p u) g t cs := (Below.heap_setCell w p u g hp).trans h
theorem BlkIs.drew (h : BlkIs w g t cs) : BlkIs w.drew g t cs := h
theorem BlkIs.alloc (h : BlkIs w g t cs) (o : Obj) : BlkIs (w.alloc o) g t cs := (Below.heap_alloc w o g h.lt).trans h
theorem BlkIs.new (w : World) (t : TypeId) (cs : Array Value) : BlkIs (w.alloc (.cells cs t)) w.heap.size t cs := heap_alloc_new w _
theorem BlkIs.below {B : Nat} (h : BlkIs w g t cs) (hb : Below B w w') (hg : g < B) : BlkIs w' g t cs := (hb.block g hg).trans h
theorem BlkIs.grown {row : Option Nat} (h : BlkIs w g t cs) (hb : w.grownBy w' row) (hg : some g ≠ row) : BlkIs w' g t cs := (hb.block g h.lt hg).trans h
end
/-- A block of bytes. -/
theorem BlkIs.inB {w : World} {g : Nat} {l : List UInt8} (h : BlkIs w g 5 (l.map b8).toArray) (B : Nat) (hB : g < B) (hm : l.length ≤ 9223372036854775807) : InB w B (some ⟨g, 0, none⟩) l.length l :=
  ⟨Nat.le_refl _, hm, (fun h => by cases h), fun _ => ⟨g, 0, rfl, hB, fun j hj => by
    rw [h.cell, Nat.zero_add]
    simp [hj, b8]⟩⟩

theorem inB_row {w : World} {g : Nat} {l : List UInt8} {fr : Nat × Nat} (h : w.heap[g]? = some (.cells (l.map b8).toArray 5 fr)) (B : Nat) (hB : g < B) (hm : l.length ≤ 9223372036854775807) : InB w B (some ⟨g, 0, none⟩) l.length l :=
  ⟨Nat.le_refl _, hm, (fun h => by cases h), fun _ => ⟨g, 0, rfl, hB, fun j hj => by
    rw [cell_of_row w g _ _ _ _ h, Nat.zero_add]
    simp [hj, b8]⟩⟩

theorem grownBy_set (w : World) (b i : Nat) (v : Value) : w.grownBy (w.setCell ⟨b, i, none⟩ v) (some b) :=
  ⟨rfl, rfl, rfl, by simp [World.setCell], fun k _ hk => Below.heap_setCell _ _ _ k (fun e => hk (by rw [e]))⟩
theorem grownBy_trans {a b c : World} {row : Option Nat} (h : a.grownBy b row) (k : b.grownBy c row) : a.grownBy c row :=
  ⟨k.os.trans h.os, k.tape.trans h.tape, k.output.trans h.output, Nat.le_trans h.size k.size, fun i hi hr => (k.block i (Nat.lt_of_lt_of_le hi h.size) hr).trans (h.block i hi hr)⟩
theorem grownBy_drew (w : World) (row : Option Nat) : w.grownBy w.drew row := ⟨rfl, rfl, rfl, Nat.le_refl _, fun _ _ _ => rfl⟩

theorem new_cell (w : World) (v : Value) (t : TypeId) : (w.alloc (.cells #[v] t)).cell? ⟨w.heap.size, 0, none⟩ = some v := by
  simp
theorem new_free (w : World) (c : Array Value) (t : TypeId) (i : Nat) : (w.alloc (.cells c t)).frozen? ⟨w.heap.size, i, none⟩ = false := by
  unfold World.frozen?
  rw [heap_alloc_new]
  simp

theorem or128 : ∀ m, m < 256 → m ||| 128 = m % 128 + 128 := by decide +kernel
theorem u8_or128 (n : Nat) : bits .or .u8 ((n : Int) % 256) 128 = ((n % 128 + 128 : Nat) : Int) := by
  have e : (n : Int) % 256 = ((n % 256 : Nat) : Int) := by omega
  rw [e]
  have := u8_or_nat (n % 256) 128 (by omega) (by omega)
  rw [or128 _ (by omega)] at this
  have h2 : (((128 : Nat)) : Int) = 128 := rfl
  rw [h2] at this
  rw [this]
  congr 1
  omega

end Go.Proofs.Ytlelckdcmlpmdaa
