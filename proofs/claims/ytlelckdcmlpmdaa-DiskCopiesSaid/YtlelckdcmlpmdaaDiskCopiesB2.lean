/- Texts that the proof of DiskCopies leans on, part 2. -/
import Derived.ScopeJumps
import Derived.Lib.SlBytesConst
import Derived.LoopN
import Derived.Stop.BytesEq
import Derived.Laws.Externs
import Derived.Test.YtlelckdcmlpmdaaDiskCopiesB1
/- Regions that draw their order, in the midst of a walk: the slots that the region doesn't write keep their values. -/
namespace Go.Proofs.Ytlelckdcmlpmdaa
open Go Go.RowKit Lou
namespace Reg

theorem OpOk.mono {P : Program} {ops : Array Oper} {FS FS' : Tmp → Value → World → Prop} {w0 : World} {o : Oper} (h : OpOk P ops FS w0 o) (h1 : ∀ t v w, FS' t v w → FS t v w) (h2 : ∀ d v w, o.dst = some d → FS d v w → FS' d v w) : OpOk P ops FS' w0 o := by
  intro a w K Q hG hl hK
  refine h a w K Q hG (fun t ht => h1 _ _ _ (hl t ht)) (fun v w' hg hf => hK v w' hg ?_)
  cases hd : o.dst with
  | none => trivial
  | some d =>
    rw [hd] at hf
    exact h2 d v w' hd hf
theorem AllOk.mono {P : Program} {ops : Array Oper} {FS FS' : Tmp → Value → World → Prop} {w0 : World} (h1 : ∀ t v w, FS' t v w → FS t v w) : ∀ {l : List Oper}, (∀ o ∈ l, ∀ d v w, o.dst = some d → FS d v w → FS' d v w) → AllOk P ops FS w0 l → AllOk P ops FS' w0 l
  | [], _, _ => trivial
  | o :: r, h2, h => ⟨h.1.mono h1 (h2 o (List.mem_cons_self ..)), h.2.mono h1 fun o ho => h2 o (List.mem_cons_of_mem _ ho)⟩

def dstsAre (ops : Array Oper) (D : List Nat) : Bool := ops.toList.all fun o => match o.dst with | some d => D.contains d | none => true

/-- As region_facts; what the region doesn't write keeps its value. -/
theorem region_acts {P : Program} {ops : Array Oper} (hm : P.follows .mixedOrders = true) (hcov : covered ops = true) {id : Nat} {a0 : Act} {w0 : World} {Q : Exit → Act → World → Prop} (n : Nat) (hn : a0.tmps.size = n)
    (hdst : dstsIn ops n = true) (D : List Nat) (hD : dstsAre ops D = true) (V W : List (Nat × Fact)) (hV : StartOk a0 w0 V) (hW : (W.all fun p => written ops p.1) = true)
    (hok : AllOk P ops (FSof (V ++ W)) w0 ops.toList)
    (hend : ∀ a w, a.tmps.size = n → a.defers = a0.defers → Grow w0 w → (∀ t, FSof (V ++ W) t (a.eval (.tmp t)) w) → (∀ t, D.contains t = false → a.eval (.tmp t) = a0.eval (.tmp t)) → Q .normal a w) :
    (Code.region id ops true).wp P Q a0 w0 := by
  have hD' : ∀ o ∈ ops.toList, ∀ d, o.dst = some d → D.contains d = true := by
    intro o ho d hd
    unfold dstsAre at hD
    rw [List.all_eq_true] at hD
    have := hD o ho
    simpa [hd] using this
  refine region hm hcov n hn ?_ (fun t v w => FSof (V ++ W) t v w ∧ (D.contains t = false → v = a0.eval (.tmp t))) (fun t v w w' h hg => ⟨FSof.stable _ _ _ _ _ h.1 hg, h.2⟩) (fun t ht => ⟨start_fact V W hV hW t ht, fun _ => rfl⟩)
    (AllOk.mono (fun _ _ _ h => h.1) (fun o ho d v w hd h => ⟨h, fun hn => by rw [hD' o ho d hd] at hn; cases hn⟩) hok) ?_
  · intro o ho d hd
    unfold dstsIn at hdst
    rw [List.all_eq_true] at hdst
    have := hdst o ho
    simpa [hd] using this
  · intro a w h1 h2 h3 h4
    exact hend a w h1 h2 h3 (fun t => (h4 t).1) (fun t => (h4 t).2)

/-- An act out of another by the slots that differ. -/
theorem acts_eq {a a0 : Act} : ∀ (D : List Nat), a.tmps.size = a0.tmps.size → a.defers = a0.defers → (∀ t, D.contains t = false → a.eval (.tmp t) = a0.eval (.tmp t)) → a = D.foldl (fun x d => x.put (some d) (a.eval (.tmp d))) a0 := by
  have size_put : ∀ (x : Act) d v, (x.put (some d) v).tmps.size = x.tmps.size := by intro x d v; simp [Act.put]
  have key : ∀ (D : List Nat) (b : Act), a.tmps.size = b.tmps.size → a.defers = b.defers → (∀ t, D.contains t = false → a.eval (.tmp t) = b.eval (.tmp t)) → a = D.foldl (fun x d => x.put (some d) (a.eval (.tmp d))) b := by
    intro D
    induction D with
    | nil =>
      intro b hs hd h
      have : a.tmps = b.tmps := by
        apply Array.ext hs
        intro i h1 h2
        have := h i rfl
        simpa [Act.eval, Array.getD, h1, h2] using this
      cases a; cases b; simp_all
    | cons d r ih =>
      intro b hs hd h
      rw [List.foldl_cons]
      refine ih _ (by rw [size_put]; exact hs) (by simp [Act.put, hd]) ?_
      intro t ht
      by_cases e : t = d
      · subst e
        by_cases hlt : t < b.tmps.size
        · rw [eval_put_same hlt]
        · have h1 : ¬ t < a.tmps.size := by omega
          simp [Act.put, Act.eval, Array.getD_eq_getD_getElem?, h1, hlt]
      · rw [eval_put_other e]
        exact h t (by simp only [List.contains_cons, Bool.or_eq_false_iff]; exact ⟨by simpa using e, ht⟩)
  exact fun D => key D a0

/-- What a region leaves: the slots of D may differ; F holds. -/
def Left (D : List Nat) (F : Act → World → Prop) (a0 : Act) (w0 : World) (a : Act) (w : World) : Prop := a.tmps.size = a0.tmps.size ∧ a.defers = a0.defers ∧ Grow w0 w ∧ F a w ∧ ∀ t, D.contains t = false → a.eval (.tmp t) = a0.eval (.tmp t)
section lists
variable {L : List (Nat × Fact)} {ops : Array Oper} {w0 : World} {o : Oper} {P : Program}
theorem l_pickF (x y z : Operand) (r : Value) (ho : o.op = .pick x y z) (hx : Has ops (FSof L) o x (.bool false)) (hz : Has ops (FSof L) o z r) (hd : FD L o.dst = .val r) : RunOk P ops (FSof L) w0 o :=
  run2 x z hx hz (fun ρ w h1 h2 => by simp [execOp, ho, h1, h2, asBool, Result.andThen]) fun _ => fsd hd rfl
theorem l_load (x : Operand) (p : Addr) (T : TypeId) (v : Value) (hagg : ∀ w : World, (isAgg T).run P w = .ok false w) (ho : o.op = .load T x) (hx : Has ops (FSof L) o x (.pointer (some p))) (hcell : ∀ w, Grow w0 w → w.cell? p = some v) (hd : FD L o.dst = .val v) : RunOk P ops (FSof L) w0 o := by
  refine l_run1W x (.val v) _ hx (fun ρ w hg h => ⟨v, w, ?_, Grow.refl _, rfl⟩) hd
  have hc := hcell w hg
  simp [execOp, ho, h, go_sem, hagg, hc, Result.andThen]
end lists
end Reg
end Go.Proofs.Ytlelckdcmlpmdaa
/- Blocks of slices of bytes, as facts of slots; Concat of them. -/
namespace Go.Proofs.Ytlelckdcmlpmdaa
open Go Go.RowKit Lou

/-- A row of slices of bytes, in a block. -/
def Lists (ls : List (List UInt8)) (v : Value) (w : World) : Prop :=
  ∃ b, v = .slice (some ⟨b, 0, none⟩) ls.length ls.length ∧ b < w.heap.size ∧ ∀ j (h : j < ls.length), ∃ A c, w.cell? ⟨b, j, none⟩ = some (.slice A ls[j].length c) ∧ InB w w.heap.size A c ls[j]
/-- The block that a call of the variadic kind lays. -/
theorem Lists.new {w : World} (xs : List ((Option Addr × Nat) × List UInt8)) (h : ∀ x ∈ xs, InB w w.heap.size x.1.1 x.1.2 x.2) :
    Lists (xs.map (·.2)) (.slice (some ⟨w.heap.size, 0, none⟩) xs.length xs.length) (w.alloc (.cells (xs.map fun x => Value.slice x.1.1 x.2.length x.1.2).toArray 30)) := by
  refine ⟨w.heap.size, by simp, by simp, fun j hj => ?_⟩
  have hj' : j < xs.length := by simpa using hj
  refine ⟨xs[j].1.1, xs[j].1.2, ?_, ?_⟩
  · rw [(BlkIs.new w 30 _).cell]
    simp [hj']
  · have := h xs[j] (List.getElem_mem hj')
    rw [List.getElem_map]
    exact (this.below ((Below.refl _ w).alloc (Nat.le_refl _) _)).more (by simp)
theorem OwnB.base {w : World} {b b' : Nat} {v : Value} {l : List UInt8} (h : OwnB w b v l) (hb : b' ≤ b) : OwnB w b' v l := by
  refine ⟨h.1, ?_⟩
  rcases h.2 with h | ⟨g, cap, cur, h1, h2, h3⟩
  · exact .inl h
  · exact .inr ⟨g, cap, cur, h1, by omega, h3⟩
theorem GivesB.from {w w1 : World} {l : List UInt8} {e : Ending} {w' : World} (h : GivesB w1 l e w') (hb : Below w.heap.size w w1) : GivesB w l e w' := by
  obtain ⟨v, he, hown, hB⟩ := h
  exact ⟨v, he, hown.base hb.size, hb.trans (hB.mono hb.size)⟩
namespace Reg
variable {L : List (Nat × Fact)} {ops : Array Oper} {w0 : World} {o : Oper}
end Reg
end Go.Proofs.Ytlelckdcmlpmdaa
/- frame: Check, place, Sectors, FrameAt, PageAt. -/
namespace Go.Proofs.Ytlelckdcmlpmdaa
open Go Go.RowKit Lou

def planOk (fr pg : Int) : Bool := isIn 1 2000 [fr] && isIn 1 2000 [pg]
theorem InN.one (W : World) (x : Int) : InN (W.alloc (.cells #[.int .i64 x] 3)) (some ⟨W.heap.size, 0, none⟩) [x] := ⟨fun _ => ⟨_, _, rfl, fun j hj => by
  obtain rfl : j = 0 := by simpa using hj
  exact (BlkIs.new W 3 #[.int .i64 x]).boxed⟩⟩
def plE (ok : Bool) (i many : Int) : Int := if ok then (if 0 ≤ i ∧ i < many then 0 else 4) else 2
def PlNone (e : Int) (a : Act) : Prop := ∃ u0 u1 u2 u3 u4 u5 u6 u7 u8 u10 u11 u12 u13 u14 u15 u16 u17 u18 u19 u20 u21 u22 u23, a = { tmps := #[u0, u1, u2, u3, u4, u5, u6, u7, u8, .int .i64 e, u10, u11, u12, u13, u14, u15, u16, u17, u18, u19, u20, u21, u22, u23], defers := [] }

end Go.Proofs.Ytlelckdcmlpmdaa
/- frame.fits. -/
namespace Go.Proofs.Ytlelckdcmlpmdaa
open Go Go.RowKit Lou

/-- A head, as a value. -/
def headCells (s e : Nat) (z c : Int) : Array Value := #[.int .u64 (s : Int), .int .u64 (e : Int), .int .i64 z, .int .i64 c]
def headOk (z c : Int) : Bool := isIn 0 2000 [z] && isIn 0 2000 [c]
end Go.Proofs.Ytlelckdcmlpmdaa
/- math/bits.Mul of small numbers. -/
namespace Go.Proofs.Ytlelckdcmlpmdaa
open Go Go.RowKit Lou

end Go.Proofs.Ytlelckdcmlpmdaa
/- A region that draws its order, by an invariant of whatever kind: over which operations are done, the slots, the world. -/
namespace Go.Proofs.Ytlelckdcmlpmdaa
open Go Go.RowKit
namespace Reg
variable {P : Program} {ops : Array Oper}

/-- Each edge that binds leads back. -/
def backs (ops : Array Oper) : Bool := ops.toList.zipIdx.all fun (o, i) => o.after.toList.all fun e => !Region.binds .any e || decide (e.on < i)
/-- Slot t, looked at by o (number i): each operation that writes it comes ahead by an edge. -/
def ahead (ops : Array Oper) (o : Oper) (t : Nat) : Bool := ops.toList.zipIdx.all fun (p, j) => p.dst != some t || (o.after.toList.any fun e => Region.binds .any e && e.on == j)
/-- .. each operation that writes it waits for number i. -/
def waits (ops : Array Oper) (i : Nat) (t : Nat) : Bool := ops.toList.zipIdx.all fun (p, _) => p.dst != some t || (p.after.toList.any fun e => Region.binds .any e && e.on == i)
theorem waits_spec {i t : Nat} (h : waits ops i t = true) {j : Nat} {p : Oper} (hp : ops[j]? = some p) (hd : p.dst = some t) : ∃ e ∈ p.after.toList, Region.binds .any e = true ∧ e.on = i := by
  unfold waits at h
  rw [List.all_eq_true] at h
  have hm : (p, j) ∈ ops.toList.zipIdx := by
    rw [List.mem_zipIdx_iff_getElem?]
    simpa using hp
  have := h _ hm
  simp only [hd, bne_self_eq_false, Bool.false_or, List.any_eq_true, Bool.and_eq_true, beq_iff_eq] at this
  obtain ⟨e, he, hb, hj⟩ := this
  exact ⟨e, he, hb, hj⟩

/-- One operation, in whatever order: where it is ready it leads from the invariant to the invariant. -/
def StepOk (P : Program) (ops : Array Oper) (Inv : Array Bool → Act → World → Prop) (i : Nat) (o : Oper) : Prop :=
  ∀ (listed : Array Bool) (a : Act) (w : World) (K : Act → World → Prop) (Q : Exit → Act → World → Prop), listed.size = ops.size → listed.getD i true = false → (∀ e ∈ o.after.toList, Region.binds .any e = true → listed.getD e.on false = true) →
    Inv listed a w → (∀ v w', Inv (listed.setIfInBounds i true) (a.put o.dst v) w' → K (a.put o.dst v) w') →
    (if Region.wanted o (yielded ops a.tmps) then o.wp P a w K Q ∨ (o.asks P a w ∧ LetsOut Q) else K (a.put o.dst undef) w)

end Reg
end Go.Proofs.Ytlelckdcmlpmdaa
/- Regions that draw their order and write: facts on slots, and an invariant beside them. -/
namespace Go.Proofs.Ytlelckdcmlpmdaa
open Go Go.RowKit Lou
namespace Reg
variable {P : Program} {ops : Array Oper}

abbrev WInv := Array Bool → Act → World → Prop
structure J2 (ops : Array Oper) (FS : Tmp → Value → World → Prop) (a0 : Act) (D : List Nat) (WI : WInv) (listed : Array Bool) (a : Act) (w : World) : Prop where
  size : a.tmps.size = a0.tmps.size
  defers : a.defers = a0.defers
  facts : ∀ t, Known ops listed t → FS t (a.eval (.tmp t)) w
  wi : WI listed a w
  rest : ∀ t, D.contains t = false → a.eval (.tmp t) = a0.eval (.tmp t)
  old : ∀ t, (∀ (j : Nat) (p : Oper), ops[j]? = some p → p.dst = some t → listed.getD j true = false) → a.eval (.tmp t) = a0.eval (.tmp t)
  closed : ∀ (j : Nat) (p : Oper), ops[j]? = some p → listed.getD j true = true → ∀ e ∈ p.after.toList, Region.binds .any e = true → listed.getD e.on false = true

/-- An operation is in order: from what is known of the slots that it looks at and the invariant, it comes to what is claimed of its own and the invariant; what is known of other slots stays known. -/
def Op2 (P : Program) (ops : Array Oper) (a0 : Act) (FS : Tmp → Value → World → Prop) (WI : WInv) (i : Nat) (o : Oper) : Prop :=
  ∀ (listed : Array Bool) (a : Act) (w : World) (K : Act → World → Prop) (Q : Exit → Act → World → Prop), listed.size = ops.size → listed.getD i true = false → (∀ e ∈ o.after.toList, Region.binds .any e = true → listed.getD e.on false = true) →
    WI listed a w → (∀ t, (o.looksAt ops).contains t = true → ahead ops o t = true → FS t (a.eval (.tmp t)) w) → (∀ t, waits ops i t = true → a.eval (.tmp t) = a0.eval (.tmp t)) →
    (∀ v w', (∀ t u, FS t u w → FS t u w') → FSd FS o.dst v w' → WI (listed.setIfInBounds i true) (a.put o.dst v) w' → K (a.put o.dst v) w') →
    (if Region.wanted o (yielded ops a.tmps) then o.wp P a w K Q ∨ (o.asks P a w ∧ LetsOut Q) else K (a.put o.dst undef) w)
def AllOp2 (P : Program) (ops : Array Oper) (a0 : Act) (FS : Tmp → Value → World → Prop) (WI : WInv) : Nat → List Oper → Prop
  | _, [] => True
  | k, o :: r => Op2 P ops a0 FS WI k o ∧ AllOp2 P ops a0 FS WI (k + 1) r
theorem AllOp2.get {a0 : Act} {FS : Tmp → Value → World → Prop} {WI : WInv} : ∀ {l : List Oper} {k : Nat}, AllOp2 P ops a0 FS WI k l → ∀ i o, l[i]? = some o → Op2 P ops a0 FS WI (k + i) o
  | [], _, _, i, o, h => by simp at h
  | x :: r, k, h, 0, o, ho => by
    simp at ho
    subst ho
    exact h.1
  | x :: r, k, h, i + 1, o, ho => by
    have := AllOp2.get h.2 i o (by simpa using ho)
    rw [show k + (i + 1) = k + 1 + i from by omega]
    exact this

/-- Facts of values alone hold in whatever world. -/
def allVal : List (Nat × Fact) → Bool
  | [] => true
  | (_, .val _) :: r => allVal r
  | (_, .any) :: r => allVal r
  | _ => false
end Reg
end Go.Proofs.Ytlelckdcmlpmdaa
/- octet.Four, Eight and what they call; louperef03.Fixed: fixed bytes. -/
namespace Go.Proofs.Ytlelckdcmlpmdaa
open Go Go.RowKit Lou

/-- What fixed has told when k bytes are still to come. -/
def FixAt (m n k : Nat) (pre : List UInt8) : Prop := pre ++ fixL k n = fixL m n ∧ pre.length + k = m
theorem FixAt.start (m n : Nat) : FixAt m n m [] := ⟨rfl, by simp⟩
theorem FixAt.next {m n k : Nat} {pre : List UInt8} (h : FixAt m n (k + 1) pre) : FixAt m n k (pre ++ [UInt8.ofNat (n / 2 ^ (8 * k) % 256)]) := by
  refine ⟨?_, by have := h.2; simp; omega⟩
  rw [← h.1, fixL_succ, List.append_assoc, List.singleton_append]
  congr 2
  apply UInt8.toNat_inj.1
  rw [show (256 : Nat) ^ k = 2 ^ (8 * k) from by rw [Nat.pow_mul]]
  simp [UInt8.toNat_ofNat']
end Go.Proofs.Ytlelckdcmlpmdaa
/- loupelaw03.works: the chapter's rows. -/
namespace Go.Proofs.Ytlelckdcmlpmdaa
open Go Go.RowKit Lou

end Go.Proofs.Ytlelckdcmlpmdaa
/- louperef03.Fixed: fixed bytes. -/
namespace Go.Proofs.Ytlelckdcmlpmdaa
open Go Go.RowKit Lou

/-- The last bytes are told; k are still noughts. -/
def FxAt (m n0 n k : Nat) (l : List UInt8) : Prop := n = n0 / 256 ^ (m - k) ∧ l = List.replicate k 0 ++ (fixL m n0).drop k
theorem FxAt.start (m n : Nat) : FxAt m n n m (List.replicate m 0) := by
  refine ⟨by simp, ?_⟩
  rw [List.drop_eq_nil_of_le (by rw [fixL_length]; exact Nat.le_refl _), List.append_nil]
theorem FxAt.length {m n0 n k : Nat} {l : List UInt8} (h : FxAt m n0 n k l) (hk : k ≤ m) : l.length = m := by
  rw [h.2]; simp [fixL_length]; omega
theorem FxAt.next {m n0 n k : Nat} {l : List UInt8} (h : FxAt m n0 n (k + 1) l) (hk : k + 1 ≤ m) : FxAt m n0 (n / 256) k (l.set k (UInt8.ofNat (n % 256))) := by
  obtain ⟨h1, h2⟩ := h
  constructor
  · rw [h1, Nat.div_div_eq_div_mul, ← Nat.pow_succ, show m - k = (m - (k + 1)) + 1 from by omega]
  · rw [h2, List.replicate_succ', List.append_assoc, List.set_append_right _ _ (by simp)]
    simp only [List.length_replicate, Nat.sub_self]
    have hl : k < (fixL m n0).length := by rw [fixL_length]; omega
    rw [List.drop_eq_getElem_cons hl]
    congr 1
    show UInt8.ofNat (n % 256) :: _ = _
    congr 1
    have : (fixL m n0)[k] = UInt8.ofNat (n0 / 256 ^ (m - 1 - k)) := by simp [fixL]
    rw [this, h1, show m - (k + 1) = m - 1 - k from by omega]
    apply UInt8.toNat_inj.1
    simp [UInt8.toNat_ofNat']
end Go.Proofs.Ytlelckdcmlpmdaa
/- loupelaw03.OctetNumbers: the walk. -/
namespace Go.Proofs.Ytlelckdcmlpmdaa
open Go Go.RowKit Lou

end Go.Proofs.Ytlelckdcmlpmdaa
/- loupelaw03.OctetStrings: the walk. -/
namespace Go.Proofs.Ytlelckdcmlpmdaa
open Go Go.RowKit Lou

/-- A block of two slices of bytes. -/
def Two (x y : Value) (v : Value) (w : World) : Prop := ∃ b, v = .slice (some ⟨b, 0, none⟩) 2 2 ∧ b < w.heap.size ∧ w.cell? ⟨b, 0, none⟩ = some x ∧ w.cell? ⟨b, 1, none⟩ = some y
theorem cut_take {ρ : Operand → Value} {w : World} {o : Oper} {x y : Operand} {A : Option Addr} {c m : Nat} {l : List UInt8} (ho : o.op = .slice 30 x none (some y) none) (h1 : ρ x = .slice A l.length c) (h2 : ρ y = .int .i64 (m : Int)) (hm : m ≤ l.length) (hle : l.length ≤ c) :
    (execOp ρ o).run Try.prog w = .ok (.value (.slice A (l.take m).length c)) w := by
  have ht : Try.prog.underlying 30 = some (.slice (Try.prog.elem 30)) := by kernel_rfl
  have e1 : (l.take m).length = m := by simp; omega
  rw [e1]
  have hmc : m ≤ c := by omega
  simp [execOp, ho, h1, h2, go_sem, run_sliceAt_slice _ _ _ _ _ _ ht, Result.andThen, hmc]
end Go.Proofs.Ytlelckdcmlpmdaa
/- slices.Repeat of bytes, twice. -/
namespace Go.Proofs.Ytlelckdcmlpmdaa
open Go Go.RowKit Lou

end Go.Proofs.Ytlelckdcmlpmdaa
/- Heads' and frames' bytes, in plain lists. -/
namespace Go.Proofs.Ytlelckdcmlpmdaa
open Lou

/-- A head's first 24 bytes; with their sum; the whole sector. -/
def headB (s e z c : Nat) : List UInt8 := [fixL 8 s, fixL 8 e, fixL 4 z, fixL 4 c].flatten
def onceB (b : List UInt8) : List UInt8 := b ++ fixL 4 (sumL b)
def twiceB (b : List UInt8) : List UInt8 := onceB b ++ onceB b ++ List.replicate 8 0
def headW (s e z c : Nat) : List UInt8 := twiceB (headB s e z c)
/-- What a head's bytes are read as. -/
def hdS (b : List UInt8) : Nat := rfix (b.take 8)
def hdE (b : List UInt8) : Nat := rfix ((b.drop 8).take 8)
def hdZ (b : List UInt8) : Nat := rfix ((b.drop 16).take 4)
def hdC (b : List UInt8) : Nat := rfix ((b.drop 20).take 4)
/-- Are bytes a head's? -/
def isHead (b : List UInt8) : Bool := decide (b.length = 64) && decide (hdZ b ≤ 2000) && decide (hdC b ≤ 2000) && decide (headW (hdS b) (hdE b) (hdZ b) (hdC b) = b)
/-- A frame's parts ahead of the sum. -/
def partB (e i p : Nat) (f : Bool) (z l : Nat) : List UInt8 := [fixL 8 e, fixL 4 i, fixL 4 p, [if f then 1 else 0], fixL 4 z, fixL 4 l].flatten
/-- A frame's first sector; the whole of it. -/
def sectB (p y : List UInt8) : List UInt8 := p ++ fixL 4 (sumL (p ++ y)) ++ List.replicate 35 0
def frameB (p y : List UInt8) : List UInt8 := sectB p y ++ y

end Go.Proofs.Ytlelckdcmlpmdaa
/- frame.head: a head's sector. -/
namespace Go.Proofs.Ytlelckdcmlpmdaa
open Go Go.RowKit Lou

end Go.Proofs.Ytlelckdcmlpmdaa
/- frame.EncodeHead and the reference's. -/
namespace Go.Proofs.Ytlelckdcmlpmdaa
open Go Go.RowKit Lou

/-- Bytes and an error that a call gives. -/
def GivesBE (w0 : World) (l : List UInt8) (n : Int) (e : Ending) (w' : World) : Prop :=
  ∃ A c, e = .returned (.tuple #[.slice A l.length c, .int .i64 n]) ∧ InB w' w'.heap.size A c l ∧ Below w0.heap.size w0 w'
def hEnc (s e : Nat) (z c : Int) : List UInt8 := if headOk z c then headW s e z.toNat c.toNat else []
def hErr (z c : Int) : Int := if headOk z c then 0 else 2
theorem InB.mt (w : World) (B : Nat) : InB w B none 0 [] := ⟨by simp, by omega, fun _ => rfl, fun h => by simp at h⟩
theorem BlkIs.inBT {w : World} {g : Nat} {T : TypeId} {l : List UInt8} (h : BlkIs w g T (l.map b8).toArray) (hm : l.length ≤ 9223372036854775807) : InB w w.heap.size (some ⟨g, 0, none⟩) l.length l :=
  ⟨Nat.le_refl _, hm, (fun e => by cases e), fun _ => ⟨g, 0, rfl, h.lt, fun j hj => by
    rw [h.cell]
    simp [hj, b8]⟩⟩

theorem InB.grown {w w' : World} {B : Nat} {A : Option Addr} {c : Nat} {l : List UInt8} {row : Option Nat} (h : InB w B A c l) (hB : B ≤ w.heap.size) (hg : w.grownBy w' row) (hr : ∀ r, row = some r → B ≤ r) : InB w' B A c l :=
  h.keep fun p hp => World.cell?_of_block (hg.block p.block (by omega) (fun e => by have := hr _ e.symm; omega))

end Go.Proofs.Ytlelckdcmlpmdaa
/- frame.laid. -/
namespace Go.Proofs.Ytlelckdcmlpmdaa
open Go Go.RowKit Lou

end Go.Proofs.Ytlelckdcmlpmdaa
/- frame.right. -/
namespace Go.Proofs.Ytlelckdcmlpmdaa
open Go Go.RowKit Lou

/-- A frame, as cells. -/
def frCells (e : Nat) (i p : Int) (f : Bool) (z : Int) (n : Nat) (A : Option Addr) (len k : Nat) : Array Value := #[.int .u64 (e : Int), .int .i64 i, .int .i64 p, .bool f, .int .i64 z, .int .u32 (n : Int), .slice A len k]
def frOk (len : Nat) (i p : Int) (f : Bool) (z : Int) : Bool := decide (len = 512) && isIn 0 2000 [i] && isIn 0 2000 [p, z] && (f || z == 0)
theorem InN.two (W : World) (x y : Int) : InN (W.alloc (.cells #[.int .i64 x, .int .i64 y] 3)) (some ⟨W.heap.size, 0, none⟩) [x, y] := ⟨fun _ => ⟨_, _, rfl, fun j hj => by
  rw [(BlkIs.new W 3 #[.int .i64 x, .int .i64 y]).cell]
  rcases (show j = 0 ∨ j = 1 from by simp at hj; omega) with rfl | rfl <;> rfl⟩⟩
end Go.Proofs.Ytlelckdcmlpmdaa
/- frame.flags: a map of two closures. -/
namespace Go.Proofs.Ytlelckdcmlpmdaa
open Go Go.RowKit Lou

/-- The two flags' bytes lie behind closures in a map. -/
def FlagsAt (w : World) (v : Value) : Prop := ∃ r g0 g1 clock, v = .map (some r) ∧ MapIs w r #[⟨.bool false, .func (.func 207) #[] #[.pointer (some ⟨g0, 0, none⟩)], 0⟩, ⟨.bool true, .func (.func 207) #[] #[.pointer (some ⟨g1, 0, none⟩)], 1⟩] clock ∧
  BlkIs w g0 5 #[.int .u8 0] ∧ BlkIs w g1 5 #[.int .u8 1]
theorem FlagsAt.below {w w' : World} {v : Value} (h : FlagsAt w v) (hB : Below w.heap.size w w') : FlagsAt w' v := by
  obtain ⟨r, g0, g1, clock, hv, h1, h2, h3⟩ := h
  exact ⟨r, g0, g1, clock, hv, h1.below hB h1.lt, h2.below hB h2.lt, h3.below hB h3.lt⟩
end Go.Proofs.Ytlelckdcmlpmdaa
/- Regions that draw their order and change what the call itself owns (rows that grow, variables that are laid and stored): each such thing is a chain of stages; facts on slots tell nothing of its block. -/
namespace Go.Proofs.Ytlelckdcmlpmdaa
open Go Go.RowKit Lou
namespace Reg
variable {P : Program} {ops : Array Oper}

/-- Where a stage's value lies: in a slot; or it is known. -/
inductive Src where
  | slot (t : Tmp)
  | given (v : Value)
def Src.get (a : Act) : Src → Value
  | .slot t => a.eval (.tmp t)
  | .given v => v
structure Stage where
  /-- the operation that leads to it (none: it stands from the beginning) -/
  i : Option Nat
  s : Src
  p : Value → World → Prop
  b : Value → Option Nat
  st : ∀ v w w', p v w → (∀ k, b v = some k → w'.heap[k]? = w.heap[k]?) → p v w'
  lt : ∀ v w k, p v w → b v = some k → k < w.heap.size
def Stage.done (listed : Array Bool) (x : Stage) : Bool := match x.i with | none => true | some i => listed.getD i false
def current (listed : Array Bool) : List Stage → Option Stage
  | [] => none
  | x :: r => if x.done listed then some x else current listed r
abbrev Ghost := Nat → Option Nat
def upd (g : Ghost) (k : Nat) (b : Option Nat) : Ghost := fun j => if j = k then b else g j
def Lt (g : Ghost) (w : World) : Prop := ∀ k b, g k = some b → b < w.heap.size
def StageAt (g : Option Nat) (a : Act) (w : World) : Option Stage → Prop
  | none => g = none
  | some x => x.p (x.s.get a) w ∧ g = x.b (x.s.get a)
structure WC (B : Nat) (w00 : World) (cs : List (List Stage)) (g : Ghost) (listed : Array Bool) (a : Act) (w : World) : Prop where
  below : Below B w00 w
  base : B ≤ w.heap.size
  at_ : ∀ k c, cs[k]? = some c → StageAt (g k) a w (current listed c)
  out : ∀ k, cs[k]? = none → g k = none
  apart : ∀ j k b, j ≠ k → g j = some b → g k ≠ some b
  ge : ∀ k b, g k = some b → B ≤ b
theorem WC.lt {B : Nat} {w00 : World} {cs : List (List Stage)} {g : Ghost} {listed : Array Bool} {a : Act} {w : World} (h : WC B w00 cs g listed a w) : Lt g w := by
  intro k b hb
  cases hc : cs[k]? with
  | none => rw [h.out k hc] at hb; cases hb
  | some c =>
    have := h.at_ k c hc
    cases hx : current listed c with
    | none => rw [hx] at this; rw [show g k = none from this] at hb; cases hb
    | some x =>
      rw [hx] at this
      obtain ⟨h1, h2⟩ := this
      rw [h2] at hb
      exact x.lt _ _ _ h1 hb

def edge (ops : Array Oper) (i j : Nat) : Bool := match ops[i]? with | some o => o.after.toList.any fun e => Region.binds .any e && e.on == j | none => false
/-- Each stage's operation waits for the one ahead of it. -/
def chained (ops : Array Oper) : List Stage → Bool
  | [] => true
  | x :: r => (match r with | [] => true | y :: _ => match x.i, y.i with | some i, some j => edge ops i j | some _, none => true | none, _ => false) && chained ops r
def idx (cs : List (List Stage)) : List Nat := cs.flatten.filterMap (·.i)
/-- A slot that a stage names is written by its own operation, or by one that it waits for. -/
def slotsOk (ops : Array Oper) (cs : List (List Stage)) : Bool :=
  ops.toList.zipIdx.all fun (o, j) => cs.flatten.all fun y => match y.s with
    | .given _ => true
    | .slot t => o.dst != some t || (match y.i with | none => false | some i => i == j || edge ops i j)
def chainsOk (ops : Array Oper) (cs : List (List Stage)) : Bool := cs.all (chained ops) && slotsOk ops cs

abbrev Closed (ops : Array Oper) (listed : Array Bool) : Prop := ∀ (j : Nat) (p : Oper), ops[j]? = some p → listed.getD j true = true → ∀ e ∈ p.after.toList, Region.binds .any e = true → listed.getD e.on false = true
end Reg
end Go.Proofs.Ytlelckdcmlpmdaa
/- Regions with chains: the theorem, and the rules for an operation. -/
namespace Go.Proofs.Ytlelckdcmlpmdaa
open Go Go.RowKit Lou
namespace Reg
variable {P : Program} {ops : Array Oper}

structure J4 (ops : Array Oper) (FS : Ghost → Tmp → Value → World → Prop) (a0 : Act) (D : List Nat) (B : Nat) (w00 : World) (cs : List (List Stage)) (g : Ghost) (listed : Array Bool) (a : Act) (w : World) : Prop where
  size : a.tmps.size = a0.tmps.size
  defers : a.defers = a0.defers
  facts : ∀ t, Known ops listed t → FS g t (a.eval (.tmp t)) w
  wc : WC B w00 cs g listed a w
  rest : ∀ t, D.contains t = false → a.eval (.tmp t) = a0.eval (.tmp t)
  old : ∀ t, (∀ (j : Nat) (p : Oper), ops[j]? = some p → p.dst = some t → listed.getD j true = false) → a.eval (.tmp t) = a0.eval (.tmp t)
  closed : Closed ops listed

def Op4 (P : Program) (ops : Array Oper) (a0 : Act) (FS : Ghost → Tmp → Value → World → Prop) (B : Nat) (w00 : World) (cs : List (List Stage)) (i : Nat) (o : Oper) : Prop :=
  ∀ (g : Ghost) (listed : Array Bool) (a : Act) (w : World) (K : Act → World → Prop) (Q : Exit → Act → World → Prop), ops[i]? = some o → listed.size = ops.size → listed.getD i true = false → (∀ e ∈ o.after.toList, Region.binds .any e = true → listed.getD e.on false = true) → Closed ops listed →
    WC B w00 cs g listed a w → (∀ t, (o.looksAt ops).contains t = true → ahead ops o t = true → FS g t (a.eval (.tmp t)) w) → (∀ t, waits ops i t = true → a.eval (.tmp t) = a0.eval (.tmp t)) → (∀ d, o.dst = some d → d < a.tmps.size) →
    (∀ g' v w', (∀ t u, FS g t u w → FS g' t u w') → FSd (FS g') o.dst v w' → WC B w00 cs g' (listed.setIfInBounds i true) (a.put o.dst v) w' → K (a.put o.dst v) w') →
    (if Region.wanted o (yielded ops a.tmps) then o.wp P a w K Q ∨ (o.asks P a w ∧ LetsOut Q) else K (a.put o.dst undef) w)
def AllOp4 (P : Program) (ops : Array Oper) (a0 : Act) (FS : Ghost → Tmp → Value → World → Prop) (B : Nat) (w00 : World) (cs : List (List Stage)) : Nat → List Oper → Prop
  | _, [] => True
  | k, o :: r => Op4 P ops a0 FS B w00 cs k o ∧ AllOp4 P ops a0 FS B w00 cs (k + 1) r
theorem AllOp4.get {a0 : Act} {FS : Ghost → Tmp → Value → World → Prop} {B : Nat} {w00 : World} {cs : List (List Stage)} : ∀ {l : List Oper} {k : Nat}, AllOp4 P ops a0 FS B w00 cs k l → ∀ i o, l[i]? = some o → Op4 P ops a0 FS B w00 cs (k + i) o
  | [], _, _, i, o, h => by simp at h
  | x :: r, k, h, 0, o, ho => by
    simp at ho
    subst ho
    exact h.1
  | x :: r, k, h, i + 1, o, ho => by
    have := AllOp4.get h.2 i o (by simpa using ho)
    rw [show k + (i + 1) = k + 1 + i from by omega]
    exact this

section rules
variable {a0 : Act} {FS : Ghost → Tmp → Value → World → Prop} {B : Nat} {w00 : World} {cs : List (List Stage)} {i : Nat} {o : Oper}
/-- Operation i waits for the stage's. -/
def behind (ops : Array Oper) (i : Nat) : Option Nat → Bool
  | none => true
  | some j => edge ops i j
end rules
end Reg
end Go.Proofs.Ytlelckdcmlpmdaa
/- More rules for single operations of regions that draw their order. -/
namespace Go.Proofs.Ytlelckdcmlpmdaa
open Go Go.RowKit Lou
namespace Reg
variable {L : List (Nat × Fact)} {ops : Array Oper} {w0 : World} {o : Oper} {P : Program}
/-- A load whose run is known. -/
theorem l_loadV (x : Operand) (p : Addr) (T : TypeId) (v : Value) (ho : o.op = .load T x) (hx : Has ops (FSof L) o x (.pointer (some p))) (hload : ∀ w, Grow w0 w → (loadVar T p).run P w = .ok v w) (hd : FD L o.dst = .val v) : RunOk P ops (FSof L) w0 o :=
  l_run1W x (.val v) _ hx (fun ρ w hg h => ⟨v, w, by simp only [execOp, ho, h, Instr.loadAt, Instr.sureAddr, Sem.run_bind, Sem.run_pure, Result.andThen_ok, hload w hg], Grow.refl _, rfl⟩) hd
end Reg
end Go.Proofs.Ytlelckdcmlpmdaa
/- Regions with chains: facts on slots, stages and rules for rows of bytes and for variables. -/
namespace Go.Proofs.Ytlelckdcmlpmdaa
open Go Go.RowKit Lou
namespace Reg

inductive GFact where
  | val (v : Value)
  | any
  | gp (p : Ghost → Value → World → Prop) (h1 : ∀ g v w w', p g v w → Grow w w' → p g v w') (h2 : ∀ g k gb v w w', Lt g w → w.grownBy w' (g k) → (gb = g k ∨ ∀ b, gb = some b → w.heap.size ≤ b) → p g v w → p (upd g k gb) v w')
def GFact.toFact (g : Ghost) : GFact → Fact
  | .val v => .val v
  | .any => .any
  | .gp p h1 _ => .pred (p g) (h1 g)
def factsG (L : List (Nat × GFact)) (g : Ghost) : List (Nat × Fact) := L.map fun x => (x.1, x.2.toFact g)
/-- Bytes that lie in no block that still changes. -/
def resX (l : List UInt8) (g : Ghost) (v : Value) (w : World) : Prop := ∃ A c, v = .slice A l.length c ∧ InB w w.heap.size A c l ∧ ∀ ad, A = some ad → ad.block < w.heap.size ∧ ∀ k, g k ≠ some ad.block
theorem resX_grow (l : List UInt8) : ∀ g v w w', resX l g v w → Grow w w' → resX l g v w' := by
  rintro g v w w' ⟨A, c, rfl, h, ha⟩ hg
  exact ⟨A, c, rfl, (h.below hg).more hg.size, fun ad e => ⟨Nat.lt_of_lt_of_le (ha ad e).1 hg.size, (ha ad e).2⟩⟩
theorem resX_stage (l : List UInt8) : ∀ g k gb v w w', Lt g w → w.grownBy w' (g k) → (gb = g k ∨ ∀ b, gb = some b → w.heap.size ≤ b) → resX l g v w → resX l (upd g k gb) v w' := by
  rintro g k gb v w w' hlt hg hb ⟨A, c, rfl, h, ha⟩
  refine ⟨A, c, rfl, ⟨h.le, h.max, h.nil, fun h0 => ?_⟩, fun ad e => ⟨Nat.lt_of_lt_of_le (ha ad e).1 hg.size, fun j => ?_⟩⟩
  · obtain ⟨b, o, hA, hb', hc⟩ := h.lies h0
    refine ⟨b, o, hA, Nat.lt_of_lt_of_le hb' hg.size, fun j hj => ?_⟩
    rw [← hc j hj]
    exact World.cell?_of_block (hg.block b hb' (fun e => (ha _ hA).2 k e.symm))
  · unfold upd
    split
    · rcases hb with rfl | hb
      · exact (ha ad e).2 k
      · intro e2
        have h3 := hb _ e2
        have := (ha ad e).1
        omega
    · exact (ha ad e).2 j
abbrev GFact.res (l : List UInt8) : GFact := .gp (resX l) (resX_grow l) (resX_stage l)
theorem Lt.grow {g : Ghost} {w w' : World} (h : Lt g w) (hg : Grow w w') : Lt g w' := fun k b hb => Nat.lt_of_lt_of_le (h k b hb) hg.size

/-- A row of bytes, as a stage. -/
def rowSt (i : Option Nat) (s : Src) (B : Nat) (l : List UInt8) : Stage :=
  ⟨i, s, fun v w => OwnB w B v l, Value.ownBlock, fun v w w' h hb => by
    refine ⟨h.1, ?_⟩
    rcases h.2 with h | ⟨g, cap, cur, h1, h2, h3, h4⟩
    · exact .inl h
    · exact .inr ⟨g, cap, cur, h1, h2, (hb g (by rw [h1]; rfl)).trans h3, h4⟩, fun v w k h hk => (World.ownsRow.lt h k hk).2⟩
/-- A variable's block. -/
def ptrBlock : Value → Option Nat
  | .pointer (some a) => some a.block
  | _ => none
def varSt (i : Option Nat) (s : Src) (T : TypeId) (cs : Array Value) : Stage :=
  ⟨i, s, fun v w => ∃ b, v = .pointer (some ⟨b, 0, none⟩) ∧ BlkIs w b T cs, ptrBlock, fun v w w' h hb => by
    obtain ⟨b, rfl, h⟩ := h
    exact ⟨b, rfl, (hb b rfl).trans h⟩, fun v w k h hk => by
    obtain ⟨b, rfl, h⟩ := h
    injection hk with hk
    subst hk
    exact h.lt⟩
section rules
variable {ops : Array Oper} {a0 : Act} {GL : List (Nat × GFact)} {B : Nat} {w00 : World} {cs : List (List Stage)} {i : Nat} {o : Oper} {P : Program}
abbrev FSG (GL : List (Nat × GFact)) : Ghost → Tmp → Value → World → Prop := fun g => FSof (factsG GL g)
/-- What stands at a region's beginning where every chain begins in it. -/
theorem WC.start {w : World} (hcs : (cs.all fun c => c.all fun x => x.i.isSome) = true) (hB : Below B w00 w) (hb : B ≤ w.heap.size) (n : Nat) (a : Act) : WC B w00 cs (fun _ => none) (Array.replicate n false) a w := by
  refine ⟨hB, hb, ?_, fun _ _ => rfl, fun _ _ _ _ h => by (cases h), fun _ _ h => by cases h⟩
  intro k c hc
  have : current (Array.replicate n false) c = none := by
    rw [List.all_eq_true] at hcs
    have h1 := hcs c (List.mem_of_getElem? hc)
    clear hc
    induction c with
    | nil => rfl
    | cons x r ih =>
      simp only [List.all_cons, Bool.and_eq_true] at h1
      have hx : x.done (Array.replicate n false) = false := by
        unfold Stage.done
        cases hxi : x.i with
        | none => rw [hxi] at h1; cases h1.1
        | some j => simp [Array.getD]
      simp only [current, hx]
      exact ih h1.2
  rw [this]
  rfl
end rules
end Reg
end Go.Proofs.Ytlelckdcmlpmdaa
/- A region whose last operations wait for all ahead of them: facts for the others, then a plain list. -/
namespace Go.Proofs.Ytlelckdcmlpmdaa
open Go Go.RowKit Lou
namespace Reg
variable {P : Program} {ops : Array Oper}

/-- From m on, each operation waits for all ahead of it. -/
def tailOk (ops : Array Oper) (m : Nat) : Bool := (List.range ops.size).all fun i => decide (i < m) || (List.range i).all fun j => edge ops i j
/-- One operation, in whatever order, for one post. -/
def StepQ (P : Program) (ops : Array Oper) (Q : Exit → Act → World → Prop) (Inv : Array Bool → Act → World → Prop) (i : Nat) (o : Oper) : Prop :=
  ∀ (listed : Array Bool) (a : Act) (w : World) (K : Act → World → Prop), listed.size = ops.size → listed.getD i true = false → (∀ e ∈ o.after.toList, Region.binds .any e = true → listed.getD e.on false = true) →
    Inv listed a w → (∀ a' w', Inv (listed.setIfInBounds i true) a' w' → K a' w') →
    (if Region.wanted o (yielded ops a.tmps) then o.wp P a w K Q ∨ (o.asks P a w ∧ LetsOut Q) else K (a.put o.dst undef) w)
/-- What is left of a list of operations, one behind the other. -/
def Rest (P : Program) (ops : Array Oper) (Q : Exit → Act → World → Prop) (i : Nat) (a : Act) (w : World) : Prop := wpList P ops Q (ops.toList.drop i) a w

end Reg
end Go.Proofs.Ytlelckdcmlpmdaa
/- frame.front. -/
namespace Go.Proofs.Ytlelckdcmlpmdaa
open Go Go.RowKit Lou
namespace Reg
variable {L : List (Nat × Fact)} {ops : Array Oper} {w0 : World} {o : Oper}
/-- A flag's function. -/
def FlagFn (f : Bool) (v : Value) (w : World) : Prop := ∃ g, v = .func (.func 207) #[] #[.pointer (some ⟨g, 0, none⟩)] ∧ BlkIs w g 5 #[.int .u8 (((if f then 1 else 0 : UInt8)).toNat : Int)]
end Reg
end Go.Proofs.Ytlelckdcmlpmdaa
/- frame.Encode. -/
namespace Go.Proofs.Ytlelckdcmlpmdaa
open Go Go.RowKit Lou

def fEnc (e : Nat) (i p : Int) (f : Bool) (z : Int) (n : Nat) (y : List UInt8) : List UInt8 := if frOk y.length i p f z then frameB (partB e i.toNat p.toNat f z.toNat n) y else []
def fErr (i p : Int) (f : Bool) (z : Int) (y : List UInt8) : Int := if frOk y.length i p f z then 0 else 2
end Go.Proofs.Ytlelckdcmlpmdaa
/- frame: the reader's take and number. -/
namespace Go.Proofs.Ytlelckdcmlpmdaa
open Go Go.RowKit Lou

/-- A reader stands at bytes l. -/
structure RdrAt (w : World) (g : Nat) (A : Option Addr) (c : Nat) (l : List UInt8) : Prop where
  blk : BlkIs w g 242 #[.slice A l.length c]
  inb : InB w g A c l
theorem RdrAt.below {w w' : World} {g : Nat} {A : Option Addr} {c : Nat} {l : List UInt8} (h : RdrAt w g A c l) (hB : Below w.heap.size w w') : RdrAt w' g A c l :=
  ⟨h.blk.below hB h.blk.lt, h.inb.below (hB.mono (Nat.le_of_lt h.blk.lt))⟩
/-- What DecodeHead tells of bytes. -/
def decHV (l : List UInt8) : Value := if isHead l then .tuple #[.agg #[.int .u64 (hdS l : Int), .int .u64 (hdE l : Int), .int .i64 (hdZ l : Int), .int .i64 (hdC l : Int)], .int .i64 0] else .tuple #[.agg #[.int .u64 0, .int .u64 0, .int .i64 0, .int .i64 0], .int .i64 150]
end Go.Proofs.Ytlelckdcmlpmdaa
/- loupelaw03.OctetHolds: the walk. -/
namespace Go.Proofs.Ytlelckdcmlpmdaa
open Go Go.RowKit Lou

theorem str_toList (l : List UInt8) : (str l).toList = l := by
  have : (str l).toList = (str l).data.toList := by rw [ByteArray.toList_eq]
  rw [this, str_data]

end Go.Proofs.Ytlelckdcmlpmdaa
/- louperef05.DecodeHead. -/
namespace Go.Proofs.Ytlelckdcmlpmdaa
open Go Go.RowKit Lou

end Go.Proofs.Ytlelckdcmlpmdaa
/- frame.Decode, of so many bytes as a frame has. -/
namespace Go.Proofs.Ytlelckdcmlpmdaa
open Go Go.RowKit Lou

theorem run_eq_nil {P : Program} (w : World) (t e : TypeId) (A : Option Addr) (n c : Nat) (ht : P.underlying t = some (.slice e)) : (binOp .eql t (.slice A n c) (.slice none 0 0)).run P w = .ok (.bool A.isNone) w := by
  have e1 : binOp .eql t (.slice A n c) (.slice none 0 0) = (do pure (.bool (← Op.equalIn (9999 + 1) t (.slice A n c) (.slice none 0 0)))) := rfl
  have h : (Op.equalIn (9999 + 1) t (.slice A n c) (.slice none 0 0)).run P w = .ok A.isNone w := by
    unfold Op.equalIn
    cases A <;> simp [run_underlying ht]
  rw [e1]
  simp only [Sem.run_bind, h, Result.andThen, Sem.run_pure]
/-- What a frame's bytes are read as. -/
def fdE (b : List UInt8) : Nat := rfix (b.take 8)
def fdI (b : List UInt8) : Nat := rfix ((b.drop 8).take 4)
def fdP (b : List UInt8) : Nat := rfix ((b.drop 12).take 4)
def fdF (b : List UInt8) : Bool := b.getD 16 0 == 1
def fdZ (b : List UInt8) : Nat := rfix ((b.drop 17).take 4)
def fdL (b : List UInt8) : Nat := rfix ((b.drop 21).take 4)
def isFrame (b : List UInt8) : Bool := decide (b.length = 576) && (frOk 512 (fdI b) (fdP b) (fdF b) (fdZ b) && (sectB (partB (fdE b) (fdI b) (fdP b) (fdF b) (fdZ b) (fdL b)) (b.drop 64) == b.take 64))
def zeroFr : Array Value := #[.int .u64 0, .int .i64 0, .int .i64 0, .bool false, .int .i64 0, .int .u32 0, .slice none 0 0]
/-- What Decode gives of bytes. -/
def GivesFr (w0 : World) (l : List UInt8) (x : Ending) (w' : World) : Prop :=
  Below w0.heap.size w0 w' ∧ if isFrame l then ∃ A k, x = .returned (.tuple #[.agg (frCells (fdE l) (fdI l) (fdP l) (fdF l) (fdZ l) (fdL l) A 512 k), .int .i64 0]) ∧ InB w' w'.heap.size A k (l.drop 64) else x = .returned (.tuple #[.agg zeroFr, .int .i64 150])
end Go.Proofs.Ytlelckdcmlpmdaa
namespace Go.Proofs.Ytlelckdcmlpmdaa
open Go Go.RowKit Lou

theorem RdrAt.other {w : World} {g g' B : Nat} {A : Option Addr} {c : Nat} {l : List UInt8} (h : RdrAt w g A c l) (hin : InB w B A c l) (hB : B ≤ g') (hg : g' < g) (j : Nat) (u : Value) : RdrAt (w.setCell ⟨g', j, none⟩ u) g A c l :=
  ⟨h.blk.other (by simp; omega) u, (hin.keep fun p hp => World.cell?_setCell_other w _ _ _ (fun e => by subst e; simp at hp; omega)).more (by omega)⟩
namespace Reg
variable {L : List (Nat × Fact)} {ops : Array Oper} {w0 : World} {o : Oper} {P : Program}
end Reg
theorem setCell_grownBy (w : World) (p : Addr) (u : Value) : w.grownBy (w.setCell p u) (some p.block) := ⟨rfl, rfl, rfl, by simp, fun k _ hk => Below.heap_setCell w p u k (fun e => hk (by rw [e]))⟩
theorem OwnB.apart {w w' : World} {base : Nat} {v : Value} {l : List UInt8} (h : OwnB w base v l) {r : Nat} (hg : w.grownBy w' (some r)) (hr : r < base) : OwnB w' base v l :=
  World.ownsRow.kept h hg (by
    cases hb : v.ownBlock with
    | none => exact .inl rfl
    | some b => exact .inr (fun e => by injection e with e; have := h.ownGe b hb; omega))
end Go.Proofs.Ytlelckdcmlpmdaa
/- Maps from ints to sectors, in a block: written, read, struck. -/
namespace Go.Proofs.Ytlelckdcmlpmdaa
open Go Go.RowKit Lou

def zer64 : List UInt8 := List.replicate 64 0
@[reducible] def secV (l : List UInt8) : Value := .agg (l.map b8).toArray
/-- The entries tell f. -/
structure Ents (es : Array MapEntry) (f : Nat → Option (List UInt8)) : Prop where
  keys : ∀ (i : Nat) e, es[i]? = some e → ∃ k l, f k = some l ∧ e.key = .int .i64 (k : Int) ∧ e.val = secV l
  all : ∀ k l, f k = some l → ∃ (i : Nat) (e : MapEntry), es[i]? = some e ∧ e.key = .int .i64 (k : Int) ∧ e.val = secV l
  inj : ∀ (i j : Nat) e e', es[i]? = some e → es[j]? = some e' → e.key = e'.key → i = j
theorem Ents.empty : Ents #[] (fun _ => none) := ⟨fun i e h => by simp at h, fun k l h => by simp at h, fun i j e e' h => by simp at h⟩
theorem key_inj {k m : Nat} (h : Value.int .i64 (k : Int) = .int .i64 (m : Int)) : k = m := by injection h with _ h; omega
def fset (f : Nat → Option (List UInt8)) (k : Nat) (x : Option (List UInt8)) : Nat → Option (List UInt8) := fun m => if m = k then x else f m
section
variable {es : Array MapEntry} {f : Nat → Option (List UInt8)}
theorem Ents.find (h : Ents es f) (k : Nat) : (Instr.findNow (.int .i64) (.int .i64 (k : Int)) es.toList 0 = some none ∧ f k = none) ∨
    ∃ j e l, Instr.findNow (.int .i64) (.int .i64 (k : Int)) es.toList 0 = some (some (j, e.val)) ∧ es[j]? = some e ∧ e.key = .int .i64 (k : Int) ∧ f k = some l ∧ e.val = secV l := by
  have hk : MapKept.IsKey (.int .i64) (.int .i64 (k : Int)) := rfl
  have hall : ∀ x ∈ es.toList, MapKept.IsKey (.int .i64) x.key := by
    intro x hx
    obtain ⟨i, hi, rfl⟩ := List.getElem_of_mem hx
    obtain ⟨k', l, _, h2, _⟩ := h.keys i es.toList[i] (by rw [← Array.getElem?_toList]; exact List.getElem?_eq_getElem hi)
    rw [h2]
    rfl
  rcases MapKept.findNow_spec hk es.toList 0 hall with ⟨h1, h2⟩ | ⟨j, e, h1, h2, h3⟩
  · left
    refine ⟨h1, ?_⟩
    cases hf : f k with
    | none => rfl
    | some l =>
      obtain ⟨i, e, h4, h5, _⟩ := h.all k l hf
      exact absurd h5 (h2 e (Array.mem_toList_iff.2 (Array.mem_of_getElem? h4)))
  · right
    have h4 : es[j]? = some e := by rw [← Array.getElem?_toList]; exact h2
    obtain ⟨k', l, h5, h6, h7⟩ := h.keys j e h4
    have : k' = k := key_inj (h6.symm.trans h3)
    subst this
    exact ⟨j, e, l, by simpa using h1, h4, h3, h5, h7⟩
theorem Ents.push (h : Ents es f) {k : Nat} (hk : f k = none) (l : List UInt8) (born : Nat) : Ents (es.push { key := .int .i64 (k : Int), val := secV l, born := born }) (fset f k (some l)) := by
  refine ⟨fun i e he => ?_, fun m l' hm => ?_, fun i j e e' hi hj hkey => ?_⟩
  · rw [Array.getElem?_push] at he
    split at he
    · injection he with he
      subst he
      exact ⟨k, l, by simp [fset], rfl, rfl⟩
    · obtain ⟨m, l', h1, h2, h3⟩ := h.keys i e he
      refine ⟨m, l', ?_, h2, h3⟩
      have : m ≠ k := fun e => by subst e; rw [hk] at h1; cases h1
      simp [fset, this, h1]
  · by_cases e : m = k
    · subst e
      simp [fset] at hm
      subst hm
      exact ⟨es.size, { key := .int .i64 (m : Int), val := secV l, born := born }, by simp, rfl, rfl⟩
    · simp only [fset, if_neg e] at hm
      obtain ⟨i, e', h1, h2, h3⟩ := h.all m l' hm
      refine ⟨i, e', ?_, h2, h3⟩
      have := (Array.getElem?_eq_some_iff.1 h1).1
      rw [Array.getElem?_push, if_neg (by omega)]
      exact h1
  · rw [Array.getElem?_push] at hi hj
    have hno : ∀ (q : Nat) (e : MapEntry), es[q]? = some e → e.key ≠ .int .i64 (k : Int) := fun q e he hq => by
      obtain ⟨m, l', h1, h2, _⟩ := h.keys q e he
      have := key_inj (h2.symm.trans hq)
      subst this
      rw [hk] at h1
      cases h1
    split at hi
    · split at hj
      · omega
      · injection hi with hi
        subst hi
        exact absurd hkey.symm (hno j e' hj)
    · split at hj
      · injection hj with hj
        subst hj
        exact absurd hkey (hno i e hi)
      · exact h.inj i j e e' hi hj hkey
theorem Ents.modify (h : Ents es f) {k i : Nat} {e : MapEntry} (he : es[i]? = some e) (hek : e.key = .int .i64 (k : Int)) (l : List UInt8) : Ents (es.modify i fun e => { e with key := .int .i64 (k : Int), val := secV l }) (fset f k (some l)) := by
  have hget : ∀ j, (es.modify i fun e => { e with key := .int .i64 (k : Int), val := secV l })[j]? = if i = j then some { e with key := .int .i64 (k : Int), val := secV l } else es[j]? := fun j => by
    rw [Array.getElem?_modify]
    split
    · rename_i hij
      subst hij
      rw [he]
      rfl
    · rfl
  refine ⟨fun j e' hj => ?_, fun m l' hm => ?_, fun a b e1 e2 ha hb hkey => ?_⟩
  · rw [hget] at hj
    split at hj
    · injection hj with hj
      subst hj
      exact ⟨k, l, by simp [fset], rfl, rfl⟩
    · rename_i hij
      obtain ⟨m, l', h1, h2, h3⟩ := h.keys j e' hj
      refine ⟨m, l', ?_, h2, h3⟩
      have : m ≠ k := fun q => by
        subst q
        exact hij (h.inj i j e e' he hj (by rw [hek, h2]))
      simp [fset, this, h1]
  · by_cases q : m = k
    · subst q
      simp [fset] at hm
      subst hm
      exact ⟨i, _, by rw [hget, if_pos rfl], rfl, rfl⟩
    · simp only [fset, if_neg q] at hm
      obtain ⟨j, e', h1, h2, h3⟩ := h.all m l' hm
      have hij : i ≠ j := fun hij => by
        subst hij
        rw [he] at h1
        injection h1 with h1
        subst h1
        exact q (key_inj (h2.symm.trans hek))
      exact ⟨j, e', by rw [hget, if_neg hij]; exact h1, h2, h3⟩
  · have hk1 : ∀ (a : Nat) (e1 : MapEntry), (es.modify i fun e => { e with key := .int .i64 (k : Int), val := secV l })[a]? = some e1 → ∃ e0 : MapEntry, es[a]? = some e0 ∧ e0.key = e1.key := fun a e1 ha => by
      rw [hget] at ha
      split at ha
      · rename_i hia
        subst hia
        injection ha with ha
        subst ha
        exact ⟨e, he, hek⟩
      · exact ⟨e1, ha, rfl⟩
    obtain ⟨x, hx, hxk⟩ := hk1 a e1 ha
    obtain ⟨y, hy, hyk⟩ := hk1 b e2 hb
    exact h.inj a b x y hx hy (by rw [hxk, hyk, hkey])
theorem Ents.erase (h : Ents es f) {k i : Nat} {e : MapEntry} (he : es[i]? = some e) (hek : e.key = .int .i64 (k : Int)) : Ents (es.eraseIdxIfInBounds i) (fset f k none) := by
  have hi := (Array.getElem?_eq_some_iff.1 he).1
  have hget : ∀ j, (es.eraseIdxIfInBounds i)[j]? = if j < i then es[j]? else es[j + 1]? := fun j => by
    unfold Array.eraseIdxIfInBounds
    rw [dif_pos hi]
    rw [← Array.getElem?_toList, Array.toList_eraseIdx, List.getElem?_eraseIdx]
    split <;> rw [Array.getElem?_toList]
  have back : ∀ j e', (es.eraseIdxIfInBounds i)[j]? = some e' → ∃ j', j' ≠ i ∧ es[j']? = some e' ∧ (j < i → j' = j) ∧ (¬ j < i → j' = j + 1) := fun j e' hj => by
    rw [hget] at hj
    split at hj
    · exact ⟨j, by omega, hj, fun _ => rfl, fun h => by omega⟩
    · exact ⟨j + 1, by omega, hj, fun h => by omega, fun _ => rfl⟩
  refine ⟨fun j e' hj => ?_, fun m l' hm => ?_, fun a b e1 e2 ha hb hkey => ?_⟩
  · obtain ⟨j', hne, hj', _⟩ := back j e' hj
    obtain ⟨m, l', h1, h2, h3⟩ := h.keys j' e' hj'
    refine ⟨m, l', ?_, h2, h3⟩
    have : m ≠ k := fun q => by
      subst q
      exact hne (h.inj j' i e' e hj' he (by rw [hek, h2]))
    simp [fset, this, h1]
  · by_cases q : m = k
    · subst q
      simp [fset] at hm
    · simp only [fset, if_neg q] at hm
      obtain ⟨j, e', h1, h2, h3⟩ := h.all m l' hm
      have hij : j ≠ i := fun hij => by
        subst hij
        rw [he] at h1
        injection h1 with h1
        subst h1
        exact q (key_inj (h2.symm.trans hek))
      by_cases hlt : j < i
      · exact ⟨j, e', by rw [hget, if_pos hlt]; exact h1, h2, h3⟩
      · exact ⟨j - 1, e', by rw [hget, if_neg (by omega), show j - 1 + 1 = j by omega]; exact h1, h2, h3⟩
  · obtain ⟨a', _, ha', p1, p2⟩ := back a e1 ha
    obtain ⟨b', _, hb', q1, q2⟩ := back b e2 hb
    have := h.inj a' b' e1 e2 ha' hb' hkey
    by_cases c1 : a < i <;> by_cases c2 : b < i
    · have := p1 c1; have := q1 c2; omega
    · have := p1 c1; have := q2 c2; omega
    · have := p2 c1; have := q1 c2; omega
    · have := p2 c1; have := q2 c2; omega
end
/-- What a map of sectors that are not noughts tells. -/
def spar (g : Nat → List UInt8) : Nat → Option (List UInt8) := fun k => if g k = zer64 then none else some (g k)
structure MapF (w : World) (r : Nat) (g : Nat → List UInt8) : Prop where
  len : ∀ k, (g k).length = 64
  lies : ∃ es clock, MapIs w r es clock ∧ Ents es (spar g) ∧ MapKept.Stamped es clock
def gset (g : Nat → List UInt8) (k : Nat) (l : List UInt8) : Nat → List UInt8 := fun m => if m = k then l else g m
theorem MapF.lt {w : World} {r : Nat} {g : Nat → List UInt8} (h : MapF w r g) : r < w.heap.size := by obtain ⟨es, c, hm, _⟩ := h.lies; exact hm.lt
theorem MapF.keep {w w' : World} {r : Nat} {g : Nat → List UInt8} (h : MapF w r g) (hk : w'.heap[r]? = w.heap[r]?) : MapF w' r g := by
  obtain ⟨es, c, hm, he⟩ := h.lies
  exact ⟨h.len, es, c, hk.trans hm, he⟩
theorem MapF.below {w w' : World} {B r : Nat} {g : Nat → List UInt8} (h : MapF w r g) (hB : Below B w w') (hr : r < B) : MapF w' r g := h.keep (hB.block r hr)
theorem MapF.grow {w w' : World} {r : Nat} {g : Nat → List UInt8} (h : MapF w r g) (hB : Below w.heap.size w w') : MapF w' r g := h.below hB h.lt
theorem MapF.setCell {w : World} {r : Nat} {g : Nat → List UInt8} (h : MapF w r g) (p : Addr) (v : Value) : MapF (w.setCell p v) r g := by
  by_cases hp : p.block = r
  · obtain ⟨es, c, hm, he⟩ := h.lies
    refine ⟨h.len, es, c, ?_, he⟩
    have hm' : w.heap[r]? = some (.map es c) := hm
    subst hp
    unfold MapIs World.setCell
    simp [Array.getElem?_modify, hm']
  · exact h.keep (Below.heap_setCell w p v r (fun e => hp e.symm))
end Go.Proofs.Ytlelckdcmlpmdaa
/- disk: put, maps.Clone of sectors, what a map tells of a key. -/
namespace Go.Proofs.Ytlelckdcmlpmdaa
open Go Go.RowKit Lou

theorem rowDSec : RowTy Try.prog 162 64 := ⟨⟨_, Try.underlying162, rfl⟩, by kernel_rfl⟩
section
variable {P : Program} {w w' : World} {ops : Array Oper} {rest : List Oper} {o : Oper} {a : Act} {Q : Exit → Act → World → Prop}
/-- An operation whose run is known. -/
theorem wp_exec {v : Value} (hg : o.guard = none) (hr : (execOp a.eval o).run P w = .ok (.value v) w') (h : wpList P ops Q rest (a.put o.dst v) w') : wpList P ops Q (o :: rest) a w :=
  wpList_plain hg fun _ hK => by
    unfold Oper.wp
    rw [hr]
    exact hK _ _ h
theorem wp_execS (hg : o.guard = none) (hr : (execOp a.eval o).run P w = .ok .skip w') (h : wpList P ops Q rest (a.put o.dst undef) w') : wpList P ops Q (o :: rest) a w :=
  wpList_plain hg fun _ hK => by
    unfold Oper.wp
    rw [hr]
    exact hK _ _ h
theorem wp_execG {v : Value} (hw : Region.wanted o (yielded ops a.tmps) = true) (hr : (execOp a.eval o).run P w = .ok (.value v) w') (h : wpList P ops Q rest (a.put o.dst v) w') : wpList P ops Q (o :: rest) a w :=
  wpList_step fun _ hK => by
    rw [if_pos hw]
    unfold Oper.wp
    rw [hr]
    exact hK _ _ h
end
section
variable {ρ : Operand → Value} {w : World} {o : Oper} {x y z : Operand}
theorem x_eqSec {xs ys : List UInt8} (hx1 : xs.length = 64) (hy1 : ys.length = 64) {T : TypeId} (ho : o.op = .binOp .eql 162 x y T) (h1 : ρ x = secV xs) (h2 : ρ y = secV ys) : (execOp ρ o).run Try.prog w = .ok (.value (.bool (xs == ys))) w := by
  unfold secV at h1 h2
  have hr : (binOp .eql 162 (.agg (xs.map b8).toArray) (.agg (ys.map b8).toArray)).run Try.prog w = .ok (.bool (xs == ys)) w :=
    run_eql_bytes w 162 5 64 Try.underlying162 Try.underlying5 (fun w => by simp [go_sem]) xs ys hx1 hy1
  have hm : Try.prog.eqGuardType Try.prog.depth 162 = false := by kernel_rfl
  simp only [execOp, ho, h1, h2, Sem.run_bind, run_eqGuard_agg w .eql 162 x y _ _ hm, Result.andThen_ok, hr, Sem.run_pure]
set_option maxRecDepth 100000 in
theorem x_zeroSec (ho : o.op = .build 162 #[]) : (execOp ρ o).run Try.prog w = .ok (.value (secV zer64)) w := by
  simp [execOp, ho, go_sem, Result.andThen]
  kernel_rfl
section
variable {r k clock : Nat} {es : Array MapEntry} {f : Nat → Option (List UInt8)} {l : List UInt8}
theorem stampedSet {w : Value} (hst : MapKept.Stamped es clock) {j : Nat} {e : MapEntry} (hj : es[j]? = some e) (hek : e.key = w) (v : Value) : MapKept.Stamped (es.modify j fun e => { e with key := w, val := v }) clock :=
  MapKept.stamped_modify hst j (fun e => { e with key := w, val := v }) (fun e _ => rfl) (fun e' _ he' => by rw [hj] at he'; injection he' with he'; subst he'; exact hek.symm)
theorem x_put (he : Ents es f) (hst : MapKept.Stamped es clock) (hm : MapIs w r es clock) (ho : o.op = .mapUpdate 151 x y z) (h1 : ρ x = .map (some r)) (h2 : ρ y = .int .i64 (k : Int)) (h3 : ρ z = secV l) :
    ∃ es' clock', (execOp ρ o).run Try.prog w = .ok .skip (setMap w r es' clock') ∧ Ents es' (fset f k (some l)) ∧ MapKept.Stamped es' clock' := by
  have hk : MapKept.IsKey (.int .i64) (.int .i64 (k : Int)) := rfl
  have hc : (Instr.checkKey false 10000 3 (.int .i64 (k : Int))).run Try.prog w = .ok () w := MapKept.run_checkKey Try.underlying3 hk false 9999
  have hm' : w.heap[r]? = some (.map es clock) := hm
  rcases he.find k with ⟨hf, hn⟩ | ⟨j, e, l0, hf, hj, hek, _, _⟩
  · refine ⟨_, clock + 1, ?_, he.push hn l clock, MapKept.stamped_push hst fun x hx heq => by
      obtain ⟨i, hi, rfl⟩ := List.getElem_of_mem hx
      obtain ⟨m, l', h1, h2, _⟩ := he.keys i es.toList[i] (by rw [← Array.getElem?_toList]; exact List.getElem?_eq_getElem hi)
      have := key_inj (h2.symm.trans heq)
      subst this
      rw [hn] at h1
      cases h1⟩
    simp [execOp, ho, h1, h2, h3, Instr.mapUpdate, run_underlying Try.underlying151, MapKept.run_getObj_map hm', hc, MapKept.run_findKey Try.underlying3 hf, MapKept.run_setObj_map _ hm', Result.andThen, setMap]
  · refine ⟨_, clock, ?_, he.modify hj hek l, stampedSet hst hj hek (secV l)⟩
    have hkey : (((es[j]?).map (·.key)).getD (.int .i64 (k : Int))) = .int .i64 (k : Int) := by rw [hj]; exact hek
    simp [execOp, ho, h1, h2, h3, Instr.mapUpdate, run_underlying Try.underlying151, MapKept.run_getObj_map hm', hc, MapKept.run_findKey Try.underlying3 hf, hkey, hj, hek, MapKept.run_keyThatStays hk, MapKept.run_setObj_map _ hm', Result.andThen, setMap]
theorem x_del (he : Ents es f) (hst : MapKept.Stamped es clock) (hm : MapIs w r es clock) (ho : o.op = .call { callee := .builtin .delete, args := #[x, y], argTypes := #[151, 3] }) (h1 : ρ x = .map (some r)) (h2 : ρ y = .int .i64 (k : Int)) :
    ∃ es', (execOp ρ o).run Try.prog w = .ok (.value (.tuple #[])) (setMap w r es' clock) ∧ Ents es' (fset f k none) ∧ MapKept.Stamped es' clock := by
  have hk : MapKept.IsKey (.int .i64) (.int .i64 (k : Int)) := rfl
  have hc : (Instr.checkKey es.isEmpty 10000 3 (.int .i64 (k : Int))).run Try.prog w = .ok () w := MapKept.run_checkKey Try.underlying3 hk _ 9999
  have hm' : w.heap[r]? = some (.map es clock) := hm
  rcases he.find k with ⟨hf, hn⟩ | ⟨j, e, l0, hf, hj, hek, _, _⟩
  · refine ⟨es, ?_, ?_⟩
    · simp [execOp, ho, h1, h2, resolve, invoke, builtin, Builtin.delete_, run_underlying Try.underlying151, MapKept.run_getObj_map hm', hc, MapKept.run_findKey Try.underlying3 hf, MapKept.run_setObj_map _ hm', Result.andThen, setMap]
    · have : fset f k none = f := by
        funext m
        unfold fset
        split
        · rename_i e
          rw [e, hn]
        · rfl
      rw [this]
      exact ⟨he, hst⟩
  · refine ⟨_, ?_, he.erase hj hek, MapKept.stamped_erase hst j⟩
    simp [execOp, ho, h1, h2, resolve, invoke, builtin, Builtin.delete_, run_underlying Try.underlying151, MapKept.run_getObj_map hm', hc, MapKept.run_findKey Try.underlying3 hf, MapKept.run_setObj_map _ hm', Result.andThen, setMap]
set_option maxRecDepth 100000 in
theorem x_lookup {g : Nat → List UInt8} (h : MapF w r g) (ho : o.op = .lookup 151 x y false) (h1 : ρ x = .map (some r)) (h2 : ρ y = .int .i64 (k : Int)) : (execOp ρ o).run Try.prog w = .ok (.value (secV (g k))) w := by
  obtain ⟨es, clock, hm, he, _⟩ := h.lies
  have hk : MapKept.IsKey (.int .i64) (.int .i64 (k : Int)) := rfl
  have hc : (Instr.checkKey es.isEmpty 10000 3 (.int .i64 (k : Int))).run Try.prog w = .ok () w := MapKept.run_checkKey Try.underlying3 hk _ 9999
  have hm' : w.heap[r]? = some (.map es clock) := hm
  rcases he.find k with ⟨hf, hn⟩ | ⟨j, e, l0, hf, hj, hek, hfk, hv⟩
  · have hz : g k = zer64 := by
      unfold spar at hn
      split at hn
      · assumption
      · cases hn
    rw [hz]
    have zv : (zeroValue 162).run Try.prog w = .ok (secV zer64) w := by
      simp [go_sem, Result.andThen]
      kernel_rfl
    simp [execOp, ho, h1, h2, Instr.lookup, run_underlying Try.underlying151, MapKept.run_getObj_map hm', hc, MapKept.run_findKey Try.underlying3 hf, zv, Result.andThen]
  · have hg : l0 = g k := by
      unfold spar at hfk
      split at hfk
      · cases hfk
      · injection hfk with hfk
        exact hfk.symm
    subst hg
    rw [← hv]
    simp [execOp, ho, h1, h2, Instr.lookup, run_underlying Try.underlying151, MapKept.run_getObj_map hm', hc, MapKept.run_findKey Try.underlying3 hf, Result.andThen]
end
end
section
variable {w : World} {ops : Array Oper} {rest : List Oper} {o : Oper} {a : Act} {Q : Exit → Act → World → Prop} {r k clock : Nat} {es : Array MapEntry} {f : Nat → Option (List UInt8)} {l : List UInt8}
theorem wp_mput (hg : o.guard = none) (x y z : Operand) (ho : o.op = .mapUpdate 151 x y z) (h1 : a.eval x = .map (some r)) (h2 : a.eval y = .int .i64 (k : Int)) (h3 : a.eval z = secV l) (he : Ents es f) (hst : MapKept.Stamped es clock) (hm : MapIs w r es clock)
    (h : ∀ es' clock', Ents es' (fset f k (some l)) → MapKept.Stamped es' clock' → wpList Try.prog ops Q rest (a.put o.dst undef) (setMap w r es' clock')) : wpList Try.prog ops Q (o :: rest) a w := by
  obtain ⟨es', clock', hr, he', hs'⟩ := x_put he hst hm ho h1 h2 h3
  exact wp_execS hg hr (h _ _ he' hs')
theorem wp_mdel (hg : o.guard = none) (x y : Operand) (ho : o.op = .call { callee := .builtin .delete, args := #[x, y], argTypes := #[151, 3] }) (h1 : a.eval x = .map (some r)) (h2 : a.eval y = .int .i64 (k : Int)) (he : Ents es f) (hst : MapKept.Stamped es clock) (hm : MapIs w r es clock)
    (h : ∀ es', Ents es' (fset f k none) → MapKept.Stamped es' clock → wpList Try.prog ops Q rest (a.put o.dst (.tuple #[])) (setMap w r es' clock)) : wpList Try.prog ops Q (o :: rest) a w := by
  obtain ⟨es', hr, he', hs'⟩ := x_del he hst hm ho h1 h2
  exact wp_exec hg hr (h _ he' hs')
end
theorem spar_set {g : Nat → List UInt8} {k : Nat} {l : List UInt8} (h : l ≠ zer64) : fset (spar g) k (some l) = spar (gset g k l) := by
  funext m
  unfold fset spar gset
  by_cases e : m = k <;> simp [e, h]
theorem spar_del {g : Nat → List UInt8} {k : Nat} (x : Option (List UInt8)) : fset (fset (spar g) k x) k none = spar (gset g k zer64) := by
  funext m
  unfold fset spar gset
  by_cases e : m = k <;> simp [e]
section
variable {P : Program} (w : World)
theorem run_eql_map_nil (t k e : TypeId) (p : Option Nat) (h : P.underlying t = some (.map k e)) : (binOp .eql t (.map p) (.map none)).run P w = .ok (.bool p.isNone) w := by
  have e1 : binOp .eql t (.map p) (.map none) = (do pure (.bool (← Op.equalIn (9999 + 1) t (.map p) (.map none)))) := rfl
  have h1 : (Op.equalIn (9999 + 1) t (.map p) (.map none)).run P w = .ok p.isNone w := by
    unfold Op.equalIn
    cases p <;> simp [run_underlying h]
  rw [e1]
  simp only [Sem.run_bind, h1, Result.andThen, Sem.run_pure]
theorem run_typeAssert_map (t xT k e : TypeId) (v : Value) (h : P.underlying t = some (.map k e)) : (Instr.typeAssert (.iface t v) xT t false).run P w = .ok v w := by
  simp [Instr.typeAssert, run_underlying h, go_sem, Result.andThen]
theorem run_mclone {r : Nat} {es : Array MapEntry} {clock : Nat} (t : TypeId) (hb : w.heap[r]? = some (.map es clock)) :
    (Extern.MapsClone.clone #[.iface t (.map (some r))]).run P w = .ok (.iface t (.map (some w.heap.size))) (w.alloc (.map es clock)) := by
  have e : Extern.MapsClone.clone #[.iface t (.map (some r))] = (getObj r >>= fun o => match o with
      | .map entries clock => (newObj (.map entries clock) >>= fun n => pure (.iface t (.map (some n))))
      | _ => stuck "maps.clone: a map expected") := rfl
  rw [e]
  simp [MapKept.run_getObj_map hb, Result.andThen, go_sem]
end
set_option maxRecDepth 100000 in
set_option maxHeartbeats 4000000 in
theorem put_gives (w : World) (r k : Nat) (g : Nat → List UInt8) (l : List UInt8) (hl : l.length = 64) (h : MapF w r g) :
    Calls Try.prog 160 #[.map (some r), .int .i64 (k : Int), secV l] w fun e w' => (∃ v, e = .returned v) ∧ MapF w' r (gset g k l) ∧ w.grownBy w' (some r) := by
  obtain ⟨es, clock, hm, he, hst⟩ := h.lies
  have hb := BlkIs.new w 162 (l.map b8).toArray
  have hg0 : w.grownBy (w.alloc (.cells (l.map b8).toArray 162)) (some r) := ⟨rfl, rfl, rfl, by simp, fun j hj _ => Below.heap_alloc w _ j hj⟩
  have hm0 : MapIs (w.alloc (.cells (l.map b8).toArray 162)) r es clock := (Below.heap_alloc w _ r hm.lt).trans hm
  have hlen : ∀ m, (gset g k l m).length = 64 := fun m => by unfold gset; split; exact hl; exact h.len m
  have hsz : (l.map b8).toArray.size = 64 := by simp [hl]
  have hRow : RowTy Try.prog 162 (l.map b8).toArray.size := by rw [hsz]; exact rowDSec
  have HL := Lib.hid hl
  have hz : zer64.length = 64 := by decide
  clear hl hsz
  go_enter Try.func160, Try.ntmps160
  by_cases hlz : l = zer64
  · have hq : (l == zer64) = true := by simpa using hlz
    have HZ := Lib.hid hlz
    clear hlz
    go_wp2_with (first
      | (refine wp_loadW rfl 162 (.tmp 5) rfl w.heap.size rfl hRow (by with_reducible assumption) rfl ?_)
      | (refine wp_mput rfl (.tmp 6) (.tmp 7) (.tmp 8) rfl rfl rfl rfl he hst hm0 ?_; intro es1 ck1 he1 hs1; have hm1 := hm0.set es1 ck1; have hg1 := grownBy_trans hg0 (setMap_grown hm0 es1 ck1); have hb1 := hb.setMap hm0 es1 ck1)
      | (refine wp_exec rfl (x_zeroSec rfl) ?_)
      | (refine wp_exec rfl (x_eqSec HL.out hz rfl rfl rfl) ?_; rw [hq])
      | (refine wp_mdel rfl (.tmp 12) (.tmp 13) rfl rfl rfl he1 hs1 hm1 ?_; intro es2 he2 hs2; have hm2 := hm1.set es2 ck1; have hg2 := grownBy_trans hg1 (setMap_grown hm1 es2 ck1)))
    go_end0
    refine ⟨⟨_, rfl⟩, ⟨hlen, es2, ck1, hm2, ?_, hs2⟩, hg2⟩
    rw [HZ.out, ← spar_del (some l)]
    exact he2
  · have hq : (l == zer64) = false := by simpa using hlz
    have HZ := Lib.hid hlz
    clear hlz
    go_wp2_with (first
      | (refine wp_loadW rfl 162 (.tmp 5) rfl w.heap.size rfl hRow (by with_reducible assumption) rfl ?_)
      | (refine wp_mput rfl (.tmp 6) (.tmp 7) (.tmp 8) rfl rfl rfl rfl he hst hm0 ?_; intro es1 ck1 he1 hs1; have hm1 := hm0.set es1 ck1; have hg1 := grownBy_trans hg0 (setMap_grown hm0 es1 ck1); have hb1 := hb.setMap hm0 es1 ck1)
      | (refine wp_exec rfl (x_zeroSec rfl) ?_)
      | (refine wp_exec rfl (x_eqSec HL.out hz rfl rfl rfl) ?_; rw [hq]))
    go_end0
    refine ⟨⟨_, rfl⟩, ⟨hlen, es1, ck1, hm1, ?_, hs1⟩, hg1⟩
    rw [← spar_set HZ.out]
    exact he1
set_option maxRecDepth 100000 in
set_option maxHeartbeats 2000000 in
/-- maps.Clone of sectors. -/
theorem mclone_gives (w : World) (r : Nat) (g : Nat → List UInt8) (h : MapF w r g) :
    Calls Try.prog 96 #[.map (some r)] w fun e w' => e = .returned (.map (some w.heap.size)) ∧ MapF w' w.heap.size g ∧ Below w.heap.size w w' := by
  obtain ⟨es, clock, hm, he⟩ := h.lies
  have hm' : w.heap[r]? = some (.map es clock) := hm
  have hnew : MapF (w.alloc (.map es clock)) w.heap.size g := ⟨h.len, es, clock, heap_alloc_new w _, he⟩
  have hB : Below w.heap.size w (w.alloc (.map es clock)) := (Below.refl _ _).alloc (Nat.le_refl _) _
  go_enter Try.func96, Try.ntmps96
  have hq := fun W => run_eql_map_nil (P := Try.prog) W 151 _ _ (some r) Try.underlying151
  go_wp2_with fail
  rw [run_callFunc_extern Try.func161 (by kernel_rfl) (by kernel_rfl) (by kernel_rfl) (e := Extern.MapsClone.clone) (by kernel_rfl), run_mclone w 151 hm']
  simp only [Result.andThen]
  rw [Oper.upon_value]
  go_wp2
  rw [run_typeAssert_map _ 151 20 _ _ _ Try.underlying151]
  simp only [Result.andThen]
  rw [Oper.upon_value]
  go_wp2
  go_ret
  exact ⟨rfl, hnew, hB⟩
end Go.Proofs.Ytlelckdcmlpmdaa
/- Rows of loose writes. -/
namespace Go.Proofs.Ytlelckdcmlpmdaa
open Go Go.RowKit Lou
/-! ### Writes that are loose -/
def lsC (x : Nat × List UInt8) : List Value := .int .i64 (x.1 : Int) :: x.2.map b8
def flC (xs : List (Nat × List UInt8)) : List Value := (xs.map lsC).flatten
def Wide (xs : List (Nat × List UInt8)) : Prop := ∀ x ∈ xs, x.2.length = 64
theorem lsC_length {x : Nat × List UInt8} (h : x.2.length = 64) : (lsC x).length = 65 := by simp [lsC, h]
theorem flC_length {xs : List (Nat × List UInt8)} (h : Wide xs) : (flC xs).length = xs.length * 65 := by
  induction xs with
  | nil => rfl
  | cons x xs ih =>
    have h1 := ih (fun y hy => h y (by simp [hy]))
    have h2 := lsC_length (h x (by simp))
    have e : flC (x :: xs) = lsC x ++ flC xs := rfl
    rw [e, List.length_append, h1, h2, List.length_cons]
    omega
theorem flC_append (xs ys : List (Nat × List UInt8)) : flC (xs ++ ys) = flC xs ++ flC ys := by simp [flC]
theorem flC_elem {xs : List (Nat × List UInt8)} (h : Wide xs) (j : Nat) (hj : j < xs.length) : ((flC xs).drop (j * 65)).take 65 = lsC xs[j] := by
  have e : flC xs = flC (xs.take j) ++ (lsC xs[j] ++ flC (xs.drop (j + 1))) := by
    have e2 : lsC xs[j] ++ flC (xs.drop (j + 1)) = flC (xs[j] :: xs.drop (j + 1)) := rfl
    rw [e2, ← flC_append, ← List.drop_eq_getElem_cons hj, List.take_append_drop]
  have hl : (flC (xs.take j)).length = j * 65 := by
    rw [flC_length (fun x hx => h x (List.mem_of_mem_take hx)), List.length_take]
    congr 1
    omega
  rw [e, ← hl, List.drop_left]
  have h5 := lsC_length (h xs[j] (List.getElem_mem hj))
  rw [List.take_append_of_le_length (by omega), List.take_of_length_le (by omega)]
theorem flC_take {xs : List (Nat × List UInt8)} (h : Wide xs) (k : Nat) (hk : k ≤ xs.length) : (flC xs).take (k * 65) = flC (xs.take k) := by
  have e : flC xs = flC (xs.take k) ++ flC (xs.drop k) := by rw [← flC_append, List.take_append_drop]
  have hl : (flC (xs.take k)).length = k * 65 := by
    rw [flC_length (fun x hx => h x (List.mem_of_mem_take hx)), List.length_take]
    congr 1
    omega
  rw [e, ← hl, List.take_left]
theorem lsC_one (x : Nat × List UInt8) : ∀ v ∈ lsC x, v.oneCell' = true := by
  intro v hv
  simp [lsC] at hv
  rcases hv with rfl | ⟨y, _, rfl⟩ <;> rfl
theorem flC_one (xs : List (Nat × List UInt8)) : ∀ v ∈ flC xs, v.oneCell' = true := by
  intro v hv
  unfold flC at hv
  obtain ⟨l, hl, hv⟩ := List.mem_flatten.1 hv
  obtain ⟨x, _, rfl⟩ := List.mem_map.1 hl
  exact lsC_one _ v hv
def zeroLs : Value := .agg (lsC (0, zer64)).toArray
theorem rowLoose : RowTy Try.prog 164 65 := ⟨⟨_, Try.underlying164, rfl⟩, by kernel_rfl⟩
theorem elLoose : ElT 152 164 65 72 zeroLs := ⟨Try.underlying152, by kernel_rfl, by kernel_rfl, by decide⟩
/-- Loose writes that lie in a row below B. -/
def InW (w : World) (B : Nat) (A : Option Addr) (c : Nat) (xs : List (Nat × List UInt8)) : Prop := Wide xs ∧ InG w B 65 A xs.length c (flC xs)
theorem InW.grow {w w' : World} {A : Option Addr} {c : Nat} {xs : List (Nat × List UInt8)} (h : InW w w.heap.size A c xs) (hb : Below w.heap.size w w') : InW w' w'.heap.size A c xs := ⟨h.1, h.2.grow hb⟩
theorem InW.below {w w' : World} {B : Nat} {A : Option Addr} {c : Nat} {xs : List (Nat × List UInt8)} (h : InW w B A c xs) (hb : Below B w w') : InW w' B A c xs := ⟨h.1, h.2.below hb⟩
theorem InW.more {w : World} {B B' : Nat} {A : Option Addr} {c : Nat} {xs : List (Nat × List UInt8)} (h : InW w B A c xs) (hB : B ≤ B') : InW w B' A c xs := ⟨h.1, h.2.more hB⟩
theorem InW.mt (w : World) (B : Nat) : InW w B none 0 [] := ⟨fun x h => by simp at h, InG.mt _ _ _⟩
theorem InW.elem {w : World} {B g o c : Nat} {xs : List (Nat × List UInt8)} (h : InW w B (some ⟨g, o, none⟩) c xs) (j : Nat) (hj : j < xs.length) : w.rangeAt g (o + j * 65) (lsC xs[j]) := by
  have := h.2.elem j hj
  rw [flC_elem h.1 j hj] at this
  exact this
end Go.Proofs.Ytlelckdcmlpmdaa
/- disk: a disk in memory; its smallest methods. -/
namespace Go.Proofs.Ytlelckdcmlpmdaa
open Go Go.RowKit Lou

def dkC (r : Nat) (many : Int) (A : Option Addr) (n c : Nat) (left : Int) (stops : Bool) : Array Value := #[.map (some r), .int .i64 many, .slice A n c, .int .i64 left, .bool stops]
theorem rowDisk : RowTy Try.prog 154 5 := ⟨⟨_, Try.underlying154, rfl⟩, by kernel_rfl⟩
/-- A disk lies at p. -/
structure DkIs (w : World) (p : Nat) (many : Nat) (g : Nat → List UInt8) (xs : List (Nat × List UInt8)) (left : Int) (stops : Bool) : Prop where
  has : ∃ r A c, BlkIs w p 154 (dkC r many A xs.length c left stops) ∧ MapF w r g ∧ InW w w.heap.size A c xs
theorem DkIs.lt {w : World} {p many : Nat} {g : Nat → List UInt8} {xs : List (Nat × List UInt8)} {left : Int} {stops : Bool} (h : DkIs w p many g xs left stops) : p < w.heap.size := by
  obtain ⟨r, A, c, hb, _⟩ := h.has
  exact hb.lt
theorem DkIs.grow {w w' : World} {p many : Nat} {g : Nat → List UInt8} {xs : List (Nat × List UInt8)} {left : Int} {stops : Bool} (h : DkIs w p many g xs left stops) (hB : Below w.heap.size w w') : DkIs w' p many g xs left stops := by
  obtain ⟨r, A, c, hb, hm, hx⟩ := h.has
  exact ⟨r, A, c, hb.below hB hb.lt, hm.grow hB, hx.grow hB⟩
/-- A row of loose writes lies in no block that holds a disk. -/
theorem InW.notDisk {w : World} {B q g o c : Nat} {xs : List (Nat × List UInt8)} {cs : Array Value} {T : TypeId} (h : InW w B (some ⟨g, o, none⟩) c xs) (h0 : 0 < xs.length) (hb : BlkIs w q T cs) (hs : cs.size ≤ 64) : g ≠ q := by
  intro e
  subst e
  have hr := h.elem 0 h0
  have hl := lsC_length (h.1 xs[0] (List.getElem_mem h0))
  have := hr 64 ((lsC xs[0])[64]'(by omega)) (List.getElem?_eq_getElem (by omega))
  rw [hb.cell] at this
  have h2 := (Array.getElem?_eq_some_iff.1 this).1
  omega
/-- What is done to one disk leaves another as it was. -/
theorem DkIs.other {w w' : World} {p q many : Nat} {g : Nat → List UInt8} {xs : List (Nat × List UInt8)} {left : Int} {stops : Bool} (h : DkIs w p many g xs left stops) {cs : Array Value} {T : TypeId} (hq : BlkIs w q T cs) (hs : cs.size ≤ 64) (hne : p ≠ q) (hg : w.grownBy w' (some q)) : DkIs w' p many g xs left stops := by
  obtain ⟨r, A, c, hb, hm, hw, hx⟩ := h.has
  have hrq : r ≠ q := fun e => by
    subst e
    obtain ⟨es, ck, h1, _⟩ := hm.lies
    have h2 : w.heap[r]? = some (.cells cs T (0, 0)) := hq
    have h1' : w.heap[r]? = some (.map es ck) := h1
    rw [h1'] at h2
    cases h2
  refine ⟨r, A, c, hb.grown hg (fun e => hne (by injection e)), hm.keep (hg.block r hm.lt (fun e => hrq (by injection e))), hw, ?_⟩
  refine ⟨hx.le, hx.max, hx.nil, hx.len, hx.one, fun h0 => ?_⟩
  obtain ⟨b, o, e, hbl, hr⟩ := hx.lies h0
  subst e
  have hbq : b ≠ q := InW.notDisk (w := w) (B := w.heap.size) (c := c) ⟨hw, hx⟩ h0 hq hs
  exact ⟨b, o, rfl, Nat.lt_of_lt_of_le hbl hg.size, fun j v hj => (World.cell?_of_block (hg.block b hbl (fun e => hbq (by injection e)))).trans (hr j v hj)⟩

set_option maxRecDepth 100000 in
set_option maxHeartbeats 1000000 in
theorem lclone_gives (w : World) (A : Option Addr) (c : Nat) (xs : List (Nat × List UInt8)) (h : InW w w.heap.size A c xs) (hl : xs.length ≤ 1000000) :
    Calls Try.prog 92 #[.slice A xs.length c] w fun e w' => ∃ v, e = .returned v ∧ w'.ownsRow w.heap.size 164 65 v xs.length (flC xs) ∧ Below w.heap.size w w' := by
  obtain ⟨hw, hx⟩ := h
  rcases A with _ | ad
  · have hc := hx.nil rfl
    subst hc
    have hle := hx.le
    obtain rfl : xs = [] := List.eq_nil_of_length_eq_zero (by omega)
    have hq := fun W => run_eq_nil (P := Try.prog) W 152 164 none 0 0 Try.underlying152
    go_enter Try.func92, Try.ntmps92
    go_wp2
    go_ret
    exact ⟨_, rfl, World.ownsRow_nil _ _ _ _, Below.refl _ _⟩
  · have e0 : (w.alloc (.cells #[] 164)).ownsRow w.heap.size 164 65 (.slice (some ⟨w.heap.size, 0, none⟩) 0 0) 0 [] := World.ownsRow_lit w #[] 0 (Nat.le_refl _) (by unfold maxLen; omega) rfl
    have hB0 : Below w.heap.size w (w.alloc (.cells #[] 164)) := (Below.refl _ w).alloc (Nat.le_refl _) _
    have h1 := hx.below hB0
    have hq := fun W => run_eq_nil (P := Try.prog) W 152 164 (some ad) xs.length c Try.underlying152
    go_enter Try.func92, Try.ntmps92
    go_wp2_with (at_builtin; refine wp_appG rfl elLoose (.tmp 5) (.tmp 6) rfl w.heap.size (.slice (some ⟨w.heap.size, 0, none⟩) 0 0) 0 [] rfl e0 _ (some ad) xs.length c (flC xs) rfl h1 (by unfold maxLen; omega) (by omega) (by simp) ?_; intro v1 w1 own1 hg1)
    go_ret
    rw [List.nil_append, Nat.zero_add] at own1
    exact ⟨_, rfl, own1, hB0.trans (grown_below hg1 hB0.size (ownG_ge e0))⟩

section
variable (w : World) (p many : Nat) (g : Nat → List UInt8) (xs : List (Nat × List UInt8)) (left : Int) (stops : Bool)
set_option maxRecDepth 100000 in
theorem none_gives (h : DkIs w p many g xs left stops) : Calls Try.prog 95 #[.pointer (some ⟨p, 0, none⟩)] w fun e w' => e = .returned (.bool false) ∧ w = w' := by
  obtain ⟨r, A, c, hb, hm, hx⟩ := h.has
  have c0 : w.cell? ⟨p, 0, none⟩ = some (.map (some r)) := by rw [hb.cell]; rfl
  have hq := fun W => run_eql_map_nil (P := Try.prog) W 151 _ _ (some r) Try.underlying151
  go_enter Try.func95, Try.ntmps95
  go_wp2
  go_ret
  exact ⟨rfl, rfl⟩
set_option maxRecDepth 100000 in
theorem stopped_gives (h : DkIs w p many g xs left stops) : Calls Try.prog 154 #[.pointer (some ⟨p, 0, none⟩)] w fun e w' => e = .returned (.bool (stops && left == 0)) ∧ w = w' := by
  have HN := none_gives w p many g xs left stops h
  obtain ⟨r, A, c, hb, hm, hx⟩ := h.has
  have c3 : w.cell? ⟨p, 3, none⟩ = some (.int .i64 left) := by rw [hb.cell]; rfl
  have c4 : w.cell? ⟨p, 4, none⟩ = some (.bool stops) := by rw [hb.cell]; rfl
  cases stops
  all_goals
    go_enter Try.func154, Try.ntmps154
    go_wp2_with (go_at_call 95; refine HN.mono ?_; rintro e w' ⟨rfl, rfl⟩)
    go_ret
    exact ⟨by simp, rfl⟩
set_option maxRecDepth 100000 in
theorem done_gives (h : DkIs w p many g xs left stops) (hl : -1000000 ≤ left) (hl2 : left ≤ 9223372036854775807) :
    Calls Try.prog 93 #[.pointer (some ⟨p, 0, none⟩)] w fun e w' => (∃ v, e = .returned v) ∧ DkIs w' p many g xs (if stops then left - 1 else left) stops ∧ w.grownBy w' (some p) ∧ w'.cell? ⟨p, 2, none⟩ = w.cell? ⟨p, 2, none⟩ := by
  have hDk := h
  obtain ⟨r, A, c, hb, hm, hx⟩ := h.has
  have c3 : w.cell? ⟨p, 3, none⟩ = some (.int .i64 left) := by rw [hb.cell]; rfl
  have c4 : w.cell? ⟨p, 4, none⟩ = some (.bool stops) := by rw [hb.cell]; rfl
  have f3 := hb.free 3
  have hw : IntKind.i64.wrap (left - 1) = left - 1 := wrap_i64_fr _ (by omega) (by omega)
  cases stops with
  | false =>
    go_enter Try.func93, Try.ntmps93
    go_wp2
    go_end0
    exact ⟨⟨_, rfl⟩, hDk, World.grownBy.refl _ _, rfl⟩
  | true =>
    go_enter Try.func93, Try.ntmps93
    go_wp2
    go_end0
    have hg := setCell_grownBy w ⟨p, 3, none⟩ (.int .i64 (left - 1))
    refine ⟨⟨_, rfl⟩, ⟨r, A, c, hb.set 3 _, hm.setCell _ _, hx.1, ?_⟩, hg, World.cell?_setCell_other _ _ _ _ (by simp)⟩
    refine ⟨hx.2.le, hx.2.max, hx.2.nil, hx.2.len, hx.2.one, fun h0 => ?_⟩
    obtain ⟨b, o, e, hbl, hr⟩ := hx.2.lies h0
    subst e
    have hbq : b ≠ p := InW.notDisk hx h0 hb (by simp [dkC])
    exact ⟨b, o, rfl, by simpa using hbl, fun j v hj => (World.cell?_of_block (hg.block b hbl (fun e => hbq (by injection e)))).trans (hr j v hj)⟩
end
end Go.Proofs.Ytlelckdcmlpmdaa
