/- Texts that the proof of DiskCopies leans on, part 5. -/
import Derived.Test.YtlelckdcmlpmdaaDiskCopiesB4
/- Loads, allocs, stores of whole elements in a fenced walk. -/
namespace Go.Proofs.Ytlelckdcmlpmdaa
open Go Go.RowKit Lou Go.Shelf
section
variable {F : Fence} {n : Nat} {P : Program} {w w' : World} {ops : Array Oper} {rest : List Oper} {o : Oper} {a : Act} {Q : Exit → Act → World → Prop}
theorem wpIn_loadX {v : Value} (hg : o.guard = none) (T : TypeId) (x : Operand) (hop : o.op = .load T x) (hr : (execOp a.eval o).run P w = .ok (.value v) w') (h : wpListIn F n P ops Q rest (a.put o.dst v) w') : wpListIn F n P ops Q (o :: rest) a w :=
  wpListIn_plain hg fun K' hK' => by
    unfold Oper.wpIn
    refine ⟨by simp [Oper.about, hop], ?_⟩
    rw [Oper.semAt_plain F _ _ (by rw [hop]; intro c hc'; cases hc'), hr]
    exact hK' _ _ h
theorem wpIn_allocX {v : Value} (hg : o.guard = none) (T : TypeId) (hop : o.op = .alloc T) (hr : (execOp a.eval o).run P w = .ok (.value v) w') (h : wpListIn F n P ops Q rest (a.put o.dst v) w') : wpListIn F n P ops Q (o :: rest) a w :=
  wpListIn_plain hg fun K' hK' => by
    unfold Oper.wpIn
    refine ⟨by simp [Oper.about, hop], ?_⟩
    rw [Oper.semAt_plain F _ _ (by rw [hop]; intro c hc'; cases hc'), hr]
    exact hK' _ _ h
theorem wpIn_storeX (hg : o.guard = none) (T : TypeId) (x y : Operand) (hop : o.op = .store T x y) (g : Nat) {t : TypeId} {cs cs' : Array Value} (hx : a.eval x = .pointer (some ⟨g, 0, none⟩)) (hy : a.eval y = .agg cs') {m : Nat} (hT : RowTy P T m) (hb : BlkIs w g t cs) (hn : cs.size = m)
    (hs : cs'.size = cs.size) (h1 : ∀ v ∈ cs'.toList, v.oneCell' = true) (h : wpListIn F n P ops Q rest (a.put o.dst undef) (w.setRow g cs')) : wpListIn F n P ops Q (o :: rest) a w :=
  wpListIn_plain hg fun K' hK' => by
    unfold Oper.wpIn
    refine ⟨by simp [Oper.about, hop], ?_⟩
    rw [Oper.semAt_plain F _ _ (by rw [hop]; intro c hc'; cases hc')]
    unfold execOp
    simp only [hop, hx, hy, Instr.storeAt, Instr.sureAddr, Sem.run_bind, Sem.run_pure, Result.andThen_ok, run_storeW (hn ▸ hT) hb hs h1]
    exact hK' _ _ h
end
end Go.Proofs.Ytlelckdcmlpmdaa
/- slices.Backward over loose writes. -/
namespace Go.Proofs.Ytlelckdcmlpmdaa
open Go Go.RowKit Lou Go.Shelf
attribute [local go_sem] Oper.semAt_some

/-- The k-th loose write, told from the end. -/
def backX (xs : List (Nat × List UInt8)) (k : Nat) : Nat × List UInt8 := xs.getD (xs.length - 1 - k) (0, zer64)
set_option maxRecDepth 100000 in
set_option maxHeartbeats 4000000 in
theorem back1_in (n : Nat) (hn2 : 2 ≤ n) (l Bs g o c : Nat) (xs : List (Nat × List UInt8)) (hw : Wide xs) (A : Option Addr) (hA : 0 < xs.length → A = some ⟨g, o, none⟩) (hLc : xs.length ≤ c) (hL : xs.length ≤ 1000000) (J Jx : List Nat → World → Prop) (BE : Nat)
    (hY : ∀ pre k W, J pre W → (k = pre.length ∧ k < xs.length) → YieldAt Fence.wide (n - 1) Try.prog l #[.int .i64 ((xs.length : Int) - 1 - k), .agg (lsC (backX xs k)).toArray] W fun e W' =>
      (e = .returned (.bool true) ∧ J (pre ++ [k]) W' ∧ KeepOut (fun _ => False) BE W W') ∨ (e = .returned (.bool false) ∧ Jx (pre ++ [k]) W' ∧ KeepOut (fun _ => True) BE W W'))
    (W : World) (hcs : W.cell? ⟨Bs, 0, none⟩ = some (.slice A xs.length c)) (hr : ∀ k, (h : k < xs.length) → W.rangeAt g (o + k * 65) (lsC xs[k])) (h0 : J [] W) :
    CallsIn Fence.wide n Try.prog 188 #[.func (.yield l) #[] #[], .pointer (some ⟨Bs, 0, none⟩)] W fun e W' => (∃ v, e = .returned v) ∧
      ((∃ ys, ys.length = xs.length ∧ J ys W') ∨ (∃ pre, (pre.length ≤ xs.length ∧ 0 < pre.length) ∧ Jx pre W')) := by
  have h1 : 1 ≤ n := by omega
  have hw0 : IntKind.i64.wrap ((xs.length : Int) - 1) = (xs.length : Int) - 1 := wrap_i64_fr _ (by omega) (by omega)
  refine callsIn_of_wp Try.func188 rfl trivial ?_ rfl
  simp only [Try.ntmps188, List.size_toArray, List.length_cons, List.length_nil, Nat.reduceAdd, Nat.reduceSub, Array.replicate_succ, Array.replicate_zero, List.push_toArray, List.append_toArray, List.nil_append, List.cons_append]
  gi_wp2
  gi_loopw [3] (fun i wr => ∃ (q : Int) (pre : List Nat), i = .int .i64 q ∧ q = (xs.length : Int) - 1 - pre.length ∧ pre.length ≤ xs.length ∧ J pre wr ∧ KeepOut (fun _ => False) 0 W wr)
    (fun i _ => (intOf i + 1).toNat)
  case atStart => exact ⟨(xs.length : Int) - 1, [], rfl, by simp, by simp, h0, KeepOut.refl _ _ _⟩
  case round =>
    obtain ⟨q, pre, rfl, hq, hb, hJs, hnx⟩ := hrel
    have hc1 : wr.cell? ⟨Bs, 0, none⟩ = some (.slice A xs.length c) := hnx.cell (p := ⟨Bs, 0, none⟩) hcs (fun h => by simp)
    by_cases hlt : 0 ≤ q
    · have hk : xs.length - 1 - pre.length < xs.length := by omega
      obtain rfl := hA (by omega)
      obtain ⟨m, hm⟩ : ∃ m : Nat, m = xs.length - 1 - pre.length := ⟨_, rfl⟩
      rw [← hm] at hk
      have hqm : q = (m : Int) := by omega
      subst hqm
      have hrk : wr.rangeAt g (o + m * 65) (lsC xs[m]) := fun j v hj => hnx.cell (p := ⟨g, o + m * 65 + j, none⟩) (hr m hk j v hj) (fun h => by simp)
      have h65 : (lsC xs[m]).length = 65 := lsC_length (hw _ (List.getElem_mem hk))
      obtain ⟨fn, tmps, assign, body, hy, hR⟩ := hY pre pre.length wr hJs ⟨rfl, by omega⟩
      have hbx : backX xs pre.length = xs[m] := by
        unfold backX
        rw [← hm, List.getD_eq_getElem?_getD, List.getElem?_eq_getElem hk]
        rfl
      rw [hbx, show (xs.length : Int) - 1 - (pre.length : Int) = (m : Int) from by omega] at hy
      obtain ⟨x, hxe⟩ : ∃ x, x = xs[m] := ⟨_, rfl⟩
      rw [← hxe] at hy hrk h65
      have hwm : IntKind.i64.wrap ((m : Int) - 1) = (m : Int) - 1 := wrap_i64_fr _ (by omega) (by omega)
      have HQ := Lib.hid hq
      have H65 := Lib.hid h65
      clear hq hxe hbx hm h65
      gi_wp2_with (refine wpIn_loadX rfl _ _ rfl (x_loadM rowLoose hrk H65.out rfl rfl) ?_)
      refine hR.mono ?_
      have hQ := HQ.out
      rintro e W3 (⟨rfl, hJ3, hk3⟩ | ⟨rfl, hJx3, _⟩)
      · have hnx3 : KeepOut (fun _ => False) 0 W W3 := hnx.trans ⟨hk3.1, fun k o hk hm => hk3.2 k o hk (fun h => by simp)⟩
        clear hQ
        gi_wp2
        go_roundw
        case rel => exact ⟨(m : Int) - 1, pre ++ [pre.length], rfl, by simp; have := HQ.out; omega, by simp; have := HQ.out; omega, hJ3, hnx3⟩
        case measure => simp [intOf]
      · have hl : (pre ++ [pre.length]).length ≤ xs.length ∧ 0 < (pre ++ [pre.length]).length := by simp; omega
        clear hQ
        gi_wp2
        exact bodyPost_ret (results_none rfl _ _ _) rfl ⟨⟨_, rfl⟩, .inr ⟨_, hl, hJx3⟩⟩
    · obtain ⟨hs⟩ : Nonempty (pre.length = xs.length) := ⟨by omega⟩
      gi_wp2
      go_end0
      exact ⟨⟨_, rfl⟩, .inl ⟨pre, hs, hJs⟩⟩
theorem back1_seq (n : Nat) (hn2 : 2 ≤ n) (Bs g o c : Nat) (xs : List (Nat × List UInt8)) (hw : Wide xs) (A : Option Addr) (hA : 0 < xs.length → A = some ⟨g, o, none⟩) (hLc : xs.length ≤ c) (hL : xs.length ≤ 1000000) (w : World) (hBs : Bs < w.heap.size)
    (hcs : w.cell? ⟨Bs, 0, none⟩ = some (.slice A xs.length c)) (hg : 0 < xs.length → g < w.heap.size) (hr : ∀ k, (h : k < xs.length) → w.rangeAt g (o + k * 65) (lsC xs[k])) :
    SeqR Fence.wide n Try.prog 188 #[.pointer (some ⟨Bs, 0, none⟩)] (fun k : Nat => #[.int .i64 ((xs.length : Int) - 1 - k), .agg (lsC (backX xs k)).toArray]) (fun _ => False)
      (fun pre k _ => k = pre.length ∧ k < xs.length) (fun ys => ys.length = xs.length) (fun pre => pre.length ≤ xs.length ∧ 0 < pre.length) w := fun l J Jx W hW _ _ hY h0 =>
  back1_in n hn2 l Bs g o c xs hw A hA hLc hL J Jx W.heap.size hY W ((hW.cell (p := ⟨Bs, 0, none⟩) hBs).trans hcs) (fun k h j v hj => (hW.cell (p := ⟨g, o + k * 65 + j, none⟩) (hg (by omega))).trans (hr k h j v hj)) h0
end Go.Proofs.Ytlelckdcmlpmdaa
/- disk: sector: what a sector holds now. -/
namespace Go.Proofs.Ytlelckdcmlpmdaa
open Go Go.RowKit Lou Go.Shelf
attribute [local go_sem] Oper.semAt_some

theorem laid_none (g : Nat → List UInt8) (xs : List (Nat × List UInt8)) (k : Nat) : ∀ m, m ≤ xs.length → (∀ j, (h : j < xs.length) → j < m → xs[j].1 ≠ k) → laid g (xs.take m) k = g k
  | 0, _, _ => rfl
  | m + 1, hm, hno => by
    rw [laid_snoc g xs m (by omega)]
    unfold gset
    rw [if_neg (fun e => hno m (by omega) (by omega) e.symm)]
    exact laid_none g xs k m (by omega) (fun j h hj => hno j h (by omega))
theorem laid_last (g : Nat → List UInt8) (xs : List (Nat × List UInt8)) (k i : Nat) (hi : i < xs.length) (hk : xs[i].1 = k) : ∀ m, i + 1 + m ≤ xs.length → (∀ j, (h : j < xs.length) → i < j → j < i + 1 + m → xs[j].1 ≠ k) → laid g (xs.take (i + 1 + m)) k = xs[i].2
  | 0, _, _ => by
    rw [Nat.add_zero, laid_snoc g xs i hi]
    unfold gset
    rw [if_pos hk.symm]
  | m + 1, hm, hno => by
    rw [← Nat.add_assoc, laid_snoc g xs (i + 1 + m) (by omega)]
    unfold gset
    rw [if_neg (fun e => hno (i + 1 + m) (by omega) (by omega) (by omega) e.symm)]
    exact laid_last g xs k i hi hk m (by omega) (fun j h h1 hj => hno j h h1 (by omega))
theorem backX_at (xs : List (Nat × List UInt8)) (j : Nat) (h : j < xs.length) : backX xs j = xs[xs.length - 1 - j] := by
  unfold backX
  rw [List.getD_eq_getElem?_getD, List.getElem?_eq_getElem (by omega)]
  rfl
theorem back_none (g : Nat → List UInt8) (xs : List (Nat × List UInt8)) (k : Nat) (h : ∀ j, j < xs.length → (backX xs j).1 ≠ k) : laid g xs k = g k := by
  have := laid_none g xs k xs.length (Nat.le_refl _) (fun j hj _ => by
    have h1 := h (xs.length - 1 - j) (by omega)
    rw [backX_at _ _ (by omega)] at h1
    have e : xs.length - 1 - (xs.length - 1 - j) = j := by omega
    simpa only [e] using h1)
  rwa [List.take_length] at this
theorem back_found (g : Nat → List UInt8) (xs : List (Nat × List UInt8)) (k m : Nat) (hm : m < xs.length) (h : ∀ j, j < m → (backX xs j).1 ≠ k) (hk : (backX xs m).1 = k) : laid g xs k = (backX xs m).2 := by
  rw [backX_at _ _ hm] at hk ⊢
  have := laid_last g xs k (xs.length - 1 - m) (by omega) hk m (by omega) (fun j hj h1 h2 => by
    have h3 := h (xs.length - 1 - j) (by omega)
    rw [backX_at _ _ (by omega)] at h3
    have e : xs.length - 1 - (xs.length - 1 - j) = j := by omega
    simpa only [e] using h3)
  have e : xs.length - 1 - m + 1 + m = xs.length := by omega
  rwa [e, List.take_length] at this

section
variable {w : World} {o : Oper} {ρ : Operand → Value}
theorem x_allocSec (ho : o.op = .alloc 162) : (execOp ρ o).run Try.prog w = .ok (.value (.pointer (some ⟨w.heap.size, 0, none⟩))) (w.alloc (.cells (zer64.map b8).toArray 162)) := by
  simp [execOp, ho, Instr.alloc, newVar, newRow, go_sem, Result.andThen]
  rfl
theorem x_storeW (T : TypeId) (x y : Operand) (ho : o.op = .store T x y) (g : Nat) {t : TypeId} {cs cs' : Array Value} (hx : ρ x = .pointer (some ⟨g, 0, none⟩)) (hy : ρ y = .agg cs') {m : Nat} (hT : RowTy Try.prog T m) (hb : BlkIs w g t cs) (hn : cs.size = m) (hs : cs'.size = cs.size) (h1 : ∀ v ∈ cs'.toList, v.oneCell' = true) :
    (execOp ρ o).run Try.prog w = .ok .skip (w.setRow g cs') := by
  unfold execOp
  simp only [ho, hx, hy, Instr.storeAt, Instr.sureAddr, Sem.run_bind, Sem.run_pure, Result.andThen_ok, run_storeW (hn ▸ hT) hb hs h1]
end
theorem fold2 (t : Array Value) (i j : Tmp) (a b : Value) : ((#[i, j] : Array Tmp).zip #[a, b]).foldl (fun t (p, v) => t.setIfInBounds p v) t = (t.setIfInBounds i a).setIfInBounds j b := by
  simp
theorem laid_len : ∀ (xs : List (Nat × List UInt8)) (g : Nat → List UInt8), (∀ m, (g m).length = 64) → Wide xs → ∀ k, (laid g xs k).length = 64
  | [], g, hg, _, k => hg k
  | x :: xs, g, hg, hw, k => laid_len xs (gset g x.1 x.2) (fun m => by
      unfold gset
      split
      · exact hw x (by simp)
      · exact hg m) (fun y hy => hw y (by simp [hy])) k
theorem backX_wide {xs : List (Nat × List UInt8)} (hw : Wide xs) (j : Nat) : (backX xs j).2.length = 64 := by
  unfold backX
  rw [List.getD_eq_getElem?_getD]
  cases h : xs[xs.length - 1 - j]? with
  | none => decide
  | some x => exact hw x (List.mem_of_getElem? h)
theorem below_putObj {B : Nat} {w V : World} (h : Below B w V) (D : Nat) (o : Obj) (hD : B ≤ D) : Below B w (V.putObj D o) :=
  h.trans ⟨rfl, rfl, rfl, by simp, fun k hk => World.putObj_heap_other (by omega)⟩
theorem blk_putObj {V : World} {g : Nat} {t : TypeId} {cs : Array Value} (h : BlkIs V g t cs) (D : Nat) (o : Obj) (hD : g ≠ D) : BlkIs (V.putObj D o) g t cs := (World.putObj_heap_other hD).trans h
abbrev actF (p k hs g6 len c : Nat) (A : Option Addr) (d m : Value) : Act :=
  { tmps := #[.pointer (some ⟨p, 0, none⟩), .int .i64 (k : Int), undef, .pointer (some ⟨hs, 0, none⟩), .pointer (some ⟨hs + 1, 0, none⟩), undef, .pointer (some ⟨g6, 0, none⟩), .pointer (some ⟨p, 0, none⟩), .pointer (some ⟨p, 0, none⟩), .pointer (some ⟨p, 2, none⟩), .slice A len c,
      .func (.func 188) #[] #[.pointer (some ⟨hs + 1 + 1, 0, none⟩)], d, m, undef, undef, undef, undef, undef, undef, undef, undef, undef, undef, undef, undef], defers := [] }
set_option maxHeartbeats 1000000 in
theorem back_in (n : Nat) (A : Option Addr) (len cap : Nat) (w : World) :
    CallsIn Fence.wide n Try.prog 162 #[.slice A len cap] w fun e w' => e = .returned (.func (.func 188) #[] #[.pointer (some ⟨w.heap.size, 0, none⟩)]) ∧ w.alloc (.cells #[.slice A len cap] 152) = w' := by
  refine callsIn_of_wp Try.func162 rfl trivial ?_ rfl
  simp only [Try.ntmps162, List.size_toArray, List.length_cons, List.length_nil, Nat.reduceAdd, Nat.reduceSub, Array.replicate_succ, Array.replicate_zero, List.push_toArray, List.append_toArray, List.nil_append, List.cons_append]
  gi_wp2
  go_ret
  exact ⟨rfl, rfl⟩

set_option maxRecDepth 100000 in
set_option maxHeartbeats 4000000 in
theorem sector_in (n : Nat) (hn : 6 ≤ n) (w : World) (p many : Nat) (g : Nat → List UInt8) (xs : List (Nat × List UInt8)) (left : Int) (stops : Bool) (hD : DkIs w p many g xs left stops) (hl : xs.length ≤ 1000000) (k : Nat) :
    CallsIn Fence.wide n Try.prog 98 #[.pointer (some ⟨p, 0, none⟩), .int .i64 (k : Int)] w fun e w' => e = .returned (secV (laid g xs k)) ∧ Below w.heap.size w w' := by
  obtain ⟨r, A, c, hb, hm, hw, hx⟩ := hD.has
  have h1 : 1 ≤ n := by omega
  obtain ⟨W2, hW2⟩ : ∃ W2, W2 = (w.alloc (.cells #[.int .i64 (k : Int)] 3)).alloc (.cells (zer64.map b8).toArray 162) := ⟨_, rfl⟩
  have hB2 : Below w.heap.size w W2 := by rw [hW2]; exact ((Below.refl _ w).alloc (Nat.le_refl _) _).alloc (by simp) _
  have s2 : W2.heap.size = w.heap.size + 1 + 1 := by rw [hW2]; simp
  have bk : BlkIs W2 w.heap.size 3 #[.int .i64 (k : Int)] := by rw [hW2]; exact (BlkIs.new w _ _).alloc _
  have bs : BlkIs W2 (w.heap.size + 1) 162 (zer64.map b8).toArray := by
    have := BlkIs.new (w.alloc (.cells #[.int .i64 (k : Int)] 3)) 162 (zer64.map b8).toArray
    rw [World.size_alloc] at this
    rw [hW2]
    exact this
  have c2 : W2.cell? ⟨p, 2, none⟩ = some (.slice A xs.length c) := by
    rw [hB2.cell (p := ⟨p, 2, none⟩) hb.lt, hb.cell]
    rfl
  have HW2 := Lib.hid hW2
  refine callsIn_of_wp_marks Try.func98 rfl trivial ?_ rfl
  simp only [Try.ntmps98, List.size_toArray, List.length_cons, List.length_nil, Nat.reduceAdd, Nat.reduceSub, Array.replicate_succ, Array.replicate_zero, List.push_toArray, List.append_toArray, List.nil_append, List.cons_append]
  clear hW2
  gi_wp2_with (first
    | (refine wpIn_allocX rfl _ rfl (x_allocSec rfl) ?_; rw [World.size_alloc, ← HW2.out])
    | (refine ⟨trivial, ?_⟩; gi_at_call 162; refine (back_in (n - 1) _ _ _ _).mono ?_; rintro e w' ⟨rfl, rfl⟩))
  have hle := hx.le
  obtain ⟨gA, oA, hA⟩ : ∃ gA oA, 0 < xs.length → A = some ⟨gA, oA, none⟩ ∧ gA < w.heap.size := by
    by_cases h0 : 0 < xs.length
    · obtain ⟨gA, oA, e, hg, _⟩ := hx.lies h0
      exact ⟨gA, oA, fun _ => ⟨e, hg⟩⟩
    · exact ⟨0, 0, fun h => absurd h h0⟩
  have hr4 : ∀ j, (h : j < xs.length) → w.rangeAt gA (oA + j * 65) (lsC xs[j]) := fun j h => by
    obtain ⟨e, hg⟩ := hA (by omega)
    subst e
    exact InW.elem ⟨hw, hx⟩ j h
  obtain ⟨W4, hW4⟩ : ∃ W4, W4 = W2.alloc (.cells #[.slice A xs.length c] 152) := ⟨_, rfl⟩
  have hB4 : Below w.heap.size w W4 := by rw [hW4]; exact hB2.alloc hB2.size _
  have s4 : W4.heap.size = w.heap.size + 1 + 1 + 1 := by rw [hW4]; simp [s2]
  have bk4 : BlkIs W4 w.heap.size 3 #[.int .i64 (k : Int)] := by rw [hW4]; exact bk.alloc _
  have bs4 : BlkIs W4 (w.heap.size + 1) 162 (zer64.map b8).toArray := by rw [hW4]; exact bs.alloc _
  have hcs4 : W4.cell? ⟨w.heap.size + 1 + 1, 0, none⟩ = some (.slice A xs.length c) := by rw [hW4, ← s2]; exact (BlkIs.new W2 152 #[.slice A xs.length c]).boxed
  rw [← hW4]
  have hk0 : MapF w r g := hm
  have hm0 : w.cell? ⟨p, 0, none⟩ = some (.map (some r)) := by rw [hb.cell]; rfl
  have hplt := hb.lt
  have HS4 := Lib.hid s4
  clear hW4 bk bs c2 HW2 s2 hB2
  refine wpIn_rangeFunc_A rfl h1 (gf := 188) (lb := #[.pointer (some ⟨w.heap.size + 1 + 1, 0, none⟩)]) rfl trivial (enters_of Try.func188 (by kernel_rfl) rfl)
    (back1_seq (n - 1) (by omega) (w.heap.size + 1 + 1) gA oA c xs hw A (fun h => (hA h).1) hle hl W4 (by omega) hcs4 (fun h => by have := (hA h).2; omega) (fun j h i v hi => (hB4.cell (p := ⟨gA, oA + j * 65 + i, none⟩) (hA (by omega)).2).trans (hr4 j h i v hi))) (Below.refl _ _) (fun _ => rfl)
    (fun pre V => Below w.heap.size w V ∧ BlkIs V w.heap.size 3 #[.int .i64 (k : Int)] ∧ BlkIs V (w.heap.size + 1) 162 (zer64.map b8).toArray ∧ (∀ j, j < pre.length → (backX xs j).1 ≠ k))
    (fun cd _ V => cd = .ret ∧ Below w.heap.size w V ∧ BlkIs V (w.heap.size + 1) 162 ((laid g xs k).map b8).toArray)
    ?own ?own2 ?ownR ⟨hB4, bk4, bs4, fun j h => by simp at h⟩
    (fun j a V => ∃ g6, a = actF p k w.heap.size g6 xs.length c A (.int .i64 ((xs.length : Int) - 1 - j)) (.agg (lsC (backX xs j)).toArray) ∧ BlkIs V g6 164 (lsC (backX xs j)).toArray)
    ?ownA ?assign ?body ?done ?stop
  case own =>
    rintro pre X Y row ⟨h1, h2, h3, h4⟩ hgr hr
    exact ⟨below_abNew (B := W4.heap.size) (by omega) h1.size h1 hgr hr, h2.abNew (by omega) hgr hr, h3.abNew (by omega) hgr hr, h4⟩
  case own2 =>
    rintro cd pre X Y row ⟨e, h1, h3⟩ hgr hr
    exact ⟨e, below_abNew (B := W4.heap.size) (by omega) h1.size h1 hgr hr, h3.abNew (by omega) hgr hr⟩
  case ownR => exact fun pre x => ownFrom_pure _ _
  case ownA =>
    rintro j a ⟨⟩ X Y row ⟨g6, e, h⟩ hgr hr
    refine ⟨g6, e, h.grown hgr (fun e2 => ?_)⟩
    obtain ⟨_, o, ho, hc⟩ := hr g6 e2.symm
    have h' : X.heap[g6]? = some (.cells (lsC (backX xs j)).toArray 164 (0, 0)) := h
    rw [h'] at ho
    cases ho
    cases hc
  case assign =>
    intro l1 j V K hV hK
    have hx6 := backX_wide hw j
    generalize backX xs j = x at *
    have h65 := lsC_length hx6
    have hsz : (lsC x).toArray.size = (lsC (0, zer64)).toArray.size := by rw [List.size_toArray, List.size_toArray, h65]; rfl
    have n0 := BlkIs.new V 164 (lsC (0, zer64)).toArray
    have nb := n0.setRow (lsC x).toArray
    have hBV : Below V.heap.size V ((V.alloc (.cells (lsC (0, zer64)).toArray 164)).setRow V.heap.size (lsC x).toArray) := below_setRow ((Below.refl _ V).alloc (Nat.le_refl _) _) (Nat.le_refl _) _
    have HZ := Lib.hid hsz
    clear hsz h65 hx6
    rw [fold2]
    simp only [List.setIfInBounds_toArray, List.set_cons_zero, List.set_cons_succ]
    gi_wp2_with (first
      | (refine wpIn_allocX rfl _ rfl (x_allocLs rfl) ?_)
      | (refine wpIn_storeX rfl 164 (.tmp 6) (.tmp 13) rfl V.heap.size rfl rfl rowLoose n0 (by rfl) HZ.out (lsC_one _) ?_))
    exact hK _ _ hBV ⟨V.heap.size, rfl, nb⟩
  case body =>
    rintro l1 pre j V a hWV ⟨hB, hk3, hs3, hno⟩ ⟨rfl, hj⟩ ⟨g6, rfl, h6⟩
    have hx6 := backX_wide hw pre.length
    have hfo := back_found g xs k pre.length hj hno
    have hcon : (backX xs pre.length).1 ≠ k → ∀ j, j < (pre ++ [pre.length]).length → (backX xs j).1 ≠ k := fun h j hj => by
      simp at hj
      by_cases e : j = pre.length
      · subst e; exact h
      · exact hno j (by omega)
    generalize backX xs pre.length = x at *
    obtain ⟨x1, x2⟩ := x
    simp only at hx6 hfo hcon
    have d0 : V.cell? ⟨g6, 0, none⟩ = some (.int .i64 (x1 : Int)) := by rw [h6.cell]; rfl
    have ck : V.cell? ⟨w.heap.size, 0, none⟩ = some (.int .i64 (k : Int)) := hk3.boxed
    have dr : V.rangeAt g6 1 (x2.map b8) := fun j v hj => by
      rw [h6.cell]
      simpa [lsC, Nat.add_comm] using hj
    have hl6 : (x2.map b8).length = 64 := by rw [List.length_map]; exact hx6
    have hsz : (x2.map b8).toArray.size = (zer64.map b8).toArray.size := by rw [List.size_toArray, hl6]; rfl
    have HL6 := Lib.hid hl6
    have HZ := Lib.hid hsz
    have HNO := Lib.hid hno
    clear hl6 hsz hx6 hno
    by_cases hxk : x1 = k
    · subst hxk
      have hfo2 := Lib.hid (hfo rfl)
      clear hfo hcon
      gi_wp2_with (first
        | (refine wpIn_loadX rfl _ _ rfl (x_loadM rowDSec dr HL6.out rfl rfl) ?_)
        | (refine wpIn_storeX rfl _ (.tmp 4) (.tmp 19) rfl (w.heap.size + 1) rfl rfl rowDSec hs3 (by rfl) HZ.out (b8_one _) ?_))
      rw [hfo2.out]
      exact ⟨⟨by simp, fun k o hk hm => (setRow_other _ _ _ _ (by intro e; subst e; exact hm (by omega) trivial)).trans hk⟩, rfl, below_setRow hB (by omega) _, hs3.setRow _⟩
    · have hne : ¬ (x1 : Int) = (k : Int) := by omega
      have hc2 := Lib.hid (hcon hxk)
      clear hfo hcon hxk
      gi_wp2
      exact ⟨KeepOut.refl _ _ _, hB, hk3, hs3, hc2.out⟩
  case done =>
    rintro D ys V hD hS ⟨hB, hk3, hs3, hno⟩ hK
    have hfo := back_none g xs k (by rw [← hS]; exact hno)
    have hglen : (g k).length = 64 := hm.len k
    have hSd : V.drew.cell? ⟨p, 0, none⟩ = some (.map (some r)) ∧ V.drew.cell? ⟨w.heap.size, 0, none⟩ = some (.int .i64 (k : Int)) ∧ MapF V.drew r g := ⟨(hB.drew.cell (p := ⟨p, 0, none⟩) hplt).trans hm0, hk3.boxed, hm.grow hB.drew⟩
    have hsz : ((g k).map b8).toArray.size = (zer64.map b8).toArray.size := by rw [List.size_toArray, List.length_map, hglen]; rfl
    have HZ := Lib.hid hsz
    have HF := Lib.hid hfo
    clear hsz hfo hglen hno hS
    gi_wp2
    refine wpIn_wide.2 ?_
    refine wp_region_noPanic ?_
    refine RegF.start (fun W => W.cell? ⟨p, 0, none⟩ = some (.map (some r)) ∧ W.cell? ⟨w.heap.size, 0, none⟩ = some (.int .i64 (k : Int)) ∧ MapF W r g) 6 (by kernel_rfl) ?_
    refine RegF.take 0 (.pointer (some ⟨p, 0, none⟩)) rfl (by kernel_rfl) (by kernel_rfl) (by kernel_rfl) (by kernel_rfl) (fun _ _ _ h => h) hSd (RegF.yld rfl (fun W hW => by go_simp)) ?_
    simp only [List.getElem_toArray, List.getElem_cons_succ, List.getElem_cons_zero, Act.put, List.setIfInBounds_toArray, List.set_cons_zero, List.set_cons_succ]
    refine RegF.take 1 (.pointer (some ⟨p, 0, none⟩)) rfl (by kernel_rfl) (by kernel_rfl) (by kernel_rfl) (by kernel_rfl) (fun _ _ _ h => h) hSd (RegF.yld rfl (fun W hW => by go_simp)) ?_
    simp only [List.getElem_toArray, List.getElem_cons_succ, List.getElem_cons_zero, Act.put, List.setIfInBounds_toArray, List.set_cons_zero, List.set_cons_succ]
    refine RegF.take 2 (.pointer (some ⟨p, 0, none⟩)) rfl (by kernel_rfl) (by kernel_rfl) (by kernel_rfl) (by kernel_rfl) (fun _ _ _ h => h) hSd (RegF.yld rfl (fun W hW => by go_simp)) ?_
    simp only [List.getElem_toArray, List.getElem_cons_succ, List.getElem_cons_zero, Act.put, List.setIfInBounds_toArray, List.set_cons_zero, List.set_cons_succ]
    refine RegF.take 3 (.map (some r)) rfl (by kernel_rfl) (by kernel_rfl) (by kernel_rfl) (by kernel_rfl) (fun _ _ _ h => h) hSd (RegF.yld rfl (fun W hW => by have e := hW.1; go_simp)) ?_
    simp only [List.getElem_toArray, List.getElem_cons_succ, List.getElem_cons_zero, Act.put, List.setIfInBounds_toArray, List.set_cons_zero, List.set_cons_succ]
    refine RegF.take 4 (.int .i64 (k : Int)) rfl (by kernel_rfl) (by kernel_rfl) (by kernel_rfl) (by kernel_rfl) (fun _ _ _ h => h) hSd (RegF.yld rfl (fun W hW => by have e := hW.2.1; go_simp)) ?_
    simp only [List.getElem_toArray, List.getElem_cons_succ, List.getElem_cons_zero, Act.put, List.setIfInBounds_toArray, List.set_cons_zero, List.set_cons_succ]
    refine RegF.take 5 (secV (g k)) rfl (by kernel_rfl) (by kernel_rfl) (by kernel_rfl) (by kernel_rfl) (fun _ _ _ h => h) hSd (RegF.yld rfl (fun W hW => x_lookup hW.2.2 rfl rfl rfl)) ?_
    simp only [List.getElem_toArray, List.getElem_cons_succ, List.getElem_cons_zero, Act.put, List.setIfInBounds_toArray, List.set_cons_zero, List.set_cons_succ]
    refine RegF.one 6 (by kernel_rfl) ?_
    refine RegF.opS (w' := V.drew.setRow (w.heap.size + 1) ((g k).map b8).toArray) rfl rfl (x_storeW _ (.tmp 4) (.tmp 25) rfl (w.heap.size + 1) rfl rfl rowDSec hs3 (by rfl) HZ.out (b8_one _)) ⟨fun h => absurd rfl h, ?_⟩
    simp only [List.getElem_toArray, List.getElem_cons_succ, List.getElem_cons_zero, Act.put, List.setIfInBounds_toArray, List.set_cons_zero, List.set_cons_succ]
    refine RegF.done (by kernel_rfl) ?_
    have hs5 : BlkIs (V.drew.setRow (w.heap.size + 1) ((g k).map b8).toArray) (w.heap.size + 1) 162 ((laid g xs k).map b8).toArray := by
      rw [HF.out]
      exact BlkIs.setRow (w := V.drew) hs3 _
    have hB5 : Below w.heap.size w (V.drew.setRow (w.heap.size + 1) ((g k).map b8).toArray) := below_setRow hB.drew (by omega) _
    have hK5 : (V.drew.setRow (w.heap.size + 1) ((g k).map b8).toArray).heap[D]? = some (.deferred (some [])) := (setRow_other _ _ _ _ (by omega)).trans hK
    have hszl : ((laid g xs k).map b8).toArray.size = 64 := by rw [HF.out, HZ.out]; rfl
    generalize V.drew.setRow (w.heap.size + 1) ((g k).map b8).toArray = V5 at *
    simp only [NoPanic]
    gi_wp2
    refine ⟨by simp, .inl ⟨_, _, rfl, run_takeDeferred hK5, ?_⟩⟩
    exact ⟨_, results_cellW 4 rfl rfl rowDSec (blk_putObj hs5 D _ (by omega)) hszl, rfl, below_putObj hB5 D _ (by omega)⟩
  case stop =>
    rintro D cd pre V hD hS ⟨rfl, hB, hs3⟩ hK
    have hszl : ((laid g xs k).map b8).toArray.size = 64 := by rw [List.size_toArray, List.length_map, laid_len xs g hm.len hw k]
    gi_wp2
    refine ⟨by simp, .inl ⟨_, _, rfl, run_takeDeferred hK, ?_⟩⟩
    exact ⟨_, results_cellW 4 rfl rfl rowDSec (blk_putObj hs3 D _ (by omega)) hszl, rfl, below_putObj hB D _ (by omega)⟩
end Go.Proofs.Ytlelckdcmlpmdaa
/- disk: Read. -/
namespace Go.Proofs.Ytlelckdcmlpmdaa
open Go Go.RowKit Lou

section
variable (w : World) (p many : Nat) (g : Nat → List UInt8) (xs : List (Nat × List UInt8)) (left : Int) (stops : Bool)
theorem rd_asks (hD : DkIs w p many g xs left stops) (hs : (stops && left == 0) = false) (k : Nat) (hk : k < many) (w1 w2 : World) (hB1 : Below w.heap.size w w1) (hB2 : Below w1.heap.size w1 w2)
    (b0 : BlkIs w1 w.heap.size 26 #[.pointer (some ⟨p, 0, none⟩)]) (b1 : BlkIs w1 (w.heap.size + 1) 3 #[.int .i64 (k : Int)]) :
    Calls Try.prog 88 #[.pointer (some ⟨p, 0, none⟩), .slice (some ⟨w2.heap.size, 0, none⟩) 2 2] (w2.alloc (.cells #[.func (.func 159) #[] #[.pointer (some ⟨w.heap.size + 1, 0, none⟩), .pointer (some ⟨w.heap.size, 0, none⟩)], .int .i64 4, .func (.func 154) #[.pointer (some ⟨p, 0, none⟩)] #[], .int .i64 140] 157))
      fun e w' => e = .returned (.int .i64 0) ∧ Below w2.heap.size w2 w' := by
  have h1 := hD.grow (hB1.trans (hB2.mono hB1.size))
  have e3 := asked2_gives w2 p many g xs left stops h1 (askThere w.heap.size (w.heap.size + 1) many k) (askGoes p left stops)
    (ans_there w2 p many g xs left stops k _ _ h1 (b0.below hB2 b0.lt) (b1.below hB2 b1.lt)) (ans_goes w2 p many g xs left stops h1)
  have hf : firstE [askThere w.heap.size (w.heap.size + 1) many k, askGoes p left stops] = 0 := by
    have a1 : decide ((k : Int) < 0) = false := by simp
    have a2 : ¬ many ≤ k := by omega
    have hs' : (askGoes p left stops).b = false := hs
    simp [firstE, askThere, a2, hs']
  rw [hf] at e3
  exact e3

set_option maxRecDepth 100000 in
set_option maxHeartbeats 4000000 in
theorem read_gives (hD : DkIs w p many g xs left stops) (hs : (stops && left == 0) = false) (k : Nat) (hk : k < many) (hl : xs.length ≤ 1000000) :
    Calls Try.prog 26 #[.pointer (some ⟨p, 0, none⟩), .int .i64 (k : Int)] w fun e w' => ∃ q, e = .returned (.tuple #[.slice (some ⟨q, 0, none⟩) 64 64, .int .i64 0]) ∧ InB w' w'.heap.size (some ⟨q, 0, none⟩) 64 (laid g xs k) ∧ Below w.heap.size w w' := by
  have HT := there_gives w p k
  have HA := fun w1 w2 hB1 hB2 b0' b1' => rd_asks w p many g xs left stops hD hs k hk w1 w2 hB1 hB2 b0' b1'
  have HX : ∀ W, Below w.heap.size w W → Calls Try.prog 98 #[.pointer (some ⟨p, 0, none⟩), .int .i64 (k : Int)] W fun e w' => e = .returned (secV (laid g xs k)) ∧ Below W.heap.size W w' := fun W hW => callsIn_wide.1 (sector_in 6 (Nat.le_refl _) W p many g xs left stops (hD.grow hW) hl k)
  have hlen : (laid g xs k).length = 64 := by
    obtain ⟨r, A, c, hb, hm, hw, hx⟩ := hD.has
    exact laid_len xs g hm.len hw k
  generalize laid g xs k = y at *
  have hsz : (y.map b8).toArray.size = (zer64.map b8).toArray.size := by rw [List.size_toArray, List.length_map, hlen]; rfl
  have HL := Lib.hid hlen
  have HZ := Lib.hid hsz
  unfold secV at HX
  clear hs hlen hsz
  go_enter Try.func26, Try.ntmps26
  go_wp2_with (first
    | (go_at_call 90; refine HT.mono ?_; rintro e w1 ⟨rfl, s1, s2, hB1⟩)
    | (go_at_call 91; refine (goes_gives w1 p).mono ?_; rintro e w2 ⟨rfl, hB2⟩)
    | (go_at_call 88; refine (HA w1 w2 hB1 hB2 s1 s2).mono ?_; rintro e w3 ⟨rfl, hB3⟩; have hB03 : Below w.heap.size w w3 := hB1.trans ((hB2.trans (hB3.mono hB2.size)).mono hB1.size))
    | (go_at_call 98; refine (HX _ hB03).mono ?_; rintro e w4 ⟨rfl, hB4⟩; have hB04 : Below w.heap.size w w4 := hB03.trans (hB4.mono hB03.size); have n0 := BlkIs.new w4 162 (zer64.map b8).toArray)
    | (refine wp_exec rfl (x_allocSec rfl) ?_)
    | (refine wp_storeW rfl 162 (.tmp 7) (.tmp 21) rfl w4.heap.size rfl rfl rowDSec n0 (by rfl) HZ.out (b8_one _) ?_))
  refine bodyPost_ret (results_tmp2 rfl _ _ _) rfl ?_
  have nb := n0.setRow (y.map b8).toArray
  have hBf : Below w.heap.size w ((w4.alloc (.cells (zer64.map b8).toArray 162)).setRow w4.heap.size (y.map b8).toArray) := below_setRow (hB04.alloc hB04.size _) hB04.size _
  refine ⟨w4.heap.size, rfl, ⟨by rw [HL.out]; exact Nat.le_refl _, by omega, (fun h => by cases h), fun _ => ⟨w4.heap.size, 0, rfl, nb.lt, fun j hj => ?_⟩⟩, hBf⟩
  rw [nb.cell, Nat.zero_add]
  simp [hj, b8]
end
end Go.Proofs.Ytlelckdcmlpmdaa
/- Cells written in the midst of a row; the last loose write's bytes. -/
namespace Go.Proofs.Ytlelckdcmlpmdaa
open Go Go.RowKit Lou

theorem rangeAt_mid {w : World} {g : Nat} {cs : List Value} (h : w.rangeAt g 0 cs) (o : Nat) (vs : List Value) (ho : o + vs.length ≤ cs.length) :
    (w.setCells g o vs).rangeAt g 0 (cs.take o ++ vs ++ cs.drop (o + vs.length)) := by
  have hsome : ∀ j, j < vs.length → (w.cell? ⟨g, o + j, none⟩).isSome = true := fun j hj => by
    have := h (o + j) (cs[o + j]'(by omega)) (List.getElem?_eq_getElem (by omega))
    rw [Nat.zero_add] at this
    rw [this]
    rfl
  have hlt : (cs.take o).length = o := by rw [List.length_take]; omega
  intro j v hj
  rw [Nat.zero_add]
  by_cases h1 : j < o
  · rw [World.cell?_setCells_out g vs o w _ (fun _ _ => Or.inl h1)]
    rw [List.append_assoc, List.getElem?_append_left (by omega), List.getElem?_take, if_pos h1] at hj
    have := h j v hj
    rwa [Nat.zero_add] at this
  · by_cases h2 : j < o + vs.length
    · have e : j = o + (j - o) := by omega
      rw [List.append_assoc, List.getElem?_append_right (by omega), List.getElem?_append_left (by omega), hlt, List.getElem?_eq_getElem (by omega)] at hj
      rw [e, World.cell?_setCells_in g vs o w hsome (j - o) (by omega)]
      exact hj
    · rw [World.cell?_setCells_out g vs o w _ (fun _ _ => Or.inr (by show o + vs.length ≤ j; omega))]
      rw [List.getElem?_append_right (by rw [List.length_append]; omega), List.length_append, hlt, List.getElem?_drop] at hj
      rw [show o + vs.length + (j - (o + vs.length)) = j from by omega] at hj
      have := h j v hj
      rwa [Nat.zero_add] at this
theorem size_setCellsL (b : Nat) : ∀ (vs : List Value) (o : Nat) (w : World), (w.setCells b o vs).heap.size = w.heap.size
  | [], _, _ => rfl
  | v :: r, o, w => by
    rw [World.setCells, size_setCellsL b r (o + 1) _, World.size_setCell]
theorem inG_mid {w : World} {B sz g n c : Nat} {cs : List Value} (h : InG w B sz (some ⟨g, 0, none⟩) n c cs) (h0 : 0 < n) (o : Nat) (vs : List Value) (ho : o + vs.length ≤ cs.length) (h1 : ∀ v ∈ vs, v.oneCell' = true) :
    InG (w.setCells g o vs) B sz (some ⟨g, 0, none⟩) n c (cs.take o ++ vs ++ cs.drop (o + vs.length)) := by
  obtain ⟨g', o', e, hg, hr⟩ := h.lies h0
  injection e with e
  injection e with e1 e2
  subst e1 e2
  refine ⟨h.le, h.max, (fun e => by cases e), ?_, ?_, fun _ => ⟨g, 0, rfl, hg, rangeAt_mid hr o vs ho⟩⟩
  · have := h.len
    rw [List.length_append, List.length_append, List.length_take, List.length_drop]
    omega
  · intro v hv
    rcases List.mem_append.1 hv with hv | hv
    · rcases List.mem_append.1 hv with hv | hv
      · exact h.one v (List.mem_of_mem_take hv)
      · exact h1 v hv
    · exact h.one v (List.mem_of_mem_drop hv)
/-- The last loose write's bytes, written anew. -/
theorem inW_mid {w : World} {B g c m : Nat} {ki : List (Nat × List UInt8)} {x1 : Nat} {x2 z : List UInt8} (h : InW w B (some ⟨g, 0, none⟩) c (ki ++ [(x1, x2)])) (hm : m = ki.length) (hz : z.length = 64) :
    InW (w.setCells g (m * 65 + 1) (z.map b8)) B (some ⟨g, 0, none⟩) c (ki ++ [(x1, z)]) := by
  obtain ⟨hw, hx⟩ := h
  have hwk : Wide ki := fun y hy => hw y (by simp [hy])
  have h2 : x2.length = 64 := hw (x1, x2) (by simp)
  have hlk := flC_length hwk
  have e1 : flC (ki ++ [(x1, x2)]) = flC ki ++ .int .i64 (x1 : Int) :: x2.map b8 := by rw [flC_append]; simp [flC, lsC]
  have e2 : flC (ki ++ [(x1, z)]) = flC ki ++ .int .i64 (x1 : Int) :: z.map b8 := by rw [flC_append]; simp [flC, lsC]
  have hlen : (flC (ki ++ [(x1, x2)])).length = m * 65 + 65 := by rw [e1, List.length_append, hlk, List.length_cons, List.length_map, h2, hm]
  have hzl : (z.map b8).length = 64 := by rw [List.length_map, hz]
  refine ⟨?_, ?_⟩
  · intro y hy
    rcases List.mem_append.1 hy with hy | hy
    · exact hwk y hy
    · obtain rfl : y = (x1, z) := by simpa using hy
      exact hz
  · have := inG_mid hx (by simp) (m * 65 + 1) (z.map b8) (by rw [hlen, hzl]; omega) (fun v hv => b8_one _ v hv)
    rw [show (flC (ki ++ [(x1, x2)])).take (m * 65 + 1) ++ z.map b8 ++ (flC (ki ++ [(x1, x2)])).drop (m * 65 + 1 + (z.map b8).length) = flC (ki ++ [(x1, z)]) from by
      rw [hzl, List.drop_eq_nil_of_le (by rw [hlen]; omega), List.append_nil, e1, e2]
      have h3 : (flC ki ++ Value.int .i64 (x1 : Int) :: x2.map b8).take (m * 65 + 1) = flC ki ++ [Value.int .i64 (x1 : Int)] := by
        rw [hm, ← hlk, List.take_length_add_append]
        rfl
      rw [h3]
      simp] at this
    rw [show (ki ++ [(x1, z)]).length = (ki ++ [(x1, x2)]).length from by simp]
    exact this
/-- The cells of an own row's block may be written. -/
theorem own_there {w : World} {base : Nat} {T : TypeId} {sz g n c : Nat} {cs : List Value} (h : w.ownsRow base T sz (.slice (some ⟨g, 0, none⟩) n c) n cs) (o k : Nat) (hk : o + k ≤ n * sz) : w.there g o k := by
  rcases h.2 with ⟨e, _⟩ | ⟨g', cap, cur, e, hb, hg, hle, hm, hs, ht⟩
  · cases e
  · injection e with e1 e2 e3
    injection e1 with e1
    injection e1 with e1
    subst e1
    have h5 : n * sz ≤ cap * sz := Nat.mul_le_mul_right _ hle
    intro j hj
    refine ⟨?_, ?_⟩
    · rw [cell_of_row w g (o + j) cur _ (0, 0) hg, Array.getElem?_eq_getElem (by omega)]
      rfl
    · unfold World.frozen?
      simp [hg]
/-- What lay below B stays. -/
theorem below_setCellsL {B b : Nat} (hb : B ≤ b) : ∀ (vs : List Value) (o : Nat) {a w : World}, Below B a w → Below B a (w.setCells b o vs)
  | [], _, _, _, h => h
  | v :: r, o, a, w, h => below_setCellsL hb r (o + 1) (h.setCell hb v)
end Go.Proofs.Ytlelckdcmlpmdaa
/- disk: Crash. -/
namespace Go.Proofs.Ytlelckdcmlpmdaa
open Go Go.RowKit Lou

/-- The loose writes that are kept, of the first i. -/
def keptTo (xs : List (Nat × List UInt8)) (bs : List Bool) : Nat → List (Nat × List UInt8)
  | 0 => []
  | i + 1 => if bs.getD i false then keptTo xs bs i ++ [xs.getD i (0, zer64)] else keptTo xs bs i
theorem keptTo_le (xs : List (Nat × List UInt8)) (bs : List Bool) : ∀ i, (keptTo xs bs i).length ≤ i
  | 0 => Nat.le_refl _
  | i + 1 => by
    unfold keptTo
    have := keptTo_le xs bs i
    split
    · simp; omega
    · omega
theorem keptTo_wide {xs : List (Nat × List UInt8)} (hw : Wide xs) (bs : List Bool) : ∀ i, Wide (keptTo xs bs i)
  | 0 => fun x h => by simp [keptTo] at h
  | i + 1 => by
    unfold keptTo
    split
    · intro x hx
      rcases List.mem_append.1 hx with h | h
      · exact keptTo_wide hw bs i x h
      · obtain rfl : x = xs.getD i (0, zer64) := by simpa using h
        rw [List.getD_eq_getElem?_getD]
        cases hq : xs[i]? with
        | none => decide
        | some y => exact hw y (List.mem_of_getElem? hq)
    · exact keptTo_wide hw bs i
/-- The last of the writes that are kept may be torn: of it the first t bytes alone have come. -/
def torn (g : Nat → List UInt8) (ks : List (Nat × List UInt8)) (t : Nat) : List (Nat × List UInt8) :=
  if ks = [] ∨ t = 0 then ks else ks.dropLast ++ [((ks.getLastD (0, zer64)).1, (ks.getLastD (0, zer64)).2.take t ++ (laid g ks.dropLast (ks.getLastD (0, zer64)).1).drop t)]
theorem torn_none (g : Nat → List UInt8) (ks : List (Nat × List UInt8)) (t : Nat) (h : ks = [] ∨ t = 0) : torn g ks t = ks := if_pos h
theorem setRow_grownBy (w : World) (p : Nat) (cs : Array Value) : w.grownBy (w.setRow p cs) (some p) := ⟨rfl, rfl, rfl, by simp [World.setRow], fun k _ hk => setRow_other w p k cs (fun e => hk (by rw [e]))⟩
section
variable (w : World) (p many : Nat) (g : Nat → List UInt8) (xs : List (Nat × List UInt8)) (left : Int) (stops : Bool)
set_option maxRecDepth 100000 in
set_option maxHeartbeats 4000000 in
theorem crash_gives (hD : DkIs w p many g xs left stops) (t : Nat) (ht : t ≤ 63) (K : Option Addr) (kc : Nat) (bs : List Bool) (hk : InG w w.heap.size 1 K bs.length kc (bs.map Value.bool)) (hl : xs.length ≤ 1000000) :
    Calls Try.prog 25 #[.pointer (some ⟨p, 0, none⟩), .int .i64 (t : Int), .slice K bs.length kc] w fun e w' => e = .returned (.int .i64 0) ∧ DkIs w' p many (laid g (torn g (keptTo xs bs xs.length) t)) [] 0 false ∧ w.grownBy w' (some p) := by
  have hB0 : Below w.heap.size w (w.alloc (.cells #[.int .i64 (t : Int)] 3)) := (Below.refl _ w).alloc (Nat.le_refl _) _
  have b0 := BlkIs.new w 3 #[.int .i64 (t : Int)]
  have HA : Calls Try.prog 88 #[.pointer (some ⟨p, 0, none⟩), .slice (some ⟨w.heap.size + 1, 0, none⟩) 1 1] ((w.alloc (.cells #[.int .i64 (t : Int)] 3)).alloc (.cells #[.func (.func 97) #[] #[.pointer (some ⟨w.heap.size, 0, none⟩)], .int .i64 2] 157)) fun e w' => e = .returned (.int .i64 0) ∧ Below (w.heap.size + 1) (w.alloc (.cells #[.int .i64 (t : Int)] 3)) w' := by
    have h := asked1_gives (w.alloc (.cells #[.int .i64 (t : Int)] 3)) p many g xs left stops (hD.grow hB0) (askTear w.heap.size t) (ans_tear _ w.heap.size t b0)
    have hf : firstE [askTear w.heap.size t] = 0 := firstE_none _ (fun j h => by
      have : j = 0 := by simp at h; omega
      subst this
      simp [askTear]
      omega)
    rw [hf, World.size_alloc] at h
    exact h
  have hkm := hk.le
  have hkx := hk.max
  go_enter Try.func25, Try.ntmps25
  go_wp2_with (go_at_call 88; refine HA.mono ?_; rintro e w2 ⟨rfl, hB2⟩; have hB3 : Below w.heap.size w w2 := hB0.trans (hB2.mono (by omega)); have b2 := b0.below hB2 (Nat.lt_succ_self _); obtain ⟨r, A, c, hb, hm, hw, hx⟩ := (hD.grow hB3).has; have k2 : w2.cell? ⟨p, 2, none⟩ = some (.slice A xs.length c) := (by rw [hb.cell]; rfl))
  have hxk := hk.grow hB3
  go_loopw [8, 26] (fun v i wr => ∃ (k : Nat) (A8 : Option Addr) (c8 : Nat), k ≤ xs.length ∧ i = .int .i64 k ∧ v = .slice A8 (keptTo xs bs k).length c8 ∧ wr.ownsRow w2.heap.size 164 65 (.slice A8 (keptTo xs bs k).length c8) (keptTo xs bs k).length (flC (keptTo xs bs k)) ∧ Below w2.heap.size w2 wr) (fun _ i _ => xs.length - (intOf i).toNat)
  case atStart => exact ⟨0, none, 0, by omega, rfl, rfl, World.ownsRow_nil _ _ _ _, Below.refl _ _⟩
  case round =>
    obtain ⟨k, A8, c8, hkl, rfl, rfl, own, hBr⟩ := hrel
    by_cases hlt : k < xs.length
    · obtain ⟨gA, oA, rfl, hgA, _⟩ := hx.lies (by omega)
      have hr : wr.rangeAt gA (oA + k * 65) (lsC xs[k]) := fun j v hj => (hBr.cell (p := ⟨gA, oA + k * 65 + j, none⟩) hgA).trans (InW.elem ⟨hw, hx⟩ k hlt j v hj)
      have hw6 : xs[k].2.length = 64 := hw _ (List.getElem_mem hlt)
      have hwk : IntKind.i64.wrap ((k : Int) + 1) = (k : Int) + 1 := wrap_i64_fr _ (by omega) (by omega)
      have hyes : bs.getD k false = true → keptTo xs bs (k + 1) = keptTo xs bs k ++ [xs[k]] := fun h => by
        have e : keptTo xs bs (k + 1) = if bs.getD k false then keptTo xs bs k ++ [xs.getD k (0, zer64)] else keptTo xs bs k := rfl
        rw [e, if_pos h, List.getD_eq_getElem?_getD, List.getElem?_eq_getElem hlt]
        rfl
      have hnot : bs.getD k false = false → keptTo xs bs (k + 1) = keptTo xs bs k := fun h => by
        rw [keptTo, h]
        rfl
      have hkn : (keptTo xs bs k).length ≤ k := keptTo_le xs bs k
      obtain ⟨x, hxe⟩ : ∃ x, x = xs[k] := ⟨_, rfl⟩
      rw [← hxe] at hr hw6 hyes
      obtain ⟨x1, x2⟩ := x
      simp only at hw6
      have L65 := lsC_length (x := (x1, x2)) hw6
      have hz1 : (lsC (x1, x2)).toArray.size = (lsC (0, zer64)).toArray.size := by rw [List.size_toArray, List.size_toArray, L65]; rfl
      have n0 := BlkIs.new wr 164 (lsC (0, zer64)).toArray
      have nb := n0.setRow (lsC (x1, x2)).toArray
      have nB : Below wr.heap.size wr ((wr.alloc (.cells (lsC (0, zer64)).toArray 164)).setRow wr.heap.size (lsC (x1, x2)).toArray) := below_setRow ((Below.refl _ wr).alloc (Nat.le_refl _) _) (Nat.le_refl _) _
      obtain ⟨W, hW⟩ : ∃ W, W = (wr.alloc (.cells (lsC (0, zer64)).toArray 164)).setRow wr.heap.size (lsC (x1, x2)).toArray := ⟨_, rfl⟩
      rw [← hW] at nb nB
      have hBW := hBr.trans (nB.mono hBr.size)
      have ownW := ownG_grow own nB
      have hsz65 : (lsC (x1, x2)).toArray.size = 65 := by rw [List.size_toArray, L65]
      have HW := Lib.hid hW
      have H6 := Lib.hid hw6
      have H65 := Lib.hid L65
      have HR := Lib.hid hr
      have HZ1 := Lib.hid hz1
      have HS65 := Lib.hid hsz65
      clear hW hw6 L65 hr hz1 hsz65 hxe HA hBr own
      rcases hkb : decide (k < bs.length) with _ | _
      · have hN := Lib.hid (hnot (by
          have : ¬ k < bs.length := of_decide_eq_false hkb
          rw [List.getD_eq_getElem?_getD, List.getElem?_eq_none (by omega)]
          rfl))
        clear hyes hnot
        go_wp2_with (first
          | (refine wp_exec rfl (x_loadM rowLoose HR.out H65.out rfl rfl) ?_)
          | (refine wp_exec rfl (x_allocLs rfl) ?_)
          | (refine wp_storeW rfl 164 (.tmp 10) (.tmp 30) rfl wr.heap.size rfl rfl rowLoose n0 (by rfl) HZ1.out (lsC_one _) ?_; rw [← HW.out]))
        refine ⟨⟨k + 1, A8, c8, by omega, by simp, by rw [hN.out], ?_, hBW⟩, by simp [intOf]; omega⟩
        rw [hN.out]
        exact ownW
      · have hkl2 : k < bs.length := of_decide_eq_true hkb
        have hgd : bs.getD k false = bs[k] := by rw [List.getD_eq_getElem?_getD, List.getElem?_eq_getElem hkl2]; rfl
        obtain ⟨gK, oK, rfl, hgK, hrK⟩ := hk.lies (by omega)
        have hcK : W.cell? ⟨gK, oK + k, none⟩ = some (.bool bs[k]) := by
          rw [hBW.cell (p := ⟨gK, oK + k, none⟩) (Nat.lt_of_lt_of_le hgK hB3.size), hB3.cell (p := ⟨gK, oK + k, none⟩) hgK]
          exact hrK k _ (by simp [hkl2])
        have h0k : (0 : Int) ≤ (k : Int) := by omega
        have hkk : (k : Int) < (bs.length : Int) := by omega
        rw [hgd] at hyes hnot
        generalize bs[k] = bk at *
        cases bk with
        | false =>
          have hN := Lib.hid (hnot rfl)
          clear hyes hnot hgd
          go_wp2_with (first
            | (refine wp_exec rfl (x_loadM rowLoose HR.out H65.out rfl rfl) ?_)
            | (refine wp_exec rfl (x_allocLs rfl) ?_)
            | (refine wp_storeW rfl 164 (.tmp 10) (.tmp 30) rfl wr.heap.size rfl rfl rowLoose n0 (by rfl) HZ1.out (lsC_one _) ?_; rw [← HW.out]))
          refine ⟨⟨k + 1, A8, c8, by omega, by simp, by rw [hN.out], ?_, hBW⟩, by simp [intOf]; omega⟩
          rw [hN.out]
          exact ownW
        | true =>
          have hN := Lib.hid (hyes rfl)
          have hBa : Below W.heap.size W (W.alloc (.cells (lsC (x1, x2)).toArray 164)) := (Below.refl _ W).alloc (Nat.le_refl _) _
          clear hyes hnot hgd
          go_wp2_with (first
            | (refine wp_exec rfl (x_loadM rowLoose HR.out H65.out rfl rfl) ?_)
            | (refine wp_exec rfl (x_allocLs rfl) ?_)
            | (refine wp_storeW rfl 164 (.tmp 10) (.tmp 30) rfl wr.heap.size rfl rfl rowLoose n0 (by rfl) HZ1.out (lsC_one _) ?_; rw [← HW.out])
            | (refine wp_loadW rfl 164 (.tmp 10) rfl wr.heap.size rfl rowLoose nb HS65.out ?_)
            | (refine wp_exec rfl (x_sliceLs x1 x2 H6.out rfl rfl) ?_)
            | (at_builtin; refine wp_appG rfl elLoose (.tmp 41) (.tmp 43) rfl w2.heap.size (.slice A8 (keptTo xs bs k).length c8) (keptTo xs bs k).length (flC (keptTo xs bs k)) rfl (ownG_grow ownW hBa) _ _ 1 1 (lsC (x1, x2)) rfl (row_new W x1 x2 H6.out) (by unfold maxLen; omega) (by omega) (hBW.trans (hBa.mono hBW.size)).size ?_; intro v5 w5 own5 hg5))
          have e1 : flC [(x1, x2)] = lsC (x1, x2) := by simp [flC]
          have hB5 := (hBW.trans (hBa.mono hBW.size)).trans (grown_below hg5 (hBW.trans (hBa.mono hBW.size)).size (ownG_ge (ownG_grow ownW hBa)))
          rw [← e1, ← flC_append] at own5
          obtain ⟨A5, c5, rfl, _⟩ := ownG_in own5 (flC_one _)
          refine ⟨⟨k + 1, A5, c5, by omega, by simp, by rw [hN.out, List.length_append]; rfl, ?_, hB5⟩, by simp [intOf]; omega⟩
          rw [hN.out, List.length_append]
          exact own5
    · obtain rfl : k = xs.length := by omega
      have hwks := keptTo_wide hw bs xs.length
      have hkn := keptTo_le xs bs xs.length
      have hc4 : wr.cell? ⟨w.heap.size, 0, none⟩ = some (.int .i64 (t : Int)) := (hBr.cell (p := ⟨w.heap.size, 0, none⟩) b2.lt).trans b2.boxed
      obtain ⟨ks, hks⟩ : ∃ ks, ks = keptTo xs bs xs.length := ⟨_, rfl⟩
      rw [← hks] at hwks hkn own
      rw [← hks]
      have HKS := Lib.hid hks
      clear hks
      have hwk : IntKind.i64.wrap ((ks.length : Int) - 1) = (ks.length : Int) - 1 := wrap_i64_fr _ (by omega) (by omega)
      have hin8 : InW wr wr.heap.size A8 c8 ks := by
        obtain ⟨A', c', e, h⟩ := ownG_in own (flC_one _)
        injection e with e1 e2 e3
        subst e1 e3
        exact ⟨hwks, h⟩
      have hBw : Below w.heap.size w wr := hB3.trans (hBr.mono hB3.size)
      have hbr := hb.below hBr hb.lt
      have hmr := hm.below hBr hm.lt
      have hplt := hbr.lt
      have hmlt := hmr.lt
      by_cases htr : ks = [] ∨ t = 0
      · have HTQ := Lib.hid htr
        have HTR := Lib.hid (torn_none g ks t htr)
        clear htr
        obtain ⟨A9, c9, ks9, wz, h9a, h9b, h9c, h9d⟩ : ∃ (A9 : Option Addr) (c9 : Nat) (ks9 : List (Nat × List UInt8)) (wz : World), A9 = A8 ∧ c9 = c8 ∧ ks9 = ks ∧ wz = wr := ⟨_, _, _, _, rfl, rfl, rfl, rfl⟩
        subst h9a h9b h9c h9d
        go_wp2
        all_goals first
          | (exfalso; rcases HTQ.out with h | h; (have h' : ks9.length = 0 := (by rw [h]; rfl); omega); omega)
          | skip
        all_goals
          have HP : ∀ W, Below wz.heap.size wz W → W.cell? ⟨p, 0, none⟩ = some (.map (some r)) ∧ W.cell? ⟨p, 1, none⟩ = some (.int .i64 (many : Int)) := fun W hW => by
            have b := hbr.below hW hplt
            exact ⟨by rw [b.cell]; rfl, by rw [b.cell]; rfl⟩
          have hBd : Below wz.heap.size wz wz.drew := (Below.refl _ wz).drew
          have HN := now_gives wz.drew r g A9 c9 ks9 (hmr.grow hBd) (hin8.grow hBd) (by omega)
          refine RegF.start (fun W => Below wz.heap.size wz W) 13 (by kernel_rfl) ?_
          refine RegF.take 0 (.pointer (some ⟨p, 0, none⟩)) rfl (by kernel_rfl) (by kernel_rfl) (by kernel_rfl) (by kernel_rfl) (fun _ _ _ h => h) hBd (RegF.yld rfl (fun W hW => by go_simp)) ?_
          simp only [List.getElem_toArray, List.getElem_cons_succ, List.getElem_cons_zero, Act.put, List.setIfInBounds_toArray, List.set_cons_zero, List.set_cons_succ]
          refine RegF.take 1 (.pointer (some ⟨p, 0, none⟩)) rfl (by kernel_rfl) (by kernel_rfl) (by kernel_rfl) (by kernel_rfl) (fun _ _ _ h => h) hBd (RegF.yld rfl (fun W hW => by go_simp)) ?_
          simp only [List.getElem_toArray, List.getElem_cons_succ, List.getElem_cons_zero, Act.put, List.setIfInBounds_toArray, List.set_cons_zero, List.set_cons_succ]
          refine RegF.take 2 (.pointer (some ⟨p, 0, none⟩)) rfl (by kernel_rfl) (by kernel_rfl) (by kernel_rfl) (by kernel_rfl) (fun _ _ _ h => h) hBd (RegF.yld rfl (fun W hW => by go_simp)) ?_
          simp only [List.getElem_toArray, List.getElem_cons_succ, List.getElem_cons_zero, Act.put, List.setIfInBounds_toArray, List.set_cons_zero, List.set_cons_succ]
          refine RegF.take 3 (.pointer (some ⟨p, 0, none⟩)) rfl (by kernel_rfl) (by kernel_rfl) (by kernel_rfl) (by kernel_rfl) (fun _ _ _ h => h) hBd (RegF.yld rfl (fun W hW => by go_simp)) ?_
          simp only [List.getElem_toArray, List.getElem_cons_succ, List.getElem_cons_zero, Act.put, List.setIfInBounds_toArray, List.set_cons_zero, List.set_cons_succ]
          refine RegF.take 4 (.map (some r)) rfl (by kernel_rfl) (by kernel_rfl) (by kernel_rfl) (by kernel_rfl) (fun _ _ _ h => h) hBd (RegF.yld rfl (fun W hW => by have e := (HP W hW).1; go_simp)) ?_
          simp only [List.getElem_toArray, List.getElem_cons_succ, List.getElem_cons_zero, Act.put, List.setIfInBounds_toArray, List.set_cons_zero, List.set_cons_succ]
          refine RegF.take 5 (.slice A9 ks9.length c9) rfl (by kernel_rfl) (by kernel_rfl) (by kernel_rfl) (by kernel_rfl) (fun _ _ _ h => h) hBd (RegF.yld rfl (fun W hW => by go_simp)) ?_
          simp only [List.getElem_toArray, List.getElem_cons_succ, List.getElem_cons_zero, Act.put, List.setIfInBounds_toArray, List.set_cons_zero, List.set_cons_succ]
          refine RegF.take 7 (.pointer (some ⟨p, 0, none⟩)) rfl (by kernel_rfl) (by kernel_rfl) (by kernel_rfl) (by kernel_rfl) (fun _ _ _ h => h) hBd (RegF.yld rfl (fun W hW => by go_simp)) ?_
          simp only [List.getElem_toArray, List.getElem_cons_succ, List.getElem_cons_zero, Act.put, List.setIfInBounds_toArray, List.set_cons_zero, List.set_cons_succ]
          refine RegF.take 8 (.pointer (some ⟨p, 0, none⟩)) rfl (by kernel_rfl) (by kernel_rfl) (by kernel_rfl) (by kernel_rfl) (fun _ _ _ h => h) hBd (RegF.yld rfl (fun W hW => by go_simp)) ?_
          simp only [List.getElem_toArray, List.getElem_cons_succ, List.getElem_cons_zero, Act.put, List.setIfInBounds_toArray, List.set_cons_zero, List.set_cons_succ]
          refine RegF.take 9 (.pointer (some ⟨p, 1, none⟩)) rfl (by kernel_rfl) (by kernel_rfl) (by kernel_rfl) (by kernel_rfl) (fun _ _ _ h => h) hBd (RegF.yld rfl (fun W hW => by go_simp)) ?_
          simp only [List.getElem_toArray, List.getElem_cons_succ, List.getElem_cons_zero, Act.put, List.setIfInBounds_toArray, List.set_cons_zero, List.set_cons_succ]
          refine RegF.take 10 (.int .i64 (many : Int)) rfl (by kernel_rfl) (by kernel_rfl) (by kernel_rfl) (by kernel_rfl) (fun _ _ _ h => h) hBd (RegF.yld rfl (fun W hW => by have e := (HP W hW).2; go_simp)) ?_
          simp only [List.getElem_toArray, List.getElem_cons_succ, List.getElem_cons_zero, Act.put, List.setIfInBounds_toArray, List.set_cons_zero, List.set_cons_succ]
          refine RegF.one 6 (by kernel_rfl) ?_
          refine RegF.opC 94 #[.tmp 89, .tmp 90] #[151, 152] rfl rfl rfl (enters_of Try.func94 (by kernel_rfl) rfl) #[.map (some r), .slice A9 ks9.length c9] (by simp only [List.map_toArray, List.map_cons, List.map_nil]; rfl) (HN.mono ?_)
          rintro e w6 ⟨rfl, hm6, hB6⟩
          have hB6w : Below wz.heap.size wz w6 := hBd.trans (hB6.mono hBd.size)
          have hb6 := hbr.below hB6w hplt
          refine ⟨_, rfl, fun _ => hB6w, ?_⟩
          simp only [List.getElem_toArray, List.getElem_cons_succ, List.getElem_cons_zero, Act.put, List.setIfInBounds_toArray, List.set_cons_zero, List.set_cons_succ]
          refine RegF.one 11 (by kernel_rfl) ?_
          refine RegF.opV (.agg (dkC wz.heap.size many none 0 0 0 false)) rfl rfl (by unfold dkC; go_simp) ⟨fun _ => hB6w, ?_⟩
          simp only [List.getElem_toArray, List.getElem_cons_succ, List.getElem_cons_zero, Act.put, List.setIfInBounds_toArray, List.set_cons_zero, List.set_cons_succ]
          refine RegF.one 12 (by kernel_rfl) ?_
          refine RegF.opV (.pointer (some ⟨p, 0, none⟩)) rfl rfl (by go_simp) ⟨fun _ => hB6w, ?_⟩
          simp only [List.getElem_toArray, List.getElem_cons_succ, List.getElem_cons_zero, Act.put, List.setIfInBounds_toArray, List.set_cons_zero, List.set_cons_succ]
          refine RegF.one 13 (by kernel_rfl) ?_
          refine RegF.opS (w' := w6.setRow p (dkC wz.heap.size many none 0 0 0 false)) rfl rfl (x_storeW _ (.tmp 97) (.tmp 96) rfl p rfl rfl rowDisk hb6 rfl rfl (dkC_one _ _ _ _ _ _ _)) ⟨fun h => absurd rfl h, ?_⟩
          simp only [List.getElem_toArray, List.getElem_cons_succ, List.getElem_cons_zero, Act.put, List.setIfInBounds_toArray, List.set_cons_zero, List.set_cons_succ]
          refine RegF.done (by kernel_rfl) ?_
          have hfin : DkIs (w6.setRow p (dkC wz.heap.size many none 0 0 0 false)) p many (laid g ks9) [] 0 false := ⟨wz.heap.size, none, 0, hb6.setRow _, hm6.keep (setRow_other _ _ _ _ (show wz.heap.size ≠ p by omega)), InW.mt _ _⟩
          have hgfin : w.grownBy (w6.setRow p (dkC wz.heap.size many none 0 0 0 false)) (some p) := grownBy_trans (below_grownBy (hBw.trans (hB6w.mono hBw.size)) p) (setRow_grownBy w6 p _)
          generalize w6.setRow p (dkC wz.heap.size many none 0 0 0 false) = w7 at *
          go_wp2
          go_ret
          exact ⟨rfl, (by rw [← HKS.out, HTR.out]; exact hfin), hgfin⟩
      · have hne : ks ≠ [] := fun h => htr (.inl h)
        have ht0 : 0 < t := by
          rcases Nat.eq_zero_or_pos t with h | h
          · exact absurd (.inr h) htr
          · exact h
        obtain ⟨ki, ⟨x1, x2⟩, hke⟩ : ∃ ki x, ks = ki ++ [x] := ⟨ks.dropLast, ks.getLast hne, (List.dropLast_concat_getLast hne).symm⟩
        obtain ⟨m, hm1⟩ : ∃ m, m = ki.length := ⟨_, rfl⟩
        have hlen : ks.length = m + 1 := by rw [hke, hm1]; simp
        rw [hlen] at own hkn hwk
        have hin8' := hin8.2
        rw [hlen] at hin8'
        obtain ⟨g8, o8, e8, hg8, hr8⟩ := hin8'.lies (by omega)
        have hc8 := hin8'.le
        have ho8 : o8 = 0 := by
          rcases own.2 with ⟨e, _⟩ | ⟨g', cap, cur, e, _⟩
          · cases e
          · injection e with e1 e2 e3
            rw [e8] at e1
            injection e1 with e1
            injection e1
        subst ho8
        subst e8
        rw [hlen]
        have hE : wr.cell? ⟨g8, m * 65, none⟩ = some (.int .i64 (x1 : Int)) := by
          have h := InW.elem hin8 m (by rw [hlen]; omega) 0
          have e : ks[m]'(by rw [hlen]; omega) = (x1, x2) := by simp [hke, hm1]
          rw [e] at h
          have := h _ rfl
          simpa using this
        have HP : ∀ W, Below wr.heap.size wr W → W.cell? ⟨p, 0, none⟩ = some (.map (some r)) := fun W hW => by
          have b := hbr.below hW hplt
          rw [b.cell]; rfl
        have HE : ∀ W, Below wr.heap.size wr W → W.cell? ⟨g8, m * 65, none⟩ = some (.int .i64 (x1 : Int)) := fun W hW => (hW.cell (p := ⟨g8, m * 65, none⟩) hg8).trans hE
        have hBd : Below wr.heap.size wr wr.drew := (Below.refl _ wr).drew
        have hwm : IntKind.i64.wrap (((m + 1 : Nat) : Int) - 1) = (m : Int) := by rw [hwk]; omega
        have hm0 : (0 : Int) ≤ (m : Int) := by omega
        have hmc : (m : Int) ≤ (c8 : Int) := by omega
        have hmm : (m : Int) < ((m + 1 : Nat) : Int) := by omega
        have HM := Lib.hid hm1
        have HL := Lib.hid hlen
        have HE2 := Lib.hid hke
        clear hwk htr hm1 hlen hke hne
        go_wp2
        refine RegF.start (fun W => Below wr.heap.size wr W) 16 (by kernel_rfl) ?_
        refine RegF.take 0 (.pointer (some ⟨p, 0, none⟩)) rfl (by kernel_rfl) (by kernel_rfl) (by kernel_rfl) (by kernel_rfl) (fun _ _ _ h => h) hBd (RegF.yld rfl (fun W hW => by go_simp)) ?_
        simp only [List.getElem_toArray, List.getElem_cons_succ, List.getElem_cons_zero, Act.put, List.setIfInBounds_toArray, List.set_cons_zero, List.set_cons_succ]
        refine RegF.take 1 (.pointer (some ⟨p, 0, none⟩)) rfl (by kernel_rfl) (by kernel_rfl) (by kernel_rfl) (by kernel_rfl) (fun _ _ _ h => h) hBd (RegF.yld rfl (fun W hW => by go_simp)) ?_
        simp only [List.getElem_toArray, List.getElem_cons_succ, List.getElem_cons_zero, Act.put, List.setIfInBounds_toArray, List.set_cons_zero, List.set_cons_succ]
        refine RegF.take 2 (.pointer (some ⟨p, 0, none⟩)) rfl (by kernel_rfl) (by kernel_rfl) (by kernel_rfl) (by kernel_rfl) (fun _ _ _ h => h) hBd (RegF.yld rfl (fun W hW => by go_simp)) ?_
        simp only [List.getElem_toArray, List.getElem_cons_succ, List.getElem_cons_zero, Act.put, List.setIfInBounds_toArray, List.set_cons_zero, List.set_cons_succ]
        refine RegF.take 3 (.map (some r)) rfl (by kernel_rfl) (by kernel_rfl) (by kernel_rfl) (by kernel_rfl) (fun _ _ _ h => h) hBd (RegF.yld rfl (fun W hW => by have e := HP W hW; go_simp)) ?_
        simp only [List.getElem_toArray, List.getElem_cons_succ, List.getElem_cons_zero, Act.put, List.setIfInBounds_toArray, List.set_cons_zero, List.set_cons_succ]
        refine RegF.take 4 (.slice (some ⟨g8, 0, none⟩) (m + 1) c8) rfl (by kernel_rfl) (by kernel_rfl) (by kernel_rfl) (by kernel_rfl) (fun _ _ _ h => h) hBd (RegF.yld rfl (fun W hW => by go_simp)) ?_
        simp only [List.getElem_toArray, List.getElem_cons_succ, List.getElem_cons_zero, Act.put, List.setIfInBounds_toArray, List.set_cons_zero, List.set_cons_succ]
        refine RegF.take 5 (.int .i64 (m : Int)) rfl (by kernel_rfl) (by kernel_rfl) (by kernel_rfl) (by kernel_rfl) (fun _ _ _ h => h) hBd (RegF.yld rfl (fun W hW => by go_simp)) ?_
        simp only [List.getElem_toArray, List.getElem_cons_succ, List.getElem_cons_zero, Act.put, List.setIfInBounds_toArray, List.set_cons_zero, List.set_cons_succ]
        refine RegF.take 6 (.int .i64 (m : Int)) rfl (by kernel_rfl) (by kernel_rfl) (by kernel_rfl) (by kernel_rfl) (fun _ _ _ h => h) hBd (RegF.yld rfl (fun W hW => by go_simp)) ?_
        simp only [List.getElem_toArray, List.getElem_cons_succ, List.getElem_cons_zero, Act.put, List.setIfInBounds_toArray, List.set_cons_zero, List.set_cons_succ]
        refine RegF.take 7 (.slice (some ⟨g8, 0, none⟩) m m) rfl (by kernel_rfl) (by kernel_rfl) (by kernel_rfl) (by kernel_rfl) (fun _ _ _ h => h) hBd (RegF.yld rfl (fun W hW => by go_simp)) ?_
        simp only [List.getElem_toArray, List.getElem_cons_succ, List.getElem_cons_zero, Act.put, List.setIfInBounds_toArray, List.set_cons_zero, List.set_cons_succ]
        refine RegF.take 9 (.slice (some ⟨g8, 0, none⟩) (m + 1) c8) rfl (by kernel_rfl) (by kernel_rfl) (by kernel_rfl) (by kernel_rfl) (fun _ _ _ h => h) hBd (RegF.yld rfl (fun W hW => by go_simp)) ?_
        simp only [List.getElem_toArray, List.getElem_cons_succ, List.getElem_cons_zero, Act.put, List.setIfInBounds_toArray, List.set_cons_zero, List.set_cons_succ]
        refine RegF.take 10 (.int .i64 (m : Int)) rfl (by kernel_rfl) (by kernel_rfl) (by kernel_rfl) (by kernel_rfl) (fun _ _ _ h => h) hBd (RegF.yld rfl (fun W hW => by go_simp)) ?_
        simp only [List.getElem_toArray, List.getElem_cons_succ, List.getElem_cons_zero, Act.put, List.setIfInBounds_toArray, List.set_cons_zero, List.set_cons_succ]
        refine RegF.take 11 (.pointer (some ⟨g8, m * 65, none⟩)) rfl (by kernel_rfl) (by kernel_rfl) (by kernel_rfl) (by kernel_rfl) (fun _ _ _ h => h) hBd (RegF.yld rfl (fun W hW => by go_simp; intro h; omega)) ?_
        simp only [List.getElem_toArray, List.getElem_cons_succ, List.getElem_cons_zero, Act.put, List.setIfInBounds_toArray, List.set_cons_zero, List.set_cons_succ]
        refine RegF.take 12 (.pointer (some ⟨g8, m * 65, none⟩)) rfl (by kernel_rfl) (by kernel_rfl) (by kernel_rfl) (by kernel_rfl) (fun _ _ _ h => h) hBd (RegF.yld rfl (fun W hW => by go_simp)) ?_
        simp only [List.getElem_toArray, List.getElem_cons_succ, List.getElem_cons_zero, Act.put, List.setIfInBounds_toArray, List.set_cons_zero, List.set_cons_succ]
        refine RegF.take 13 (.int .i64 (x1 : Int)) rfl (by kernel_rfl) (by kernel_rfl) (by kernel_rfl) (by kernel_rfl) (fun _ _ _ h => h) hBd (RegF.yld rfl (fun W hW => by have e := HE W hW; go_simp)) ?_
        simp only [List.getElem_toArray, List.getElem_cons_succ, List.getElem_cons_zero, Act.put, List.setIfInBounds_toArray, List.set_cons_zero, List.set_cons_succ]
        have HN : ∀ W, Below wr.heap.size wr W → Calls Try.prog 94 #[.map (some r), .slice (some ⟨g8, 0, none⟩) m m] W fun e w' => e = .returned (.map (some W.heap.size)) ∧ MapF w' W.heap.size (laid g ki) ∧ Below W.heap.size W w' := by
          intro W hW
          have hwki : Wide ki := fun x hx => hwks x (by rw [HE2.out]; simp [hx])
          have ht := hin8'.take m m (by omega) (Nat.le_refl _) (by omega)
          rw [flC_take hwks m (by rw [HL.out]; omega)] at ht
          have e : ks.take m = ki := by rw [HE2.out, HM.out]; simp
          rw [e] at ht
          have hmk := HM.out
          have h := now_gives W r g (some ⟨g8, 0, none⟩) m ki (hmr.grow hW) ⟨hwki, by rw [← hmk]; exact ht.grow hW⟩ (by omega)
          rw [← hmk] at h
          exact h
        have HBa : ∀ W cs T, Below wr.heap.size wr W → Below wr.heap.size wr (W.alloc (.cells cs T)) := fun W cs T h => h.alloc h.size _
        have HZY : Hid (((laid g ki x1).map b8).toArray.size = (zer64.map b8).toArray.size) := Lib.hid (by
          rw [List.size_toArray, List.length_map, laid_len ki g hm.len (fun x hx => hwks x (by rw [HE2.out]; simp [hx]))]
          rfl)
        refine RegF.two 8 15 (by kernel_rfl) ?p8 ?p15
        case' p8 =>
          refine RegF.opC 94 #[.tmp 58, .tmp 62] #[151, 152] rfl rfl rfl (enters_of Try.func94 (by kernel_rfl) rfl) #[.map (some r), .slice (some ⟨g8, 0, none⟩) m m] (by simp only [List.map_toArray, List.map_cons, List.map_nil]; rfl) ((HN _ hBd).mono ?_)
          rintro e w6 ⟨rfl, hm6, hB6⟩
          have hB6w : Below wr.heap.size wr w6 := hBd.trans (hB6.mono (hBd).size)
          refine ⟨_, rfl, fun _ => hB6w, ?_⟩
          simp only [List.getElem_toArray, List.getElem_cons_succ, List.getElem_cons_zero, Act.put, List.setIfInBounds_toArray, List.set_cons_zero, List.set_cons_succ]
          refine RegF.two 14 15 (by kernel_rfl) ?q14 ?q15
          case' q14 =>
            refine RegF.opV _ rfl rfl (x_lookup hm6 rfl rfl rfl) ⟨fun _ => hB6w, ?_⟩
            simp only [List.getElem_toArray, List.getElem_cons_succ, List.getElem_cons_zero, Act.put, List.setIfInBounds_toArray, List.set_cons_zero, List.set_cons_succ]
            refine RegF.one 15 (by kernel_rfl) ?_
            refine RegF.opV _ rfl rfl (x_allocSec rfl) ⟨fun _ => HBa _ _ _ hB6w, ?_⟩
            simp only [List.getElem_toArray, List.getElem_cons_succ, List.getElem_cons_zero, Act.put, List.setIfInBounds_toArray, List.set_cons_zero, List.set_cons_succ]
            refine RegF.one 16 (by kernel_rfl) ?_
            refine RegF.opS (w' := (w6.alloc (.cells (zer64.map b8).toArray 162)).setRow w6.heap.size ((laid g ki x1).map b8).toArray) rfl rfl (x_storeW _ (.tmp 12) (.tmp 69) rfl w6.heap.size rfl rfl rowDSec (BlkIs.new w6 162 (zer64.map b8).toArray) (by rfl) HZY.out (b8_one _)) ⟨fun h => absurd rfl h, ?_⟩
            simp only [List.getElem_toArray, List.getElem_cons_succ, List.getElem_cons_zero, Act.put, List.setIfInBounds_toArray, List.set_cons_zero, List.set_cons_succ]
            refine RegF.done (by kernel_rfl) ?_
            have bq := (BlkIs.new w6 162 (zer64.map b8).toArray).setRow ((laid g ki x1).map b8).toArray
            have hBE : Below wr.heap.size wr ((w6.alloc (.cells (zer64.map b8).toArray 162)).setRow w6.heap.size ((laid g ki x1).map b8).toArray) := below_setRow (HBa _ _ _ hB6w) hB6w.size _
            have hqq : wr.heap.size ≤ w6.heap.size := hB6w.size
            generalize (w6.alloc (.cells (zer64.map b8).toArray 162)).setRow w6.heap.size ((laid g ki x1).map b8).toArray = wE at *
            obtain ⟨q, hq⟩ : ∃ q, q = w6.heap.size := ⟨_, rfl⟩
            rw [← hq] at bq hqq ⊢
            clear hq
          case' q15 =>
            refine RegF.opV _ rfl rfl (x_allocSec rfl) ⟨fun _ => HBa _ _ _ hB6w, ?_⟩
            simp only [List.getElem_toArray, List.getElem_cons_succ, List.getElem_cons_zero, Act.put, List.setIfInBounds_toArray, List.set_cons_zero, List.set_cons_succ]
            refine RegF.one 14 (by kernel_rfl) ?_
            refine RegF.opV _ rfl rfl (x_lookup (hm6.grow ((Below.refl _ w6).alloc (Nat.le_refl _) _)) rfl rfl rfl) ⟨fun _ => HBa _ _ _ hB6w, ?_⟩
            simp only [List.getElem_toArray, List.getElem_cons_succ, List.getElem_cons_zero, Act.put, List.setIfInBounds_toArray, List.set_cons_zero, List.set_cons_succ]
            refine RegF.one 16 (by kernel_rfl) ?_
            refine RegF.opS (w' := (w6.alloc (.cells (zer64.map b8).toArray 162)).setRow w6.heap.size ((laid g ki x1).map b8).toArray) rfl rfl (x_storeW _ (.tmp 12) (.tmp 69) rfl w6.heap.size rfl rfl rowDSec (BlkIs.new w6 162 (zer64.map b8).toArray) (by rfl) HZY.out (b8_one _)) ⟨fun h => absurd rfl h, ?_⟩
            simp only [List.getElem_toArray, List.getElem_cons_succ, List.getElem_cons_zero, Act.put, List.setIfInBounds_toArray, List.set_cons_zero, List.set_cons_succ]
            refine RegF.done (by kernel_rfl) ?_
            have bq := (BlkIs.new w6 162 (zer64.map b8).toArray).setRow ((laid g ki x1).map b8).toArray
            have hBE : Below wr.heap.size wr ((w6.alloc (.cells (zer64.map b8).toArray 162)).setRow w6.heap.size ((laid g ki x1).map b8).toArray) := below_setRow (HBa _ _ _ hB6w) hB6w.size _
            have hqq : wr.heap.size ≤ w6.heap.size := hB6w.size
            generalize (w6.alloc (.cells (zer64.map b8).toArray 162)).setRow w6.heap.size ((laid g ki x1).map b8).toArray = wE at *
            obtain ⟨q, hq⟩ : ∃ q, q = w6.heap.size := ⟨_, rfl⟩
            rw [← hq] at bq hqq ⊢
            clear hq
        case' p15 =>
          refine RegF.opV _ rfl rfl (x_allocSec rfl) ⟨fun _ => HBa _ _ _ hBd, ?_⟩
          simp only [List.getElem_toArray, List.getElem_cons_succ, List.getElem_cons_zero, Act.put, List.setIfInBounds_toArray, List.set_cons_zero, List.set_cons_succ]
          refine RegF.one 8 (by kernel_rfl) ?_
          refine RegF.opC 94 #[.tmp 58, .tmp 62] #[151, 152] rfl rfl rfl (enters_of Try.func94 (by kernel_rfl) rfl) #[.map (some r), .slice (some ⟨g8, 0, none⟩) m m] (by simp only [List.map_toArray, List.map_cons, List.map_nil]; rfl) ((HN _ (HBa _ _ _ hBd)).mono ?_)
          rintro e w6 ⟨rfl, hm6, hB6⟩
          have hB6w : Below wr.heap.size wr w6 := (HBa _ _ _ hBd).trans (hB6.mono ((HBa _ _ _ hBd)).size)
          refine ⟨_, rfl, fun _ => hB6w, ?_⟩
          simp only [List.getElem_toArray, List.getElem_cons_succ, List.getElem_cons_zero, Act.put, List.setIfInBounds_toArray, List.set_cons_zero, List.set_cons_succ]
          refine RegF.one 14 (by kernel_rfl) ?_
          refine RegF.opV _ rfl rfl (x_lookup hm6 rfl rfl rfl) ⟨fun _ => hB6w, ?_⟩
          simp only [List.getElem_toArray, List.getElem_cons_succ, List.getElem_cons_zero, Act.put, List.setIfInBounds_toArray, List.set_cons_zero, List.set_cons_succ]
          refine RegF.one 16 (by kernel_rfl) ?_
          refine RegF.opS (w' := (w6).setRow wr.heap.size ((laid g ki x1).map b8).toArray) rfl rfl (x_storeW _ (.tmp 12) (.tmp 69) rfl wr.heap.size rfl rfl rowDSec ((BlkIs.new wr.drew 162 (zer64.map b8).toArray).below hB6 (by simp)) (by rfl) HZY.out (b8_one _)) ⟨fun h => absurd rfl h, ?_⟩
          simp only [List.getElem_toArray, List.getElem_cons_succ, List.getElem_cons_zero, Act.put, List.setIfInBounds_toArray, List.set_cons_zero, List.set_cons_succ]
          refine RegF.done (by kernel_rfl) ?_
          have bq : BlkIs (w6.setRow wr.heap.size ((laid g ki x1).map b8).toArray) wr.heap.size 162 ((laid g ki x1).map b8).toArray := ((BlkIs.new wr.drew 162 (zer64.map b8).toArray).below hB6 (by simp)).setRow ((laid g ki x1).map b8).toArray
          have hBE : Below wr.heap.size wr (w6.setRow wr.heap.size ((laid g ki x1).map b8).toArray) := below_setRow hB6w (Nat.le_refl _) _
          have hqq : wr.heap.size ≤ wr.heap.size := Nat.le_refl _
          generalize w6.setRow wr.heap.size ((laid g ki x1).map b8).toArray = wE at *
          obtain ⟨q, hq⟩ : ∃ q, q = wr.heap.size := ⟨_, rfl⟩
          rw [← hq] at bq
          replace hqq : wr.heap.size ≤ q := (by omega)
          rw [show wr.drew.heap.size = wr.heap.size from rfl, ← hq]
          clear hq
        all_goals
          have hylen : (laid g ki x1).length = 64 := laid_len ki g hm.len (fun x hx => hwks x (by rw [HE2.out]; simp [hx])) x1
          have hcE : wE.cell? ⟨w.heap.size, 0, none⟩ = some (.int .i64 (t : Int)) := (hBE.cell (p := ⟨w.heap.size, 0, none⟩) (Nat.lt_of_lt_of_le b2.lt hBr.size)).trans hc4
          generalize hy : laid g ki x1 = y at *
          have HY := Lib.hid hy
          clear hy
          have hcd : wE.drew.cell? ⟨w.heap.size, 0, none⟩ = some (.int .i64 (t : Int)) := hcE
          have ht1 : (0 : Int) ≤ (t : Int) := by omega
          have hb1 : ¬ ((m : Int) + 1 ≤ (m : Int)) := by omega
          have hx26 : x2.length = 64 := hwks (x1, x2) (by rw [HE2.out]; simp)
          have hl2 : (x2.take t).length = t := by rw [List.length_take, hx26]; omega
          have hinx : InB wE.drew wr.heap.size (some ⟨g8, m * 65 + 1, none⟩) t (x2.take t) := by
            refine ⟨by rw [hl2]; exact Nat.le_refl _, by omega, (fun h => by cases h), fun _ => ⟨g8, m * 65 + 1, rfl, hg8, fun j hj => ?_⟩⟩
            have e : ks[m]'(by rw [HL.out]; omega) = (x1, x2) := by simp [HE2.out, HM.out]
            have h := InW.elem hin8 m (by rw [HL.out]; omega) (j + 1)
            rw [e] at h
            have hj2 : j < x2.length := by rw [hl2] at hj; omega
            have h2 := h (b8 x2[j]) (by simp [lsC, hj2])
            show wE.cell? ⟨g8, m * 65 + 1 + j, none⟩ = _
            rw [hBE.cell (p := ⟨g8, m * 65 + 1 + j, none⟩) hg8]
            rw [show 0 + m * 65 + (j + 1) = m * 65 + 1 + j from by omega] at h2
            rw [h2]
            simp [b8]
          have hc7 : (wE.drew.setRow q ((spliceB y 0 t (x2.take t)).map b8).toArray).cell? ⟨w.heap.size, 0, none⟩ = some (.int .i64 (t : Int)) :=
            (World.cell?_of_block (setRow_other wE.drew q w.heap.size _ (by have := b2.lt; have := hBr.size; omega))).trans hcd
          have HL2 := Lib.hid hl2
          have HYL := Lib.hid hylen
          clear hl2 hx26 hylen
          have ht2 : (t : Int) ≤ 64 := by omega
          go_wp2
          go_region_held3 (fun W => W.cell? ⟨w.heap.size, 0, none⟩ = some (.int .i64 (t : Int))) (first | exact hcd | (with_reducible assumption)) (first
            | (refine step_copyB (by rfl) (.tmp 71) (.tmp 78) (by rfl) q 0 y (x2.take t) (some ⟨g8, m * 65 + 1, none⟩) t wr.heap.size t 64 (by rfl) (by rw [HL2.out]; rfl) bq hinx (by rw [HYL.out]; omega) ?_))
        all_goals
          obtain ⟨z, hz⟩ : ∃ z, z = spliceB y 0 t (x2.take t) := ⟨_, rfl⟩
          have hzq : z = x2.take t ++ y.drop t := by
            rw [hz]
            unfold spliceB
            simp [HL2.out, HYL.out]
            exact List.take_of_length_le (Nat.le_of_eq HL2.out)
          have hzl : z.length = 64 := by rw [hzq, List.length_append, HL2.out, List.length_drop, HYL.out]; omega
          rw [← hz] at hc7 ⊢
          have hB7 : Below wr.heap.size wr (wE.drew.setRow q (z.map b8).toArray) := below_setRow hBE.drew hqq _
          have bq7 : BlkIs (wE.drew.setRow q (z.map b8).toArray) q 162 (z.map b8).toArray := bq.drew.setRow _
          have own7 := ownG_grow own hB7
          have hin7 : InW (wE.drew.setRow q (z.map b8).toArray) (wE.drew.setRow q (z.map b8).toArray).heap.size (some ⟨g8, 0, none⟩) c8 (ki ++ [(x1, x2)]) := by
            have := hin8.grow hB7
            rw [HE2.out] at this
            exact this
          generalize wE.drew.setRow q (z.map b8).toArray = W7 at *
          have hth : W7.there g8 (m * 65 + 1) (z.map b8).toArray.size := own_there own7 (m * 65 + 1) _ (by rw [List.size_toArray, List.length_map, hzl]; omega)
          have HTH := Lib.hid hth
          have HSI : Hid ((Try.prog.info? 162).map (·.size) = some (z.map b8).toArray.size) := Lib.hid (by rw [rowDSec.size, List.size_toArray, List.length_map, hzl])
          have HS1 : Hid ((z.map b8).toArray.all (·.oneCell') = true) := Lib.hid (all_oneCell_toArray (b8_one _))
          have HSP : Hid ((z.map b8).toArray.size = 64) := Lib.hid (by rw [List.size_toArray, List.length_map, hzl])
          have hin9 := inW_mid hin7 HM.out hzl
          have hgw : w2.heap.size ≤ g8 := ownG_ge own _ rfl
          have hBwz : Below w.heap.size w (W7.setCells g8 (m * 65 + 1) (z.map b8)) := below_setCellsL (Nat.le_trans hB3.size hgw) _ _ (hBw.trans (hB7.mono hBw.size))
          have hB2z : Below w2.heap.size w2 (W7.setCells g8 (m * 65 + 1) (z.map b8)) := below_setCellsL hgw _ _ (hBr.trans (hB7.mono hBr.size))
          have hbrz := hb.below hB2z hb.lt
          have hmrz := hm.grow hB2z
          have hpltz := hbrz.lt
          have hin9 : InW (W7.setCells g8 (m * 65 + 1) (z.map b8)) (W7.setCells g8 (m * 65 + 1) (z.map b8)).heap.size (some ⟨g8, 0, none⟩) c8 (ki ++ [(x1, z)]) := by rw [size_setCellsL]; exact hin9
          have HTR : Hid (torn g ks t = ki ++ [(x1, z)]) := Lib.hid (by
            unfold torn
            rw [if_neg (by rw [HE2.out]; simp; omega), HE2.out, hzq]
            simp [HY.out])
          have HK9 : Hid ((ki ++ [(x1, z)]).length = m + 1) := Lib.hid (by simp [HM.out])
          clear hz hzq hzl hth hin7 own7 hin8 hin8' own hinx hc7 hcd hcE hE HE HP hr8
          go_wp2_with (first
            | (refine wp_loadW rfl 162 (.tmp 12) rfl q rfl rowDSec bq7 HSP.out ?_)
            | (refine wpList_store_mid rfl 162 (.tmp 84) (.tmp 82) rfl g8 (m * 65 + 1) (z.map b8).toArray rfl rfl HTH.out HSI.out HS1.out ?_; rw [List.toList_toArray]))
          generalize W7.setCells g8 (m * 65 + 1) (z.map b8) = wz at *
          generalize ki ++ [(x1, z)] = ks9 at *
          have HP : ∀ W, Below wz.heap.size wz W → W.cell? ⟨p, 0, none⟩ = some (.map (some r)) ∧ W.cell? ⟨p, 1, none⟩ = some (.int .i64 (many : Int)) := fun W hW => by
            have b := hbrz.below hW hpltz
            exact ⟨by rw [b.cell]; rfl, by rw [b.cell]; rfl⟩
          have hBd : Below wz.heap.size wz wz.drew := (Below.refl _ wz).drew
          have HN := now_gives wz.drew r g (some ⟨g8, 0, none⟩) c8 ks9 (hmrz.grow hBd) (hin9.grow hBd) (by rw [HK9.out]; omega)
          rw [HK9.out] at HN
          refine RegF.start (fun W => Below wz.heap.size wz W) 13 (by kernel_rfl) ?_
          refine RegF.take 0 (.pointer (some ⟨p, 0, none⟩)) rfl (by kernel_rfl) (by kernel_rfl) (by kernel_rfl) (by kernel_rfl) (fun _ _ _ h => h) hBd (RegF.yld rfl (fun W hW => by go_simp)) ?_
          simp only [List.getElem_toArray, List.getElem_cons_succ, List.getElem_cons_zero, Act.put, List.setIfInBounds_toArray, List.set_cons_zero, List.set_cons_succ]
          refine RegF.take 1 (.pointer (some ⟨p, 0, none⟩)) rfl (by kernel_rfl) (by kernel_rfl) (by kernel_rfl) (by kernel_rfl) (fun _ _ _ h => h) hBd (RegF.yld rfl (fun W hW => by go_simp)) ?_
          simp only [List.getElem_toArray, List.getElem_cons_succ, List.getElem_cons_zero, Act.put, List.setIfInBounds_toArray, List.set_cons_zero, List.set_cons_succ]
          refine RegF.take 2 (.pointer (some ⟨p, 0, none⟩)) rfl (by kernel_rfl) (by kernel_rfl) (by kernel_rfl) (by kernel_rfl) (fun _ _ _ h => h) hBd (RegF.yld rfl (fun W hW => by go_simp)) ?_
          simp only [List.getElem_toArray, List.getElem_cons_succ, List.getElem_cons_zero, Act.put, List.setIfInBounds_toArray, List.set_cons_zero, List.set_cons_succ]
          refine RegF.take 3 (.pointer (some ⟨p, 0, none⟩)) rfl (by kernel_rfl) (by kernel_rfl) (by kernel_rfl) (by kernel_rfl) (fun _ _ _ h => h) hBd (RegF.yld rfl (fun W hW => by go_simp)) ?_
          simp only [List.getElem_toArray, List.getElem_cons_succ, List.getElem_cons_zero, Act.put, List.setIfInBounds_toArray, List.set_cons_zero, List.set_cons_succ]
          refine RegF.take 4 (.map (some r)) rfl (by kernel_rfl) (by kernel_rfl) (by kernel_rfl) (by kernel_rfl) (fun _ _ _ h => h) hBd (RegF.yld rfl (fun W hW => by have e := (HP W hW).1; go_simp)) ?_
          simp only [List.getElem_toArray, List.getElem_cons_succ, List.getElem_cons_zero, Act.put, List.setIfInBounds_toArray, List.set_cons_zero, List.set_cons_succ]
          refine RegF.take 5 (.slice (some ⟨g8, 0, none⟩) (m + 1) c8) rfl (by kernel_rfl) (by kernel_rfl) (by kernel_rfl) (by kernel_rfl) (fun _ _ _ h => h) hBd (RegF.yld rfl (fun W hW => by go_simp)) ?_
          simp only [List.getElem_toArray, List.getElem_cons_succ, List.getElem_cons_zero, Act.put, List.setIfInBounds_toArray, List.set_cons_zero, List.set_cons_succ]
          refine RegF.take 7 (.pointer (some ⟨p, 0, none⟩)) rfl (by kernel_rfl) (by kernel_rfl) (by kernel_rfl) (by kernel_rfl) (fun _ _ _ h => h) hBd (RegF.yld rfl (fun W hW => by go_simp)) ?_
          simp only [List.getElem_toArray, List.getElem_cons_succ, List.getElem_cons_zero, Act.put, List.setIfInBounds_toArray, List.set_cons_zero, List.set_cons_succ]
          refine RegF.take 8 (.pointer (some ⟨p, 0, none⟩)) rfl (by kernel_rfl) (by kernel_rfl) (by kernel_rfl) (by kernel_rfl) (fun _ _ _ h => h) hBd (RegF.yld rfl (fun W hW => by go_simp)) ?_
          simp only [List.getElem_toArray, List.getElem_cons_succ, List.getElem_cons_zero, Act.put, List.setIfInBounds_toArray, List.set_cons_zero, List.set_cons_succ]
          refine RegF.take 9 (.pointer (some ⟨p, 1, none⟩)) rfl (by kernel_rfl) (by kernel_rfl) (by kernel_rfl) (by kernel_rfl) (fun _ _ _ h => h) hBd (RegF.yld rfl (fun W hW => by go_simp)) ?_
          simp only [List.getElem_toArray, List.getElem_cons_succ, List.getElem_cons_zero, Act.put, List.setIfInBounds_toArray, List.set_cons_zero, List.set_cons_succ]
          refine RegF.take 10 (.int .i64 (many : Int)) rfl (by kernel_rfl) (by kernel_rfl) (by kernel_rfl) (by kernel_rfl) (fun _ _ _ h => h) hBd (RegF.yld rfl (fun W hW => by have e := (HP W hW).2; go_simp)) ?_
          simp only [List.getElem_toArray, List.getElem_cons_succ, List.getElem_cons_zero, Act.put, List.setIfInBounds_toArray, List.set_cons_zero, List.set_cons_succ]
          refine RegF.one 6 (by kernel_rfl) ?_
          refine RegF.opC 94 #[.tmp 89, .tmp 90] #[151, 152] rfl rfl rfl (enters_of Try.func94 (by kernel_rfl) rfl) #[.map (some r), .slice (some ⟨g8, 0, none⟩) (m + 1) c8] (by simp only [List.map_toArray, List.map_cons, List.map_nil]; rfl) (HN.mono ?_)
          rintro e w6 ⟨rfl, hm6, hB6⟩
          have hB6w : Below wz.heap.size wz w6 := hBd.trans (hB6.mono hBd.size)
          have hb6 := hbrz.below hB6w hpltz
          refine ⟨_, rfl, fun _ => hB6w, ?_⟩
          simp only [List.getElem_toArray, List.getElem_cons_succ, List.getElem_cons_zero, Act.put, List.setIfInBounds_toArray, List.set_cons_zero, List.set_cons_succ]
          refine RegF.one 11 (by kernel_rfl) ?_
          refine RegF.opV (.agg (dkC wz.heap.size many none 0 0 0 false)) rfl rfl (by unfold dkC; go_simp) ⟨fun _ => hB6w, ?_⟩
          simp only [List.getElem_toArray, List.getElem_cons_succ, List.getElem_cons_zero, Act.put, List.setIfInBounds_toArray, List.set_cons_zero, List.set_cons_succ]
          refine RegF.one 12 (by kernel_rfl) ?_
          refine RegF.opV (.pointer (some ⟨p, 0, none⟩)) rfl rfl (by go_simp) ⟨fun _ => hB6w, ?_⟩
          simp only [List.getElem_toArray, List.getElem_cons_succ, List.getElem_cons_zero, Act.put, List.setIfInBounds_toArray, List.set_cons_zero, List.set_cons_succ]
          refine RegF.one 13 (by kernel_rfl) ?_
          refine RegF.opS (w' := w6.setRow p (dkC wz.heap.size many none 0 0 0 false)) rfl rfl (x_storeW _ (.tmp 97) (.tmp 96) rfl p rfl rfl rowDisk hb6 rfl rfl (dkC_one _ _ _ _ _ _ _)) ⟨fun h => absurd rfl h, ?_⟩
          simp only [List.getElem_toArray, List.getElem_cons_succ, List.getElem_cons_zero, Act.put, List.setIfInBounds_toArray, List.set_cons_zero, List.set_cons_succ]
          refine RegF.done (by kernel_rfl) ?_
          have hfin : DkIs (w6.setRow p (dkC wz.heap.size many none 0 0 0 false)) p many (laid g ks9) [] 0 false := ⟨wz.heap.size, none, 0, hb6.setRow _, hm6.keep (setRow_other _ _ _ _ (show wz.heap.size ≠ p by omega)), InW.mt _ _⟩
          have hgfin : w.grownBy (w6.setRow p (dkC wz.heap.size many none 0 0 0 false)) (some p) := grownBy_trans (below_grownBy (hBwz.trans (hB6w.mono hBwz.size)) p) (setRow_grownBy w6 p _)
          generalize w6.setRow p (dkC wz.heap.size many none 0 0 0 false) = w7 at *
          go_wp2
          go_ret
          exact ⟨rfl, (by rw [← HKS.out, HTR.out]; exact hfin), hgfin⟩
end
end Go.Proofs.Ytlelckdcmlpmdaa
/- The plain law of DiskHolds: which writes a crash keeps, and what a sector reads as behind it. -/
namespace Go.Proofs.Ytlelckdcmlpmdaa
open Go Go.RowKit Lou

theorem keptTo_mem (xs : List (Nat × List UInt8)) (bs : List Bool) : ∀ i, i ≤ xs.length → ∀ x ∈ keptTo xs bs i, ∃ j, ∃ h : j < xs.length, bs.getD j false = true ∧ xs[j] = x
  | 0, _, x, h => by simp [keptTo] at h
  | i + 1, hi, x, h => by
    unfold keptTo at h
    split at h
    · next hb =>
      rcases List.mem_append.1 h with h | h
      · exact keptTo_mem xs bs i (by omega) x h
      · refine ⟨i, by omega, hb, ?_⟩
        have e : x = xs.getD i (0, zer64) := by simpa using h
        rw [e, List.getD_eq_getElem?_getD, List.getElem?_eq_getElem (by omega)]
        rfl
    · exact keptTo_mem xs bs i (by omega) x h
/-! ### What the law's own rows hold -/
/-- was: the byte that each sector is full of. -/
def Full (g : Nat → List UInt8) (l : List UInt8) : Prop := ∀ k, (h : k < l.length) → g k = secL l[k]
/-- kb: whether a write to each sector was kept, of the first xs. -/
def Kept (kb : List Bool) (xs : List (Nat × List UInt8)) (bs : List Bool) : Prop := ∀ k, kb[k]? = some false → ∀ j, (hj : j < xs.length) → xs[j].1 = k → bs.getD j false = false
end Go.Proofs.Ytlelckdcmlpmdaa
/- Strings cut; the plain law of a crash. -/
namespace Go.Proofs.Ytlelckdcmlpmdaa
open Go Go.RowKit Lou
section
variable {ρ : Operand → Value} {w : World} {o : Oper} {x y : Operand}
theorem str_extract (l : List UInt8) (i j : Nat) : (str l).extract i j = str ((l.take j).drop i) := by
  unfold str
  apply ByteArray.ext
  simp [List.extract_eq_take_drop, List.drop_take]
theorem x_takeS {l : List UInt8} {k : Nat} (ho : o.op = .slice 9 x none (some y) none) (h1 : ρ x = .string (str l)) (h2 : ρ y = .int .i64 (k : Int)) (hk : k ≤ l.length) : (execOp ρ o).run Try.prog w = .ok (.value (.string (str (l.take k)))) w := by
  have hs : k ≤ (str l).size := by rw [str_size]; exact hk
  have he := str_extract l 0 k
  rw [List.drop_zero] at he
  simp [execOp, ho, h1, h2, go_sem, Result.andThen, hs, he]
theorem x_dropS {l : List UInt8} {k : Nat} (ho : o.op = .slice 9 x (some y) none none) (h1 : ρ x = .string (str l)) (h2 : ρ y = .int .i64 (k : Int)) (hk : k ≤ l.length) : (execOp ρ o).run Try.prog w = .ok (.value (.string (str (l.drop k)))) w := by
  have hs : k ≤ (str l).size := by rw [str_size]; exact hk
  have he := str_extract l k (str l).size
  rw [str_size, List.take_length] at he
  simp [execOp, ho, h1, h2, go_sem, Result.andThen, str_size, hk, he]
theorem x_addS {a b : List UInt8} {T T' : TypeId} (ho : o.op = .binOp .add T x y T') (hx : ρ x = .string (str a)) (hy : ρ y = .string (str b)) (hs : a.length + b.length ≤ 1000000) (hT : Try.prog.underlying T = some .string) :
    (execOp ρ o).run Try.prog w = .ok (.value (.string (str (a ++ b)))) w := by
  have e : str a ++ str b = str (a ++ b) := by simp [str, ByteArray.ext_iff]
  have e2 : ¬ 9223372036854775807 < (str a).size + (str b).size := by
    rw [str_size, str_size]
    omega
  simp [execOp, ho, hx, hy, go_sem, Result.andThen, e, e2]
end
/-- The document's map: what was synced, by sectors. -/
def gOf (sy : List (Nat × List UInt8)) : Nat → List UInt8 := fun k => lastB sy (k : Int)
theorem gOf_one (sy : List (Nat × List UInt8)) (x : Nat × List UInt8) : gset (gOf sy) x.1 x.2 = gOf (sy ++ [x]) := by
  funext k
  unfold gset gOf lastB
  rw [List.foldl_append (l' := [x])]
  show _ = if ((x.1 : Nat) : Int) = (k : Int) then x.2 else _
  by_cases h : k = x.1
  · subst h; rw [if_pos rfl, if_pos rfl]
  · rw [if_neg h, if_neg (by omega)]
theorem laid_gOf (sy xs : List (Nat × List UInt8)) (k : Nat) : laid (gOf sy) xs k = lastB (sy ++ xs) (k : Int) := by
  induction xs generalizing sy with
  | nil => rw [List.append_nil]; rfl
  | cons x xs ih =>
    have e : laid (gOf sy) (x :: xs) = laid (gset (gOf sy) x.1 x.2) xs := rfl
    rw [e, gOf_one, ih, List.append_assoc]
    rfl
theorem gOf_app (sy xs : List (Nat × List UInt8)) : gOf (sy ++ xs) = laid (gOf sy) xs := by
  funext k
  rw [laid_gOf]
  rfl
theorem lastB_len {xs : List (Nat × List UInt8)} (hw : Wide xs) (at_ : Int) : (lastB xs at_).length = 64 := by
  unfold lastB
  suffices h : ∀ (ys : List (Nat × List UInt8)) (s : List UInt8), Wide ys → s.length = 64 → (ys.foldl (fun s x => if (x.1 : Int) = at_ then x.2 else s) s).length = 64 from h xs zer64 hw (by decide)
  intro ys
  induction ys with
  | nil => exact fun s _ h => h
  | cons y ys ih =>
    intro s hw hs
    rw [List.foldl_cons]
    refine ih _ (fun x hx => hw x (List.mem_cons_of_mem _ hx)) ?_
    split
    · exact hw y (List.mem_cons_self ..)
    · exact hs
/-- The last that is kept, so far; -1: none. -/
def lastK (bs : List Bool) : Nat → Int
  | 0 => -1
  | i + 1 => if bs.getD i false then (i : Int) else lastK bs i
theorem lastK_lt (bs : List Bool) : ∀ i, lastK bs i < (i : Int) ∧ -1 ≤ lastK bs i
  | 0 => by unfold lastK; omega
  | i + 1 => by
    have := lastK_lt bs i
    unfold lastK
    split <;> omega
theorem lastK_true (bs : List Bool) : ∀ i j : Nat, lastK bs i = (j : Int) → bs.getD j false = true
  | 0, j, h => by unfold lastK at h; omega
  | i + 1, j, h => by
    unfold lastK at h
    split at h
    · rename_i hb
      obtain rfl : i = j := by omega
      exact hb
    · exact lastK_true bs i j h
/-- Behind the last none is kept. -/
theorem keptTo_last (xs : List (Nat × List UInt8)) (bs : List Bool) : ∀ i : Nat, keptTo xs bs i = keptTo xs bs (lastK bs i + 1).toNat
  | 0 => rfl
  | i + 1 => by
    rw [show keptTo xs bs (i + 1) = if bs.getD i false then keptTo xs bs i ++ [xs.getD i (0, zer64)] else keptTo xs bs i from rfl]
    rw [show lastK bs (i + 1) = if bs.getD i false then (i : Int) else lastK bs i from rfl]
    by_cases h : bs.getD i false = true
    · rw [if_pos h, if_pos h, show ((i : Int) + 1).toNat = i + 1 by omega]
      rw [show keptTo xs bs (i + 1) = if bs.getD i false then keptTo xs bs i ++ [xs.getD i (0, zer64)] else keptTo xs bs i from rfl, if_pos h]
    · rw [if_neg h, if_neg h]
      exact keptTo_last xs bs i
theorem lastK_stop (bs : List Bool) (m n : Nat) (hmn : m ≤ n) (h : ∀ j, m ≤ j → j < n → bs.getD j false = false) : lastK bs n = lastK bs m := by
  induction n with
  | zero => obtain rfl : m = 0 := by omega
            rfl
  | succ n ih =>
    by_cases e : m = n + 1
    · rw [e]
    · have h0 := h n (by omega) (by omega)
      rw [show lastK bs (n + 1) = if bs.getD n false then (n : Int) else lastK bs n from rfl, h0]
      exact ih (by omega) fun j h1 h2 => h j h1 (by omega)
theorem getD_out (bs : List Bool) (j : Nat) (h : bs.length ≤ j) : bs.getD j false = false := by
  rw [List.getD_eq_getElem?_getD, List.getElem?_eq_none h]
  rfl
theorem keptTo_step (xs : List (Nat × List UInt8)) (bs : List Bool) (i : Nat) : keptTo xs bs (i + 1) = if bs.getD i false then keptTo xs bs i ++ [xs.getD i (0, zer64)] else keptTo xs bs i := rfl
end Go.Proofs.Ytlelckdcmlpmdaa
