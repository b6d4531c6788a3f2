/- Texts that the proof of NodeReads leans on, part 3. -/
import Derived.Test.YtlelckdcmlpmdaaNodeReadsB2
/- As RangeR, but what a round begins with (the range's variables, laid anew) may lie in memory. -/
namespace Go.Proofs.Ytlelckdcmlpmdaa
open Go Go.RowKit Go.Shelf
attribute [local go_sem] Oper.semAt_some

section
variable {F : Fence} {n : Nat} {P : Program} {w : World}
theorem wpIn_rangeFunc_A {α : Type} {g : Operand} {ps : Array Tmp} {assign body : Code} {Q : Exit → Act → World → Prop} {a : Act}
    (hro : F.round = none) (h1 : 1 ≤ n) {gf : Nat} {lb : Array Value} (hg : a.eval g = .func (.func gf) #[] lb) (hFg : F.fn gf) (eg : ∀ args w, (callFunc gf args).run P w = .ok (.enter gf args) w)
    {encs : α → Array Value} {Mu : Nat → Prop} {Rd : List α → α → World → Prop} {S Sp : List α → Prop} {w0 : World} (hseq : SeqR F (n - 1) P gf lb encs Mu Rd S Sp w0)
    (hb0 : Below w0.heap.size w0 w) (hps : ∀ x, (encs x).size = ps.size)
    (I : List α → World → Prop) (Ix : Code → List α → World → Prop) (hI : AbNew w.heap.size I) (hIx : ∀ c, AbNew w.heap.size (Ix c)) (hRd : ∀ pre x, OwnFrom w.heap.size (fun (_ : Unit) W => Rd pre x W)) (h0 : I [] w) (As : α → Act → World → Prop) (hAs : ∀ x a, OwnFrom w.heap.size (fun (_ : Unit) W => As x a W))
    (hassign : ∀ (l : Nat) (x : α) (W : World) (K : Act → World → Prop), w.heap.size ≤ W.heap.size → (∀ a W', Below W.heap.size W W' → As x a W' → K a W') →
      assign.wpIn (F.inRound l) (n - 1 - 1) P (Exit.then K (fun _ _ _ => False)) { tmps := (ps.zip (encs x)).foldl (fun t (p, v) => t.setIfInBounds p v) a.tmps, defers := [] } W)
    (hbody : ∀ (l : Nat) (pre : List α) (x : α) (W : World) (a : Act), w.heap.size ≤ W.heap.size → I pre W → Rd pre x W → As x a W → body.wpIn (F.inRound l) (n - 1 - 1) P (postR Mu w.heap.size I Ix (pre ++ [x]) W) a W)
    (hdone : ∀ (D : Nat) (xs : List α) (W : World), w.heap.size ≤ D → S xs → I xs W → W.heap[D]? = some (.deferred (some [])) → Q .normal { a with defers := { target := .collected D, args := #[] } :: a.defers } W)
    (hstop : ∀ (D : Nat) (c : Code) (pre : List α) (W : World), w.heap.size ≤ D → Sp pre → Ix c pre W → W.heap[D]? = some (.deferred (some [])) → c.wpIn F n P Q { a with defers := { target := .collected D, args := #[] } :: a.defers } W) :
    (Code.rangeFunc g ps assign body).wpIn F n P Q a w := by
  refine wpIn_rangeFunc fun fn hfn => ?_
  rw [hro]
  -- the loop's record, and the world that bears it and the block for deferred calls
  obtain ⟨rec, hrec⟩ : ∃ rec : LoopState → Option Code → Loop, rec = fun st pe => { state := st, pending := pe, fn, tmps := a.tmps, params := ps, assign, body, defers := w.heap.size } := ⟨_, rfl⟩
  obtain ⟨V, hV⟩ : ∃ V, (w.alloc (.deferred (some []))).alloc (.loop (rec .ready none)) = V := ⟨_, rfl⟩
  have vL : V.heap[w.heap.size + 1]? = some (.loop (rec .ready none)) := by
    subst hV
    have := World.alloc_heap_new (w.alloc (.deferred (some []))) (.loop (rec .ready none))
    rwa [World.size_alloc] at this
  have vD : V.heap[w.heap.size]? = some (.deferred (some [])) := by
    subst hV
    exact (Below.heap_alloc _ _ _ (by simp)).trans (World.alloc_heap_new w _)
  have vI : I [] V := by subst hV; exact hI.alloc _ (hI.alloc _ h0)
  have vS : V.heap.size = w.heap.size + 2 := by subst hV; simp
  have vB : Below w0.heap.size w0 V := by
    subst hV
    exact hb0.trans ((((Below.refl _ w).alloc (Nat.le_refl _) _).alloc (by simp) _).mono hb0.size)
  refine ⟨w.heap.size + 1, [{ target := .collected w.heap.size, args := #[] }], V, { target := .fn (.func gf) lb, args := #[.func (.yield (w.heap.size + 1)) #[] #[]] }, V, gf, #[.func (.yield (w.heap.size + 1)) #[] #[]] ++ lb, V, ?_, ?_, ?_, ?_, fun _ => h1, ?_⟩
  · rw [← hV, hrec]; exact run_enterLoop_outer _ _ _ _ _
  · simp only [resolve, hg]
    simp [go_sem]
  · intro f' hf'
    simp [Target.leads] at hf'
    subst hf'
    exact hFg
  · simp [invoke, go_sem, eg]
  have apart : ∀ {A B : World} {row : Option Nat} {k : Nat} {o : Obj}, A.heap[k]? = some o → A.grownBy B row → (∀ r, row = some r → V.heap.size ≤ r) → k < V.heap.size → B.heap[k]? = some o := fun hk hg hr hlt =>
    (hg.block _ (Array.getElem?_eq_some_iff.1 hk).1 (fun e => by have := hr _ e.symm; omega)).trans hk
  refine (hseq (w.heap.size + 1)
    (fun pre W => I pre W ∧ W.heap[w.heap.size + 1]? = some (.loop (rec .ready none)) ∧ W.heap[w.heap.size]? = some (.deferred (some [])))
    (fun pre W => ∃ c, Ix c pre W ∧ W.heap[w.heap.size + 1]? = some (.loop (rec .done (some c))) ∧ W.heap[w.heap.size]? = some (.deferred (some [])))
    V vB
    (fun s A B row hs hg' hr => ⟨hI s A B row hs.1 hg' (fun r e => by have := hr r e; omega), apart hs.2.1 hg' hr (by omega), apart hs.2.2 hg' hr (by omega)⟩)
    (fun s A B row hs hg' hr => by
      obtain ⟨c, hc, hl, hk⟩ := hs
      exact ⟨c, hIx c s A B row hc hg' (fun r e => by have := hr r e; omega), apart hl hg' hr (by omega), apart hk hg' hr (by omega)⟩)
    ?round ⟨vI, vL, vD⟩).mono ?behind
  case round =>
    rintro pre x W0 ⟨hi0, hl0, hk0⟩ hrd0
    have hlt0 : w.heap.size + 1 < W0.heap.size := (Array.getElem?_eq_some_iff.1 hl0).1
    have hy := run_yield (P := P) (args := encs x) hl0 (by rw [hrec]; exact hps x)
    rw [hrec] at hy
    refine ⟨fn, _, assign, body, hy, roundIn_of_wpIn hfn (hassign _ x W0 _ (by omega) (fun a2 W hBW hA2 => ⟨_, run_beginRound ((hBW.block _ hlt0).trans hl0) (by rw [hrec]), ?_⟩))⟩
    clear hy
    have hl := (hBW.block _ hlt0).trans hl0
    have hk := (hBW.block _ (show w.heap.size < W0.heap.size by omega)).trans hk0
    have hi := hI.grow hi0 hBW
    have hrd := (hRd pre x) () W0 W none hrd0 ⟨hBW.os, hBW.tape, hBW.output, hBW.size, fun k hk _ => hBW.block k hk⟩ (fun r e => by cases e)
    have hlt : w.heap.size + 1 < W.heap.size := (Array.getElem?_eq_some_iff.1 hl).1
    have bL : (W.putObj (w.heap.size + 1) (.loop { rec .ready none with state := .busy })).heap[w.heap.size + 1]? = some (.loop { rec .ready none with state := .busy }) := World.putObj_heap_same hlt
    have bD : (W.putObj (w.heap.size + 1) (.loop { rec .ready none with state := .busy })).heap[w.heap.size]? = some (.deferred (some [])) := (World.putObj_heap_other (by omega)).trans hk
    refine wpIn_mono (hbody _ pre x _ _ (by simp; omega) (hI.putObj _ hi (by omega)) ((hRd pre x).putObj (s := ()) _ hrd (by omega) hl rfl) ((hAs x a2).putObj (s := ()) _ hA2 (by omega) hl rfl)) ?_
    -- the round's end
    have fin : ∀ (jump : Option Code) (U : World), KeepOut (fun _ => True) w.heap.size (W.putObj (w.heap.size + 1) (.loop { rec .ready none with state := .busy })) U →
        (Instr.endRound (w.heap.size + 1) jump).run P U = .ok (.bool jump.isNone) (U.putObj (w.heap.size + 1) (.loop (rec (if jump.isNone then .ready else .done) jump))) ∧
        U.heap[w.heap.size + 1]? = some (.loop { rec .ready none with state := .busy }) ∧
        (U.putObj (w.heap.size + 1) (.loop (rec (if jump.isNone then .ready else .done) jump))).heap[w.heap.size + 1]? = some (.loop (rec (if jump.isNone then .ready else .done) jump)) ∧
        (U.putObj (w.heap.size + 1) (.loop (rec (if jump.isNone then .ready else .done) jump))).heap[w.heap.size]? = some (.deferred (some [])) := fun jump U hkU => by
      have uL := hkU.2 _ _ bL (fun h => by omega)
      have := run_endRound (P := P) jump uL
      rw [hrec] at this ⊢
      exact ⟨this, by rw [hrec] at uL; exact uL, World.putObj_heap_same (Array.getElem?_eq_some_iff.1 uL).1, (World.putObj_heap_other (by omega)).trans (hkU.2 _ _ bD (fun h => by omega))⟩
    have out : ∀ (c : Code) (U : World), KeepOut (fun _ => True) w.heap.size (W.putObj (w.heap.size + 1) (.loop { rec .ready none with state := .busy })) U → Ix c (pre ++ [x]) U →
        (∃ c', Ix c' (pre ++ [x]) (U.putObj (w.heap.size + 1) (.loop (rec .done (some c)))) ∧ (U.putObj (w.heap.size + 1) (.loop (rec .done (some c)))).heap[w.heap.size + 1]? = some (.loop (rec .done (some c'))) ∧ (U.putObj (w.heap.size + 1) (.loop (rec .done (some c)))).heap[w.heap.size]? = some (.deferred (some []))) ∧ KeepOut (fun _ => True) V.heap.size W0 (U.putObj (w.heap.size + 1) (.loop (rec .done (some c)))) := fun c U hkU hix => by
      obtain ⟨_, h3, h4, h5⟩ := fin (some c) U hkU
      refine ⟨⟨c, (hIx c).putObj _ hix (by omega), h4, h5⟩, (KeepOut.grow _ _ hBW).trans ⟨by have := hkU.1; simpa using this, fun k o hk hm => ?_⟩⟩
      have hkl : k ≠ w.heap.size + 1 := fun e => hm (by omega) trivial
      rw [World.putObj_heap_other hkl]
      exact hkU.2 k o (by rw [World.putObj_heap_other hkl]; exact hk) (fun h => hm (by omega))
    rintro e a3 U hp
    cases e with
    | normal =>
      obtain ⟨hk3, hi3⟩ := hp
      obtain ⟨hr, h3, h4, h5⟩ := fin none U hk3.any
      refine ⟨_, _, hr, .inl ⟨rfl, ⟨hI.putObj _ hi3 (by omega), h4, h5⟩, (KeepOut.grow _ _ hBW).trans ⟨by have := hk3.1; simpa using this, fun k o hk hm => ?_⟩⟩⟩
      by_cases hkl : k = w.heap.size + 1
      · subst hkl
        rw [hl] at hk
        rw [← hk]
        exact h4
      · rw [World.putObj_heap_other hkl]
        exact hk3.2 k o (by rw [World.putObj_heap_other hkl]; exact hk) (fun h => hm (by omega))
    | ret => exact ⟨_, _, (fin (some .ret) U hp.1).1, .inr ⟨rfl, out .ret U hp.1 hp.2⟩⟩
    | exit id => exact ⟨_, _, (fin (some (.exit id)) U hp.1).1, .inr ⟨rfl, out (.exit id) U hp.1 hp.2⟩⟩
    | goto t => exact ⟨_, _, (fin (some (.goto t)) U hp.1).1, .inr ⟨rfl, out (.goto t) U hp.1 hp.2⟩⟩
    | panic ch => exact hp.elim
    | outgrown => exact hp.elim
  case behind =>
    rintro e U ⟨⟨v, rfl⟩, (⟨xs, hS, hi, hl, hk⟩ | ⟨pre, hSp, c, hi, hl, hk⟩)⟩
    · have hr := run_endLoop (P := P) hl (by rw [hrec]; simp)
      rw [hrec] at hr
      exact ⟨none, _, hr, hdone _ xs _ (Nat.le_refl _) hS (hI.putObj _ hi (by omega)) ((World.putObj_heap_other (by omega)).trans hk)⟩
    · have hr := run_endLoop (P := P) hl (by rw [hrec]; simp)
      rw [hrec] at hr
      exact ⟨some c, _, hr, hstop _ c pre _ (Nat.le_refl _) hSp ((hIx c).putObj _ hi (by omega)) ((World.putObj_heap_other (by omega)).trans hk)⟩
end
end Go.Proofs.Ytlelckdcmlpmdaa
/- Loads, allocs, stores of whole elements in a fenced walk. -/
namespace Go.Proofs.Ytlelckdcmlpmdaa
open Go Go.RowKit Lou Go.Shelf
section
variable {F : Fence} {n : Nat} {P : Program} {w w' : World} {ops : Array Oper} {rest : List Oper} {o : Oper} {a : Act} {Q : Exit → Act → World → Prop}
theorem wpIn_loadX {v : Value} (hg : o.guard = none) (T : TypeId) (x : Operand) (hop : o.op = .load T x) (hr : (execOp a.eval o).run P w = .ok (.value v) w') (h : wpListIn F n P ops Q rest (a.put o.dst v) w') : wpListIn F n P ops Q (o :: rest) a w :=
  wpListIn_plain hg fun K' hK' => by
    unfold Oper.wpIn
    refine ⟨by simp [Oper.about, hop], ?_⟩
    rw [Oper.semAt_plain F _ _ (by rw [hop]; intro c hc'; cases hc'), hr]
    exact hK' _ _ h
theorem wpIn_allocX {v : Value} (hg : o.guard = none) (T : TypeId) (hop : o.op = .alloc T) (hr : (execOp a.eval o).run P w = .ok (.value v) w') (h : wpListIn F n P ops Q rest (a.put o.dst v) w') : wpListIn F n P ops Q (o :: rest) a w :=
  wpListIn_plain hg fun K' hK' => by
    unfold Oper.wpIn
    refine ⟨by simp [Oper.about, hop], ?_⟩
    rw [Oper.semAt_plain F _ _ (by rw [hop]; intro c hc'; cases hc'), hr]
    exact hK' _ _ h
theorem wpIn_storeX (hg : o.guard = none) (T : TypeId) (x y : Operand) (hop : o.op = .store T x y) (g : Nat) {t : TypeId} {cs cs' : Array Value} (hx : a.eval x = .pointer (some ⟨g, 0, none⟩)) (hy : a.eval y = .agg cs') {m : Nat} (hT : RowTy P T m) (hb : BlkIs w g t cs) (hn : cs.size = m)
    (hs : cs'.size = cs.size) (h1 : ∀ v ∈ cs'.toList, v.oneCell' = true) (h : wpListIn F n P ops Q rest (a.put o.dst undef) (w.setRow g cs')) : wpListIn F n P ops Q (o :: rest) a w :=
  wpListIn_plain hg fun K' hK' => by
    unfold Oper.wpIn
    refine ⟨by simp [Oper.about, hop], ?_⟩
    rw [Oper.semAt_plain F _ _ (by rw [hop]; intro c hc'; cases hc')]
    unfold execOp
    simp only [hop, hx, hy, Instr.storeAt, Instr.sureAddr, Sem.run_bind, Sem.run_pure, Result.andThen_ok, run_storeW (hn ▸ hT) hb hs h1]
    exact hK' _ _ h
end
end Go.Proofs.Ytlelckdcmlpmdaa
/- slices.Values over cells; node.keys. -/
namespace Go.Proofs.Ytlelckdcmlpmdaa
open Go Go.RowKit Lou Go.Shelf
attribute [local go_sem] Oper.semAt_some

def zCel : Cel := ⟨ByteArray.empty, ByteArray.empty, 0, 0⟩
section
variable {w : World} {o : Oper} {ρ : Operand → Value}
theorem x_allocCel (ho : o.op = .alloc 205) : (execOp ρ o).run Try.prog w = .ok (.value (.pointer (some ⟨w.heap.size, 0, none⟩))) (w.alloc (.cells (celC zCel).toArray 205)) := by
  simp [execOp, ho, Instr.alloc, newVar, newRow, go_sem, Result.andThen]
  rfl
end
set_option maxRecDepth 100000 in
set_option maxHeartbeats 4000000 in
theorem values1_in (n : Nat) (hn2 : 2 ≤ n) (l Bs n₀ : Nat) (A : Option Addr) (c : Nat) (cells : List Cel) (J Jx : List Cel → World → Prop)
    (hY : ∀ pre x W, J pre W → pre.length < cells.length → YieldAt Fence.wide (n - 1) Try.prog l #[.agg (celC x).toArray] W fun e W' =>
      (e = .returned (.bool true) ∧ J (pre ++ [x]) W' ∧ Below n₀ W W') ∨ (e = .returned (.bool false) ∧ Jx (pre ++ [x]) W'))
    (W : World) (hJA : AbidesFrom W.heap.size J) (hn0 : n₀ ≤ W.heap.size) (hBs : W.cell? ⟨Bs, 0, none⟩ = some (.slice A cells.length c)) (hin : InG W n₀ 4 A cells.length c (clC cells)) (h0 : J [] W) :
    CallsIn Fence.wide n Try.prog 192 #[.func (.yield l) #[] #[], .pointer (some ⟨Bs, 0, none⟩)] W fun e W' => (∃ v, e = .returned v) ∧
      ((∃ ys, ys = cells ∧ J ys W') ∨ (∃ pre, (∃ t, cells = pre ++ t) ∧ Jx pre W')) := by
  have hle := hin.le
  have hmax := hin.max
  have h1 : 1 ≤ n := by omega
  refine callsIn_of_wp Try.func192 rfl trivial ?_ rfl
  simp only [Try.ntmps192, List.size_toArray, List.length_cons, List.length_nil, Nat.reduceAdd, Nat.reduceSub, Array.replicate_succ, Array.replicate_zero, List.push_toArray, List.append_toArray, List.nil_append, List.cons_append]
  gi_wp2
  gi_loopw [7] (fun i wr => ∃ (k : Nat), k ≤ cells.length ∧ i = .int .i64 k ∧ J (cells.take k) wr ∧ Below n₀ W wr)
    (fun i _ => cells.length - (intOf i).toNat)
  case atStart => exact ⟨0, by omega, rfl, h0, Below.refl _ _⟩
  case round =>
    obtain ⟨k, hk, rfl, hJs, hnx⟩ := hrel
    by_cases hlt : k < cells.length
    · obtain ⟨g, o, rfl, hg, _⟩ := hin.lies (by omega)
      have hrk : wr.rangeAt g (o + k * 4) (celC cells[k]) := fun j v hj => (hnx.cell (p := ⟨g, o + k * 4 + j, none⟩) hg).trans (cel_at hin rfl k hlt j v hj)
      have htk : cells.take (k + 1) = cells.take k ++ [cells[k]] := List.take_succ_eq_append_getElem hlt
      have hpre : ∃ t, cells = (cells.take k ++ [cells[k]]) ++ t := ⟨cells.drop (k + 1), by rw [← htk, List.take_append_drop]⟩
      have hlen : (cells.take k).length < cells.length := by rw [List.length_take]; omega
      have n0 := BlkIs.new wr 205 (celC zCel).toArray
      have nb := n0.setRow (celC cells[k]).toArray
      have nB : Below wr.heap.size wr ((wr.alloc (.cells (celC zCel).toArray 205)).setRow wr.heap.size (celC cells[k]).toArray) := below_setRow ((Below.refl _ wr).alloc (Nat.le_refl _) _) (Nat.le_refl _) _
      have hJ2 : J (cells.take k) ((wr.alloc (.cells (celC zCel).toArray 205)).setRow wr.heap.size (celC cells[k]).toArray) := hJA _ _ _ none hJs ⟨nB.os, nB.tape, nB.output, nB.size, fun k hk _ => nB.block k hk⟩ (fun r e => by cases e)
      have hnx2 := hnx.trans (nB.mono (Nat.le_trans hn0 hnx.size))
      obtain ⟨W2, hW2⟩ : ∃ W2, W2 = (wr.alloc (.cells (celC zCel).toArray 205)).setRow wr.heap.size (celC cells[k]).toArray := ⟨_, rfl⟩
      rw [← hW2] at nb hJ2 hnx2
      have HW := Lib.hid hW2
      obtain ⟨fn, tmps, assign, body, hy, hR⟩ := hY (cells.take k) cells[k] W2 hJ2 hlen
      generalize cells[k] = x at *
      have hwk : IntKind.i64.wrap ((k : Int) + 1) = (k : Int) + 1 := wrapN _ (by omega) (by omega)
      have HTK := Lib.hid htk
      have HPRE := Lib.hid hpre
      have h4 : (celC x).toArray.size = 4 := rfl
      clear htk hpre hlen hW2 nB hJs hJ2
      gi_wp2_with (first
        | (refine wpIn_loadX rfl _ (.tmp 9) rfl (x_loadM rowCel hrk rfl rfl rfl) ?_)
        | (refine wpIn_allocX rfl _ rfl (x_allocCel rfl) ?_)
        | (refine wpIn_storeX rfl _ (.tmp 4) (.tmp 10) rfl wr.heap.size rfl rfl rowCel n0 rfl rfl (celC_one _) ?_; rw [← HW.out])
        | (refine wpIn_loadX rfl _ (.tmp 4) rfl (x_loadM rowCel nb.range rfl rfl rfl) ?_))
      refine hR.mono ?_
      rintro e W3 (⟨rfl, hJ3, hk3⟩ | ⟨rfl, hJx3⟩)
      · gi_wp2
        go_roundw
        case rel => exact ⟨k + 1, by omega, by simp, by rw [HTK.out]; exact hJ3, hnx2.trans hk3⟩
        case measure => simp [intOf]; omega
      · gi_wp2
        exact bodyPost_ret (results_none rfl _ _ _) rfl ⟨⟨_, rfl⟩, .inr ⟨_, HPRE.out, hJx3⟩⟩
    · obtain rfl : k = cells.length := by omega
      rw [List.take_length] at hJs
      gi_wp2
      go_end0
      exact ⟨⟨_, rfl⟩, .inl ⟨_, rfl, hJs⟩⟩
theorem values1_stops (n : Nat) (hn2 : 2 ≤ n) (Bs n₀ : Nat) (A : Option Addr) (c : Nat) (cells : List Cel) (w : World) (hn0 : n₀ ≤ w.heap.size) (hBs : Bs < w.heap.size) (hc : w.cell? ⟨Bs, 0, none⟩ = some (.slice A cells.length c)) (hin : InG w n₀ 4 A cells.length c (clC cells)) :
    SeqStopsK Fence.wide n Try.prog 192 #[.pointer (some ⟨Bs, 0, none⟩)] (fun x : Cel => #[.agg (celC x).toArray]) (Below n₀)
      (fun ys => ys = cells) (fun pre => ∃ t, cells = pre ++ t) cells.length w := fun l J Jx W hW hJ _ hY h0 =>
  values1_in n hn2 l Bs n₀ A c cells J Jx hY W hJ (Nat.le_trans hn0 hW.size) ((hW.cell (p := ⟨Bs, 0, none⟩) hBs).trans hc) (hin.below (hW.mono hn0)) h0
set_option maxHeartbeats 1000000 in
theorem valuesC_in (n : Nat) (A : Option Addr) (len cap : Nat) (w : World) :
    CallsIn Fence.wide n Try.prog 168 #[.slice A len cap] w fun e w' => e = .returned (.func (.func 192) #[] #[.pointer (some ⟨w.heap.size, 0, none⟩)]) ∧ w.alloc (.cells #[.slice A len cap] 72) = w' := by
  refine callsIn_of_wp Try.func168 rfl trivial ?_ rfl
  simp only [Try.ntmps168, List.size_toArray, List.length_cons, List.length_nil, Nat.reduceAdd, Nat.reduceSub, Array.replicate_succ, Array.replicate_zero, List.push_toArray, List.append_toArray, List.nil_append, List.cons_append]
  gi_wp2
  go_ret
  exact ⟨rfl, rfl⟩
/-- An own row's block is kept where a block that holds no cells is turned. -/
theorem ownG_kept {W W' : World} {base sz n : Nat} {T : TypeId} {v : Value} {cs : List Value} {row : Option Nat} (h : W.ownsRow base T sz v n cs) (hg : W.grownBy W' row) (hr : ∀ r, row = some r → ∃ o : Obj, W.heap[r]? = some o ∧ o.isCells = false) : W'.ownsRow base T sz v n cs := by
  refine ownG_later h fun r hv => hg.block r (ownG_lt h r hv) fun e => ?_
  obtain ⟨o, ho, hc⟩ := hr r e.symm
  rcases h.2 with ⟨rfl, _⟩ | ⟨g, cap, cur, rfl, _, hq, _⟩
  · cases hv
  · injection hv with hv
    subst hv
    rw [hq] at ho
    injection ho with ho
    subst ho
    cases hc
/-- What an own row's growth leaves is whatever is no cells. -/
theorem others_own {W W' : World} {base sz n : Nat} {T : TypeId} {v : Value} {cs : List Value} (h : W.ownsRow base T sz v n cs) (hg : W.grownBy W' v.ownBlock) : KeepsOthers W W' :=
  KeepsOthers.of_grownBy hg fun j o e ho => by
    rcases h.2 with ⟨rfl, _⟩ | ⟨g, cap, cur, rfl, _, hq, _⟩
    · cases e
    · injection e with e
      subst e
      rw [hq] at ho
      injection ho with ho
      subst ho
      rfl
theorem others_below {W W' : World} (h : Below W.heap.size W W') : KeepsOthers W W' :=
  KeepsOthers.of_grownBy (row := none) ⟨h.os, h.tape, h.output, h.size, fun k hk _ => h.block k hk⟩ (fun j o e => by cases e)
section
set_option maxRecDepth 100000
variable {F : Fence} {n : Nat} {w : World} {ops : Array Oper} {rest : List Oper} {o : Oper} {a : Act} {Q : Exit → Act → World → Prop}
theorem wpIn_appG (hg : o.guard = none) {S T : TypeId} {sz by_ : Nat} {z : Value} (hT : ElT S T sz by_ z) (s x : Operand) (ho : o.op = .call { callee := .builtin .append, args := #[s, x], argTypes := #[S, S] })
    (base : Nat) (v : Value) (k : Nat) (cs : List Value) (hs : a.eval s = v) (hown : w.ownsRow base T sz v k cs) (B g c m : Nat) (cs2 : List Value) (hx : a.eval x = .slice (some ⟨g, 0, none⟩) m c) (hin : InG w B sz (some ⟨g, 0, none⟩) m c cs2) (hm0 : 0 < m)
    (hm : k + m ≤ maxLen) (hbytes : (k + m) * by_ ≤ 140737488355328) (hbase : base ≤ w.heap.size)
    (h : ∀ v' w', w'.ownsRow base T sz v' (k + m) (cs ++ cs2) → w.grownBy w' v.ownBlock → wpListIn F n Try.prog ops Q rest (a.put o.dst v') w') : wpListIn F n Try.prog ops Q (o :: rest) a w := by
  obtain ⟨i0, hi, hz0, hz1, hz2⟩ := info_parts hT.inf
  refine wpListIn_append_own w hg s x _ ho base _ i0 z sz by_ hT.und hi hz0 hz1 hz2 hT.zs hT.pos v k cs hs hown ⟨g, 0, none⟩ m c cs2 hx hin.len (fun j u hu => ?_) hin.one hm hbytes hbase ?_
  · obtain ⟨g', o', e, _, hr⟩ := hin.lies hm0
    injection e with e
    injection e with e1 e2
    subst e1 e2
    rw [Addr.add_mid]
    exact hr j u hu
  · intro v' w' hown' hgrow _
    exact h v' w' hown' hgrow
end
abbrev actK (v0 : Value) (h g4 : Nat) (Ac : Option Addr) (len cc : Nat) (x : Cel) : Act :=
  { tmps := #[v0, .pointer (some ⟨h, 0, none⟩), .slice none 0 0, .pointer (some ⟨h + 1, 0, none⟩), .pointer (some ⟨g4, 0, none⟩), .pointer (some ⟨h, 0, none⟩), .bool true, .bool false, undef, undef, .pointer (some ⟨h, 1, none⟩), .slice Ac len cc,
      .func (.func 192) #[] #[.pointer (some ⟨h + 1 + 1, 0, none⟩)], .agg (celC x).toArray, undef, undef, undef, undef, undef, undef], defers := [] }
set_option maxRecDepth 100000 in
set_option maxHeartbeats 4000000 in
theorem keysLeaf_in (n : Nat) (hn : 6 ≤ n) (w : World) (cells : List Cel) (keys : List ByteArray) (kids : List Int) (Ac : Option Addr) (cc : Nat) (Ak : Option Addr) (ck : Nat) (Ai : Option Addr) (ci : Nat) (hc : InG w w.heap.size 4 Ac cells.length cc (clC cells)) (hl : cells.length ≤ 1000000) :
    CallsIn Fence.wide n Try.prog 110 #[.agg #[.bool true, .slice Ac cells.length cc, .slice Ak keys.length ck, .slice Ai kids.length ci]] w (StrsOut w (cells.map Cel.key)) := by
  have lc := hc.le
  have mc := hc.max
  have h1 : 1 ≤ n := by omega
  obtain ⟨W2, hW2⟩ : ∃ W2, W2 = (w.alloc (.cells #[.bool true, .slice Ac cells.length cc, .slice Ak keys.length ck, .slice Ai kids.length ci] 76)).alloc (.cells #[.slice none 0 0] 73) := ⟨_, rfl⟩
  have hB2 : Below w.heap.size w W2 := by rw [hW2]; exact ((Below.refl _ w).alloc (Nat.le_refl _) _).alloc (by simp) _
  have s2 : W2.heap.size = w.heap.size + 1 + 1 := by rw [hW2]; simp
  have b1 : BlkIs W2 w.heap.size 76 #[.bool true, .slice Ac cells.length cc, .slice Ak keys.length ck, .slice Ai kids.length ci] := by rw [hW2]; exact (BlkIs.new w _ _).alloc _
  have b3 : BlkIs W2 (w.heap.size + 1) 73 #[.slice none 0 0] := by
    have := BlkIs.new (w.alloc (.cells #[.bool true, .slice Ac cells.length cc, .slice Ak keys.length ck, .slice Ai kids.length ci] 76)) 73 #[.slice none 0 0]
    rw [World.size_alloc] at this
    rw [hW2]
    exact this
  have c1 : W2.cell? ⟨w.heap.size, 1, none⟩ = some (.slice Ac cells.length cc) := by rw [b1.cell]; rfl
  have HW2 := Lib.hid hW2
  refine callsIn_of_wp_marks Try.func110 rfl trivial ?_ rfl
  simp only [Try.ntmps110, List.size_toArray, List.length_cons, List.length_nil, Nat.reduceAdd, Nat.reduceSub, Array.replicate_succ, Array.replicate_zero, List.push_toArray, List.append_toArray, List.nil_append, List.cons_append]
  clear hW2
  gi_wp2_with (refine ⟨trivial, ?_⟩; gi_at_call 168; refine (valuesC_in (n - 1) _ _ _ _).mono ?_; rintro e w' ⟨rfl, rfl⟩)
  obtain ⟨V0, hV0⟩ : ∃ V0 : Value, V0 = .agg #[.bool true, .slice Ac cells.length cc, .slice Ak keys.length ck, .slice Ai kids.length ci] := ⟨_, rfl⟩
  rw [← HW2.out, ← hV0]
  obtain ⟨W4, hW4⟩ : ∃ W4, W4 = W2.alloc (.cells #[.slice Ac cells.length cc] 72) := ⟨_, rfl⟩
  have hB4 : Below w.heap.size w W4 := by rw [hW4]; exact hB2.alloc hB2.size _
  have s4 : W4.heap.size = w.heap.size + 1 + 1 + 1 := by rw [hW4]; simp [s2]
  have b34 : BlkIs W4 (w.heap.size + 1) 73 #[.slice none 0 0] := by rw [hW4]; exact b3.alloc _
  have hcs4 : W4.cell? ⟨w.heap.size + 1 + 1, 0, none⟩ = some (.slice Ac cells.length cc) := by rw [hW4, ← s2]; exact (BlkIs.new W2 72 #[.slice Ac cells.length cc]).boxed
  rw [← hW4]
  clear hW4 hV0 b1 b3 c1 HW2 s2 hB2
  have hs4 : w.heap.size ≤ W4.heap.size := by omega
  refine wpIn_rangeFunc_ownH rfl h1 (gf := 192) (lb := #[.pointer (some ⟨w.heap.size + 1 + 1, 0, none⟩)]) rfl trivial (enters_of Try.func192 (by kernel_rfl) rfl)
    (values1_stops (n - 1) (by omega) (w.heap.size + 1 + 1) w.heap.size Ac cc cells W4 hs4 (by omega) hcs4 (hc.below hB4)) belowK_t (belowK_b hs4) (Below.refl _ _) (fun _ => rfl)
    (fun pre V => Below w.heap.size w V ∧ ∃ A c, BlkIs V (w.heap.size + 1) 73 #[.slice A pre.length c] ∧ V.ownsRow (w.heap.size + 1 + 1) 9 1 (.slice A pre.length c) pre.length (skC (pre.map Cel.key)))
    (fun _ _ _ => False)
    ?own ?own2 ⟨hB4, none, 0, b34, World.ownsRow_nil _ _ _ _⟩
    (fun x a V => ∃ g4, a = actK V0 w.heap.size g4 Ac cells.length cc x ∧ BlkIs V g4 205 (celC x).toArray) ?ownA ?assign ?body ?done ?stop
  case own =>
    rintro pre X Y row ⟨hB, A, c, hb, own⟩ hgr hr
    exact ⟨hB.grown hgr hB.size (fun k e => by have := (hr k e).1; omega), A, c, hb.kept hgr (fun r e => (hr r e).2), ownG_kept own hgr (fun r e => (hr r e).2)⟩
  case own2 => exact fun _ _ _ _ _ h _ _ => h
  case ownA =>
    rintro x a ⟨⟩ X Y row ⟨g4, e, h⟩ hgr hr
    exact ⟨g4, e, h.kept hgr (fun r e => (hr r e).2)⟩
  case assign =>
    intro l1 pre x V K ⟨hB, A, c, hb, own⟩ hK
    have n0 := BlkIs.new V 205 (celC zCel).toArray
    have nb := n0.setRow (celC x).toArray
    have hBV : Below V.heap.size V ((V.alloc (.cells (celC zCel).toArray 205)).setRow V.heap.size (celC x).toArray) := below_setRow ((Below.refl _ V).alloc (Nat.le_refl _) _) (Nat.le_refl _) _
    simp only [Array.zip_eq_zipWith, List.zipWith_toArray, List.zipWith_cons_cons, List.zipWith_nil_right, List.foldl_toArray, List.foldl_cons, List.foldl_nil, List.setIfInBounds_toArray, List.set_cons_zero, List.set_cons_succ]
    gi_wp2_with (first
      | (refine wpIn_allocX rfl _ rfl (x_allocCel rfl) ?_)
      | (refine wpIn_storeX rfl 205 (.tmp 4) (.tmp 13) rfl V.heap.size rfl rfl rowCel n0 rfl rfl (celC_one _) ?_))
    exact hK _ _ ((others_below hBV).from _) (hBV.mono hB.size) ⟨hB.trans (hBV.mono hB.size), A, c, hb.below hBV hb.lt, ownG_grow own hBV⟩ ⟨V.heap.size, rfl, nb⟩
  case body =>
    rintro l1 pre x a V _ _ ⟨hB, A, c, hb, own⟩ ⟨g4, rfl, h4⟩ hlen
    have c3 := hb.boxed
    have f3 := hb.free 0
    have d0 : V.cell? ⟨g4, 0, none⟩ = some (.string x.key) := by rw [h4.cell]; rfl
    have hBa : Below V.heap.size V (V.alloc (.cells #[.string x.key] 9)) := (Below.refl _ V).alloc (Nat.le_refl _) _
    have owna := ownG_grow own hBa
    have hba : w.heap.size + 1 + 1 ≤ (V.alloc (.cells #[.string x.key] 9)).heap.size := by have := hb.lt; have := hBa.size; omega
    have ba := hb.below hBa hb.lt
    have HE : Hid (skC (pre.map Cel.key) ++ [.string x.key] = skC ((pre ++ [x]).map Cel.key)) := Lib.hid (by simp [skC])
    have HL : Hid ((pre ++ [x]).length = pre.length + 1) := Lib.hid (by simp)
    have row1 := row_one V 9 (.string x.key) rfl
    gi_wp2_with (gi_at_builtin; refine wpIn_appG rfl elStr (.tmp 14) (.tmp 17) rfl (w.heap.size + 1 + 1) (.slice A pre.length c) pre.length (skC (pre.map Cel.key)) rfl owna _ _ 1 1 [.string x.key] rfl row1 (by omega) (by unfold maxLen; omega) (by omega) hba ?_; intro v5 w5 own5 hg5; rw [HE.out] at own5; obtain ⟨A5, k5, rfl, _⟩ := ownG_in own5 (skC_one _); have b5 := ba.grown hg5 (fun e => by have := ownG_ge owna _ e.symm; omega); have c5 := b5.boxed; have f5 := b5.free 0)
    have hBw := grown_below hg5 (show w.heap.size ≤ (V.alloc (.cells #[.string x.key] 9)).heap.size by omega) (fun r e => by have := ownG_ge owna r e; omega)
    have hB5 : Below w.heap.size V w5 := (hBa.mono hB.size).trans hBw
    refine ⟨(((others_below hBa).trans (others_own owna hg5)).trans (KeepsOthers.setCell _ _ _)).from _, hB5.setCell (by simp) _, hB.trans (hB5.setCell (by simp) _), A5, k5, ?_, ?_⟩
    · rw [HL.out]
      exact b5.set 0 _
    · rw [HL.out]
      exact ownG_later own5 (fun r hr => Below.heap_setCell w5 ⟨w.heap.size + 1, 0, none⟩ _ r (fun e => by have h7 := ownG_ge own5 r hr; have h8 : r = w.heap.size + 1 := e; omega))
  case done =>
    rintro D xs V hD rfl ⟨hB, A, c, hb, own⟩ hK
    have c3 := hb.boxed
    gi_wp2
    refine ⟨by simp, .inl ⟨_, _, rfl, run_takeDeferred hK, ?_⟩⟩
    have hgr := grownBy_putObj' V D (.deferred none)
    have own2 := ownG_kept own hgr (fun r e => ⟨_, (by cases e; exact hK), rfl⟩)
    obtain ⟨A2, c2, e, hin⟩ := ownG_in own2 (skC_one _)
    injection e with e1 e2 e3
    subst e1 e3
    have hl2 : (xs.map Cel.key).length = xs.length := by simp
    exact ⟨_, results_tmp rfl _ _ _, A, c, by rw [hl2]; rfl, by rw [hl2]; exact hin, hB.grown hgr hB.size (fun k e => by cases e; omega)⟩
  case stop => exact fun _ _ _ _ _ _ h _ => h.elim
theorem keys_gives (w : World) (x : Nod) (Ac : Option Addr) (cc : Nat) (Ak : Option Addr) (ck : Nat) (Ai : Option Addr) (ci : Nat) (h : NIs w w.heap.size x Ac cc Ak ck Ai ci) (hl : x.cells.length ≤ 1000000) :
    Calls Try.prog 110 #[.agg (nodC x Ac cc Ak ck Ai ci)] w (StrsOut w (nkeys x)) := by
  obtain ⟨hc, hk, hi⟩ := h
  obtain ⟨leaf, cells, keys, kids⟩ := x
  cases leaf with
  | false =>
    have lk := hk.le
    have hB : Below w.heap.size w (w.alloc (.cells (nodC ⟨false, cells, keys, kids⟩ Ac cc Ak ck Ai ci) 76)) := (Below.refl _ w).alloc (Nat.le_refl _) _
    unfold nodC at hB ⊢
    go_enter Try.func110, Try.ntmps110
    go_wp2
    go_ret
    exact ⟨Ak, ck, rfl, hk.grow hB, hB⟩
  | true => exact callsIn_wide.1 (keysLeaf_in 6 (Nat.le_refl _) w cells keys kids Ac cc Ak ck Ai ci hc hl)
end Go.Proofs.Ytlelckdcmlpmdaa
/- node.Find. -/
namespace Go.Proofs.Ytlelckdcmlpmdaa
open Go Go.RowKit Lou

theorem nkeys_len {x : Nod} (hl : x.cells.length ≤ 1000000) (hl2 : x.keys.length ≤ 1000000) : (nkeys x).length ≤ 1000000 := by
  unfold nkeys
  split
  · rw [List.length_map]; exact hl
  · exact hl2
/-- How strings are compared. -/
def ltS (a b : ByteArray) : Bool := Op.bytesLess a.toList b.toList
def leS (a b : ByteArray) : Bool := Op.bytesLess a.toList b.toList || a.toList == b.toList
def cntLe (key : ByteArray) (l : List ByteArray) : Nat := l.countP (leS · key)
/-- How many stand ahead of the first that is not less. -/
def frontLt (key : ByteArray) : List ByteArray → Nat
  | [] => 0
  | s :: l => if ltS s key then frontLt key l + 1 else 0
theorem frontLt_le (key : ByteArray) : ∀ l, frontLt key l ≤ l.length
  | [] => Nat.le_refl _
  | s :: l => by
    unfold frontLt
    have := frontLt_le key l
    split <;> simp <;> omega
theorem frontLt_at (key : ByteArray) : ∀ (l : List ByteArray) (k : Nat), k ≤ l.length → (∀ j, (h : j < l.length) → j < k → ltS l[j] key = true) → (∀ h : k < l.length, ltS l[k] key = false) → frontLt key l = k
  | [], k, hk, _, _ => by
    simp at hk
    subst hk
    rfl
  | s :: l, 0, _, _, h => by
    unfold frontLt
    have := h (by simp)
    simp at this
    rw [if_neg (by simp [this])]
  | s :: l, k + 1, hk, h1, h2 => by
    unfold frontLt
    have h0 := h1 0 (by simp) (by omega)
    simp at h0
    rw [if_pos h0, frontLt_at key l k (by simpa using hk) (fun j hj hjk => h1 (j + 1) (Nat.succ_lt_succ hj) (by omega)) (fun h => h2 (Nat.succ_lt_succ h))]
theorem cntLe_next (key : ByteArray) (l : List ByteArray) (k : Nat) (h : k < l.length) : cntLe key (l.take (k + 1)) = cntLe key (l.take k) + (if leS l[k] key then 1 else 0) := by
  unfold cntLe
  rw [List.take_succ_eq_append_getElem h, List.countP_append, List.countP_singleton]
theorem cntLe_le (key : ByteArray) (l : List ByteArray) : cntLe key l ≤ l.length := List.countP_le_length
/-- Where a key is; whether it is there. -/
def findAt (leaf : Bool) (ks : List ByteArray) (key : ByteArray) : Nat := if leaf then frontLt key ks else cntLe key ks
def findIs (leaf : Bool) (ks : List ByteArray) (key : ByteArray) : Bool := leaf && (match ks[frontLt key ks]? with | some s => s.toList == key.toList | none => false)
def FindOut (w : World) (x : Nod) (key : ByteArray) (e : Ending) (w' : World) : Prop := e = .returned (.tuple #[.int .i64 (findAt x.leaf (nkeys x) key : Int), .bool (findIs x.leaf (nkeys x) key)]) ∧ Below w.heap.size w w'
set_option maxRecDepth 100000 in
set_option maxHeartbeats 400000 in
theorem find_gives (w : World) (x : Nod) (Ac : Option Addr) (cc : Nat) (Ak : Option Addr) (ck : Nat) (Ai : Option Addr) (ci : Nat) (h : NIs w w.heap.size x Ac cc Ak ck Ai ci) (hl : x.cells.length ≤ 1000000) (hl2 : x.keys.length ≤ 1000000) (key : ByteArray) :
    Calls Try.prog 48 #[.agg (nodC x Ac cc Ak ck Ai ci), .string key] w (FindOut w x key) := by
  have b0 := BlkIs.new w 76 (nodC x Ac cc Ak ck Ai ci)
  have hB : Below w.heap.size w (w.alloc (.cells (nodC x Ac cc Ak ck Ai ci) 76)) := (Below.refl _ w).alloc (Nat.le_refl _) _
  have HK := keys_gives _ x Ac cc Ak ck Ai ci (h.grow hB) hl
  have hln := nkeys_len hl hl2
  unfold FindOut
  obtain ⟨leaf, cells, keys, kids⟩ := x
  generalize nkeys ⟨leaf, cells, keys, kids⟩ = ks at *
  unfold nodC at *
  clear hl hl2 h
  cases leaf with
  | false =>
    go_enter Try.func48, Try.ntmps48
    go_wp2_with (first
      | (refine wp_loadW rfl 76 (.tmp 2) rfl w.heap.size rfl rowNod b0 (by rfl) ?_)
      | (go_at_call 110; refine HK.mono ?_; rintro e w2 ⟨A, c, rfl, hin, hB2⟩; have k0 : w2.cell? ⟨w.heap.size, 0, none⟩ = some (.bool false) := (hB2.cell (p := ⟨w.heap.size, 0, none⟩) b0.lt).trans (by rw [b0.cell]; rfl)))
    have hle := hin.le
    go_loopw [7, 18] (fun v i wr => ∃ (k : Nat), k ≤ ks.length ∧ i = .int .i64 k ∧ v = .int .i64 (cntLe key (ks.take k) : Int) ∧ wr = w2) (fun _ i _ => ks.length - (intOf i).toNat)
    case atStart => exact ⟨0, by omega, rfl, rfl, rfl⟩
    case round =>
      obtain ⟨k, hkl, rfl, rfl, rfl⟩ := hrel
      by_cases hlt : k < ks.length
      · obtain ⟨g, o, rfl, hg, _⟩ := hin.lies (by omega)
        have d0 := str_at hin rfl k hlt
        have hnx := cntLe_next key ks k hlt
        have hm := cntLe_le key (ks.take k)
        have hm2 : (ks.take k).length ≤ k := List.length_take_le _ _
        generalize ks[k] = s at *
        generalize cntLe key (ks.take k) = m at *
        have HN := Lib.hid hnx
        clear hnx
        have hwk : IntKind.i64.wrap ((k : Int) + 1) = (k : Int) + 1 := wrapN _ (by omega) (by omega)
        have hwm : IntKind.i64.wrap ((m : Int) + 1) = (m : Int) + 1 := wrapN _ (by omega) (by omega)
        by_cases hs : leS s key = true
        · have hs' : Op.bytesLess s.toList key.toList = true ∨ (s.toList == key.toList) = true := by simpa [leS] using hs
          clear hm hm2
          go_wp2
          all_goals first
            | (exfalso; rename_i hx; (rcases hs' with h | h <;> simp [h] at hx); done)
            | exact ⟨⟨k + 1, by omega, by simp, by rw [HN.out, if_pos hs]; simp, by simp⟩, by simp [intOf]; omega⟩
        · have hs' : ¬ (Op.bytesLess s.toList key.toList = true ∨ (s.toList == key.toList) = true) := by simpa [leS] using hs
          clear hm hm2
          go_wp2
          exact ⟨⟨k + 1, by omega, by simp, by rw [HN.out, if_neg hs]; simp, by simp⟩, by simp [intOf]; omega⟩
      · obtain rfl : k = ks.length := by omega
        rw [List.take_length]
        go_wp2
        exact bodyPost_ret (results_tmp2 rfl _ _ _) rfl ⟨rfl, hB.trans (hB2.mono hB.size)⟩
  | true =>
    go_enter Try.func48, Try.ntmps48
    go_wp2_with (first
      | (refine wp_loadW rfl 76 (.tmp 2) rfl w.heap.size rfl rowNod b0 (by rfl) ?_)
      | (go_at_call 110; refine HK.mono ?_; rintro e w2 ⟨A, c, rfl, hin, hB2⟩; have k0 : w2.cell? ⟨w.heap.size, 0, none⟩ = some (.bool true) := (hB2.cell (p := ⟨w.heap.size, 0, none⟩) b0.lt).trans (by rw [b0.cell]; rfl)))
    have hle := hin.le
    go_loopw [10] (fun i wr => ∃ (k : Nat), k ≤ ks.length ∧ i = .int .i64 k ∧ (∀ j, (h : j < ks.length) → j < k → ltS ks[j] key = true) ∧ wr = w2) (fun i _ => ks.length - (intOf i).toNat)
    case atStart => exact ⟨0, by omega, rfl, fun j _ h => by omega, rfl⟩
    case round =>
      obtain ⟨k, hkl, rfl, hall, rfl⟩ := hrel
      by_cases hlt : k < ks.length
      · obtain ⟨g, o, rfl, hg, _⟩ := hin.lies (by omega)
        have d0 := str_at hin rfl k hlt
        have hnx : ltS ks[k] key = true → ∀ j, (h : j < ks.length) → j < k + 1 → ltS ks[j] key = true := fun h1 j hj hjk => by
          by_cases e : j = k
          · subst e; exact h1
          · exact hall j hj (by omega)
        have hend : ltS ks[k] key = false → frontLt key ks = k := fun h1 => frontLt_at key ks k hkl hall (fun _ => h1)
        have hget : ks[k]? = some ks[k] := List.getElem?_eq_getElem hlt
        generalize ks[k] = s at *
        have hwk : IntKind.i64.wrap ((k : Int) + 1) = (k : Int) + 1 := wrapN _ (by omega) (by omega)
        cases hs : ltS s key with
        | true =>
          have hs' : Op.bytesLess s.toList key.toList = true := hs
          have HX := Lib.hid (hnx hs)
          clear hnx hend hall hget hs
          go_wp2
          exact ⟨⟨k + 1, by omega, by simp, HX.out, by simp⟩, by simp [intOf]; omega⟩
        | false =>
          have hs' : Op.bytesLess s.toList key.toList = false := hs
          have HX := Lib.hid (hend hs)
          have HG := Lib.hid hget
          clear hnx hend hall hget hs
          go_wp2
          go_region
          go_wp2
          have e1 : findAt true ks key = k := HX.out
          have e2 : findIs true ks key = (s.toList == key.toList) := by
            unfold findIs
            rw [HX.out, HG.out]
            rfl
          exact bodyPost_ret (results_tmp2 rfl _ _ _) rfl ⟨by rw [e1, e2]; rfl, hB.trans (hB2.drew.mono hB.size)⟩
      · obtain rfl : k = ks.length := by omega
        have HX := Lib.hid (frontLt_at key ks ks.length hkl hall (fun h => absurd h hlt))
        clear hall
        go_wp2
        go_region
        go_wp2
        have e1 : findAt true ks key = ks.length := HX.out
        have e2 : findIs true ks key = false := by
          unfold findIs
          rw [HX.out, List.getElem?_eq_none (Nat.le_refl _)]
          rfl
        exact bodyPost_ret (results_tmp2 rfl _ _ _) rfl ⟨by rw [e1, e2]; rfl, hB.trans (hB2.drew.mono hB.size)⟩
end Go.Proofs.Ytlelckdcmlpmdaa
/- cmp.Less, slices.IsSorted over strings. -/
namespace Go.Proofs.Ytlelckdcmlpmdaa
open Go Go.RowKit Lou

set_option maxHeartbeats 1000000 in
theorem nanS_gives (w : World) (a : ByteArray) : Calls Try.prog 231 #[.string a] w fun e w' => e = .returned (.bool false) ∧ w = w' := by
  go_enter Try.func231, Try.ntmps231
  go_wp2
  go_ret
  exact ⟨by simp, rfl⟩
set_option maxHeartbeats 1000000 in
theorem lessS_gives (w : World) (a b : ByteArray) : Calls Try.prog 215 #[.string a, .string b] w fun e w' => e = .returned (.bool (ltS a b)) ∧ w = w' := by
  go_enter Try.func215, Try.ntmps215
  go_wp2_with (go_at_call 231; refine (nanS_gives _ _).mono ?_; rintro e w2 ⟨rfl, rfl⟩)
  go_ret
  exact ⟨by simp [ltS], rfl⟩
/-- No string is less than the one ahead of it. -/
def SortedS (l : List ByteArray) : Prop := ∀ j, (h : j + 1 < l.length) → ltS l[j + 1] l[j] = false
def sortedOut (w : World) (l : List ByteArray) (e : Ending) (w' : World) : Prop := ∃ b, e = .returned (.bool b) ∧ Below w.heap.size w w' ∧ (b = true ↔ SortedS l)
set_option maxRecDepth 100000 in
set_option maxHeartbeats 2000000 in
theorem sortedS_gives (w : World) (A : Option Addr) (c : Nat) (l : List ByteArray) (h : InG w w.heap.size 1 A l.length c (skC l)) (hl : l.length ≤ 1000000) :
    Calls Try.prog 193 #[.slice A l.length c] w (sortedOut w l) := by
  have hle := h.le
  have hw0 : IntKind.i64.wrap ((l.length : Int) - 1) = (l.length : Int) - 1 := wrapN _ (by omega) (by omega)
  go_enter Try.func193, Try.ntmps193
  go_wp2
  go_loopw [3] (fun i wr => ∃ (q : Int), i = .int .i64 q ∧ q + 1 ≤ l.length ∧ -1 ≤ q ∧ (∀ j, (h : j + 1 < l.length) → q ≤ j → ltS l[j + 1] l[j] = false) ∧ Below w.heap.size w wr) (fun i _ => (intOf i + 1).toNat)
  case atStart => exact ⟨_, rfl, by omega, by omega, fun j h h2 => by omega, Below.refl _ _⟩
  case round =>
    obtain ⟨q, rfl, hq, hq1, hall, hB⟩ := hrel
    by_cases hlt : 0 < q
    · obtain ⟨k, hqk⟩ : ∃ k : Nat, q = ((k + 1 : Nat) : Int) := ⟨(q - 1).toNat, by omega⟩
      have hk : k + 1 < l.length := by omega
      obtain ⟨m, hm⟩ : ∃ m, m = k + 1 := ⟨_, rfl⟩
      rw [← hm] at hqk
      subst hqk
      obtain ⟨g, o, rfl, hg, _⟩ := h.lies (by omega)
      have d1 : wr.drew.cell? ⟨g, o + m, none⟩ = some (.string l[k + 1]) := by rw [hm]; exact (hB.cell (p := ⟨g, o + (k + 1), none⟩) hg).trans (str_at h rfl (k + 1) hk)
      have d0 : wr.drew.cell? ⟨g, o + k, none⟩ = some (.string l[k]) := (hB.cell (p := ⟨g, o + k, none⟩) hg).trans (str_at h rfl k (by omega))
      have hnx : ltS l[k + 1] l[k] = false → ∀ j, (h : j + 1 < l.length) → (k : Int) ≤ j → ltS l[j + 1] l[j] = false := fun h1 j hj hjk => by
        by_cases e : j = k
        · subst e; exact h1
        · exact hall j hj (by omega)
      have hno : ltS l[k + 1] l[k] = true → ¬ SortedS l := fun h1 h2 => by
        have := h2 k hk
        rw [h1] at this
        cases this
      generalize l[k + 1] = s1 at *
      generalize l[k] = s0 at *
      have hwk : IntKind.i64.wrap ((m : Int) - 1) = (k : Int) := by rw [wrapN _ (by omega) (by omega)]; omega
      have hk0 : (0 : Int) ≤ (m : Int) := by omega
      have hk1 : (m : Int) < (l.length : Int) := by omega
      have hk2 : (0 : Int) ≤ (k : Int) := by omega
      have hk3 : (k : Int) < (l.length : Int) := by omega
      have HM := Lib.hid hm
      clear hall hm
      cases hs : ltS s1 s0 with
      | true =>
        have HN := Lib.hid (hno hs)
        have HS := Lib.hid hs
        clear hnx hno hs
        go_wp2
        go_region_held3 (fun W => W.cell? ⟨g, o + m, none⟩ = some (.string s1) ∧ W.cell? ⟨g, o + k, none⟩ = some (.string s0)) (exact ⟨d1, d0⟩) (first | (go_at_call 215; refine (lessS_gives _ _ _).mono ?_; rintro e w2 ⟨rfl, rfl⟩))
        rw [HS.out]
        go_wp2
        go_ret
        exact ⟨false, rfl, hB.drew, ⟨fun h => (by cases h), fun h => absurd h HN.out⟩⟩
      | false =>
        have HN := Lib.hid (hnx hs)
        have HS := Lib.hid hs
        clear hnx hno hs
        go_wp2
        go_region_held3 (fun W => W.cell? ⟨g, o + m, none⟩ = some (.string s1) ∧ W.cell? ⟨g, o + k, none⟩ = some (.string s0)) (exact ⟨d1, d0⟩) (first | (go_at_call 215; refine (lessS_gives _ _ _).mono ?_; rintro e w2 ⟨rfl, rfl⟩))
        rw [HS.out]
        go_wp2
        have hm := HM.out
        exact ⟨⟨(k : Int), by simp, by omega, by omega, HN.out, hB.drew⟩, by simp [intOf]; omega⟩
    · have HA := Lib.hid hall
      clear hall
      go_wp2
      go_ret
      exact ⟨true, rfl, hB, ⟨fun _ j hj => HA.out j hj (by omega), fun _ => rfl⟩⟩
end Go.Proofs.Ytlelckdcmlpmdaa
/- node.each over strings, with what it calls. -/
namespace Go.Proofs.Ytlelckdcmlpmdaa
open Go Go.RowKit Lou

def shortS (s : ByteArray) : Bool := decide (s.size ≤ 81)
set_option maxHeartbeats 1000000 in
theorem check1_gives (w : World) (s : ByteArray) : Calls Try.prog 196 #[.string s] w fun e w' => e = .returned (.bool (shortS s)) ∧ Below w.heap.size w w' := by
  go_enter Try.func196, Try.ntmps196
  go_wp2
  go_ret
  refine ⟨?_, Below.refl _ _⟩
  simp [shortS]
  omega
set_option maxHeartbeats 1000000 in
theorem eachS1_gives (w : World) (s : ByteArray) (B : Nat) (hB : BlkIs w B 295 #[.func (.func 196) #[] #[]]) : Calls Try.prog 217 #[.string s, .pointer (some ⟨B, 0, none⟩)] w fun e w' => e = .returned (.bool (!shortS s)) ∧ Below w.heap.size w w' := by
  have c0 := hB.boxed
  go_enter Try.func217, Try.ntmps217
  go_wp2_with (go_at_call 196; refine (check1_gives _ _).mono ?_; rintro e w2 ⟨rfl, hB2⟩)
  go_ret
  exact ⟨rfl, hB2⟩
def IdxOut (w : World) (b : Prop) (e : Ending) (w' : World) : Prop := ∃ r : Int, e = .returned (.int .i64 r) ∧ Below w.heap.size w w' ∧ (0 ≤ r ↔ b)
def YesOut (w : World) (b : Prop) (e : Ending) (w' : World) : Prop := ∃ r : Bool, e = .returned (.bool r) ∧ Below w.heap.size w w' ∧ (r = true ↔ b)
set_option maxRecDepth 100000 in
set_option maxHeartbeats 2000000 in
theorem indexS_gives (w : World) (A : Option Addr) (c : Nat) (l : List ByteArray) (h : InG w w.heap.size 1 A l.length c (skC l)) (hl : l.length ≤ 1000000) (B : Nat) (hB : BlkIs w B 295 #[.func (.func 196) #[] #[]]) :
    Calls Try.prog 232 #[.slice A l.length c, .func (.func 217) #[] #[.pointer (some ⟨B, 0, none⟩)]] w (IdxOut w (∃ s ∈ l, shortS s = false)) := by
  have hle := h.le
  go_enter Try.func232, Try.ntmps232
  go_wp2
  go_loopw [8] (fun i wr => ∃ (k : Nat), i = .int .i64 k ∧ k ≤ l.length ∧ (∀ j, (h : j < l.length) → j < k → shortS l[j] = true) ∧ Below w.heap.size w wr) (fun i _ => l.length - (intOf i).toNat)
  case atStart => exact ⟨0, rfl, by omega, fun j h h2 => by omega, Below.refl _ _⟩
  case round =>
    obtain ⟨k, rfl, hk, hall, hBr⟩ := hrel
    by_cases hlt : k < l.length
    · obtain ⟨g, o, rfl, hg, _⟩ := h.lies (by omega)
      have d0 : wr.cell? ⟨g, o + k, none⟩ = some (.string l[k]) := (hBr.cell (p := ⟨g, o + k, none⟩) hg).trans (str_at h rfl k hlt)
      have hnx : shortS l[k] = true → ∀ j, (h : j < l.length) → j < k + 1 → shortS l[j] = true := fun h1 j hj hjk => by
        by_cases e : j = k
        · subst e; exact h1
        · exact hall j hj (by omega)
      have hyes : shortS l[k] = false → ∃ s ∈ l, shortS s = false := fun h1 => ⟨_, List.getElem_mem hlt, h1⟩
      have HE := eachS1_gives wr l[k] B (hB.below hBr hB.lt)
      generalize l[k] = s at *
      have hwk : IntKind.i64.wrap ((k : Int) + 1) = (k : Int) + 1 := wrapN _ (by omega) (by omega)
      clear hall
      cases hs : shortS s with
      | true =>
        have HN := Lib.hid (hnx hs)
        rw [hs] at HE
        clear hnx hyes hs
        go_wp2_with (go_at_call 217; refine HE.mono ?_; rintro e w2 ⟨rfl, hB2⟩)
        exact ⟨⟨k + 1, by simp, by omega, HN.out, hBr.trans (hB2.mono hBr.size)⟩, by simp [intOf]; omega⟩
      | false =>
        have HN := Lib.hid (hyes hs)
        rw [hs] at HE
        clear hnx hyes hs
        go_wp2_with (go_at_call 217; refine HE.mono ?_; rintro e w2 ⟨rfl, hB2⟩)
        go_ret
        exact ⟨(k : Int), rfl, hBr.trans (hB2.mono hBr.size), ⟨fun _ => HN.out, fun _ => by omega⟩⟩
    · obtain rfl : k = l.length := by omega
      have HA := Lib.hid hall
      clear hall
      go_wp2
      go_ret
      refine ⟨-1, rfl, hBr, ⟨fun h => by omega, fun ⟨s, hs, h⟩ => ?_⟩⟩
      obtain ⟨j, hj, rfl⟩ := List.getElem_of_mem hs
      rw [HA.out j hj hj] at h
      cases h
set_option maxRecDepth 100000 in
set_option maxHeartbeats 1000000 in
theorem containsS_gives (w : World) (A : Option Addr) (c : Nat) (l : List ByteArray) (h : InG w w.heap.size 1 A l.length c (skC l)) (hl : l.length ≤ 1000000) (B : Nat) (hB : BlkIs w B 295 #[.func (.func 196) #[] #[]]) :
    Calls Try.prog 216 #[.slice A l.length c, .func (.func 217) #[] #[.pointer (some ⟨B, 0, none⟩)]] w (YesOut w (∃ s ∈ l, shortS s = false)) := by
  have HI := indexS_gives w A c l h hl B hB
  generalize (∃ s ∈ l, shortS s = false) = b at *
  go_enter Try.func216, Try.ntmps216
  go_wp2_with (go_at_call 232; refine HI.mono ?_; rintro e w2 ⟨r, rfl, hB2, hr⟩)
  go_ret
  exact ⟨_, rfl, hB2, by rw [decide_eq_true_iff]; exact hr⟩
set_option maxRecDepth 100000 in
set_option maxHeartbeats 1000000 in
theorem eachS_gives (w : World) (A : Option Addr) (c : Nat) (l : List ByteArray) (h : InG w w.heap.size 1 A l.length c (skC l)) (hl : l.length ≤ 1000000) :
    Calls Try.prog 195 #[.slice A l.length c, .func (.func 196) #[] #[]] w (YesOut w (∀ s ∈ l, shortS s = true)) := by
  have b0 := BlkIs.new w 295 #[.func (.func 196) #[] #[]]
  have hB : Below w.heap.size w (w.alloc (.cells #[.func (.func 196) #[] #[]] 295)) := (Below.refl _ w).alloc (Nat.le_refl _) _
  have HC := containsS_gives _ A c l (h.grow hB) hl _ b0
  have hb : (∀ s ∈ l, shortS s = true) ↔ ¬ (∃ s ∈ l, shortS s = false) := by simp
  generalize (∃ s ∈ l, shortS s = false) = b at *
  generalize (∀ s ∈ l, shortS s = true) = d at *
  go_enter Try.func195, Try.ntmps195
  have HBB := Lib.hid hb
  clear hb
  go_wp2_with (go_at_call 216; refine HC.mono ?_; rintro e w2 ⟨r, rfl, hB2, hr⟩)
  go_ret
  have hb := HBB.out
  refine ⟨_, rfl, hB.trans (hB2.mono hB.size), ?_⟩
  cases r <;> simp_all
end Go.Proofs.Ytlelckdcmlpmdaa
/- node.each over ints, with what it calls. -/
namespace Go.Proofs.Ytlelckdcmlpmdaa
open Go Go.RowKit Lou

theorem int_at {w : World} {B g o n c : Nat} {ks : List Int} (h : InG w B 1 (some ⟨g, o, none⟩) n c (ikC ks)) (hn : n = ks.length) (j : Nat) (hj : j < ks.length) : w.cell? ⟨g, o + j, none⟩ = some (.int .i64 ks[j]) := by
  obtain ⟨g', o', e, _, hr⟩ := h.lies (by omega)
  injection e with e
  injection e with e1 e2
  subst e1 e2
  exact hr j _ (by simp [ikC, hj])
def pageB (s : Int) : Bool := decide (1 ≤ s) && decide (s ≤ 2000)
set_option maxHeartbeats 1000000 in
theorem page_gives (w : World) (s : Int) : Calls Try.prog 200 #[.int .i64 s] w fun e w' => e = .returned (.bool (pageB s)) ∧ Below w.heap.size w w' := by
  go_enter Try.func200, Try.ntmps200
  by_cases h1 : 1 ≤ s
  · by_cases h2 : s ≤ 2000
    · go_wp2
      go_ret
      exact ⟨by simp [pageB, h1, h2], Below.refl _ _⟩
    · go_wp2
      go_ret
      exact ⟨by simp [pageB, h1, h2], Below.refl _ _⟩
  · go_wp2
    go_ret
    exact ⟨by simp [pageB, h1]; omega, Below.refl _ _⟩
set_option maxHeartbeats 1000000 in
theorem eachI1_gives (w : World) (s : Int) (B : Nat) (hB : BlkIs w B 277 #[.func (.func 200) #[] #[]]) : Calls Try.prog 220 #[.int .i64 s, .pointer (some ⟨B, 0, none⟩)] w fun e w' => e = .returned (.bool (!pageB s)) ∧ Below w.heap.size w w' := by
  have c0 := hB.boxed
  go_enter Try.func220, Try.ntmps220
  go_wp2_with (go_at_call 200; refine (page_gives _ _).mono ?_; rintro e w2 ⟨rfl, hB2⟩)
  go_ret
  exact ⟨rfl, hB2⟩
set_option maxRecDepth 100000 in
set_option maxHeartbeats 2000000 in
theorem indexI_gives (w : World) (A : Option Addr) (c : Nat) (l : List Int) (h : InG w w.heap.size 1 A l.length c (ikC l)) (hl : l.length ≤ 1000000) (B : Nat) (hB : BlkIs w B 277 #[.func (.func 200) #[] #[]]) :
    Calls Try.prog 201 #[.slice A l.length c, .func (.func 220) #[] #[.pointer (some ⟨B, 0, none⟩)]] w (IdxOut w (∃ s ∈ l, pageB s = false)) := by
  have hle := h.le
  go_enter Try.func201, Try.ntmps201
  go_wp2
  go_loopw [8] (fun i wr => ∃ (k : Nat), i = .int .i64 k ∧ k ≤ l.length ∧ (∀ j, (h : j < l.length) → j < k → pageB l[j] = true) ∧ Below w.heap.size w wr) (fun i _ => l.length - (intOf i).toNat)
  case atStart => exact ⟨0, rfl, by omega, fun j h h2 => by omega, Below.refl _ _⟩
  case round =>
    obtain ⟨k, rfl, hk, hall, hBr⟩ := hrel
    by_cases hlt : k < l.length
    · obtain ⟨g, o, rfl, hg, _⟩ := h.lies (by omega)
      have d0 : wr.cell? ⟨g, o + k, none⟩ = some (.int .i64 l[k]) := (hBr.cell (p := ⟨g, o + k, none⟩) hg).trans (int_at h rfl k hlt)
      have hnx : pageB l[k] = true → ∀ j, (h : j < l.length) → j < k + 1 → pageB l[j] = true := fun h1 j hj hjk => by
        by_cases e : j = k
        · subst e; exact h1
        · exact hall j hj (by omega)
      have hyes : pageB l[k] = false → ∃ s ∈ l, pageB s = false := fun h1 => ⟨_, List.getElem_mem hlt, h1⟩
      have HE := eachI1_gives wr l[k] B (hB.below hBr hB.lt)
      generalize l[k] = s at *
      have hwk : IntKind.i64.wrap ((k : Int) + 1) = (k : Int) + 1 := wrapN _ (by omega) (by omega)
      clear hall
      cases hs : pageB s with
      | true =>
        have HN := Lib.hid (hnx hs)
        rw [hs] at HE
        clear hnx hyes hs
        go_wp2_with (go_at_call 220; refine HE.mono ?_; rintro e w2 ⟨rfl, hB2⟩)
        exact ⟨⟨k + 1, by simp, by omega, HN.out, hBr.trans (hB2.mono hBr.size)⟩, by simp [intOf]; omega⟩
      | false =>
        have HN := Lib.hid (hyes hs)
        rw [hs] at HE
        clear hnx hyes hs
        go_wp2_with (go_at_call 220; refine HE.mono ?_; rintro e w2 ⟨rfl, hB2⟩)
        go_ret
        exact ⟨(k : Int), rfl, hBr.trans (hB2.mono hBr.size), ⟨fun _ => HN.out, fun _ => by omega⟩⟩
    · obtain rfl : k = l.length := by omega
      have HA := Lib.hid hall
      clear hall
      go_wp2
      go_ret
      refine ⟨-1, rfl, hBr, ⟨fun h => by omega, fun ⟨s, hs, h⟩ => ?_⟩⟩
      obtain ⟨j, hj, rfl⟩ := List.getElem_of_mem hs
      rw [HA.out j hj hj] at h
      cases h
set_option maxRecDepth 100000 in
set_option maxHeartbeats 1000000 in
theorem containsI_gives (w : World) (A : Option Addr) (c : Nat) (l : List Int) (h : InG w w.heap.size 1 A l.length c (ikC l)) (hl : l.length ≤ 1000000) (B : Nat) (hB : BlkIs w B 277 #[.func (.func 200) #[] #[]]) :
    Calls Try.prog 173 #[.slice A l.length c, .func (.func 220) #[] #[.pointer (some ⟨B, 0, none⟩)]] w (YesOut w (∃ s ∈ l, pageB s = false)) := by
  have HI := indexI_gives w A c l h hl B hB
  generalize (∃ s ∈ l, pageB s = false) = b at *
  go_enter Try.func173, Try.ntmps173
  go_wp2_with (go_at_call 201; refine HI.mono ?_; rintro e w2 ⟨r, rfl, hB2, hr⟩)
  go_ret
  exact ⟨_, rfl, hB2, by rw [decide_eq_true_iff]; exact hr⟩
set_option maxRecDepth 100000 in
set_option maxHeartbeats 1000000 in
theorem eachI_gives (w : World) (A : Option Addr) (c : Nat) (l : List Int) (h : InG w w.heap.size 1 A l.length c (ikC l)) (hl : l.length ≤ 1000000) :
    Calls Try.prog 199 #[.slice A l.length c, .func (.func 200) #[] #[]] w (YesOut w (∀ s ∈ l, pageB s = true)) := by
  have b0 := BlkIs.new w 277 #[.func (.func 200) #[] #[]]
  have hB : Below w.heap.size w (w.alloc (.cells #[.func (.func 200) #[] #[]] 277)) := (Below.refl _ w).alloc (Nat.le_refl _) _
  have HC := containsI_gives _ A c l (h.grow hB) hl _ b0
  have hb : (∀ s ∈ l, pageB s = true) ↔ ¬ (∃ s ∈ l, pageB s = false) := by simp
  generalize (∃ s ∈ l, pageB s = false) = b at *
  generalize (∀ s ∈ l, pageB s = true) = d at *
  go_enter Try.func199, Try.ntmps199
  have HBB := Lib.hid hb
  clear hb
  go_wp2_with (go_at_call 173; refine HC.mono ?_; rintro e w2 ⟨r, rfl, hB2, hr⟩)
  go_ret
  have hb := HBB.out
  refine ⟨_, rfl, hB.trans (hB2.mono hB.size), ?_⟩
  cases r <;> simp_all
end Go.Proofs.Ytlelckdcmlpmdaa
/- node.right; node.each over cells, with what it calls. -/
namespace Go.Proofs.Ytlelckdcmlpmdaa
open Go Go.RowKit Lou

section
variable {P : Program} {w w' : World} {ops : Array Oper} {rest : List Oper} {o : Oper} {a : Act} {Q : Exit → Act → World → Prop}
theorem wp_execN {v : Value} (hg : o.guard = none) (hr : (execOp a.eval o).run P w = .ok (.value v) w') (h : wpList P ops Q rest (a.put o.dst v) w') : wpList P ops Q (o :: rest) a w :=
  wpList_plain hg fun _ hK => by
    unfold Oper.wp
    rw [hr]
    exact hK _ _ h
end
/-- May a cell be? -/
def rightB (c : Cel) : Bool := if c.page = 0 then decide (c.val.size ≤ 60) && c.size == 0 else pageB c.page && c.val.toList.isEmpty && decide (60 < c.size) && decide (c.size ≤ 4000)
set_option maxRecDepth 100000 in
set_option maxHeartbeats 1000000 in
theorem right_gives (w : World) (c : Cel) : Calls Try.prog 198 #[.agg (celC c).toArray] w fun e w' => e = .returned (.bool (rightB c)) ∧ Below w.heap.size w w' := by
  obtain ⟨key, val, page, size⟩ := c
  have b0 := BlkIs.new w 205 #[.string key, .string val, .int .i64 page, .int .i64 size]
  have hBa : Below w.heap.size w (w.alloc (.cells #[.string key, .string val, .int .i64 page, .int .i64 size] 205)) := (Below.refl _ w).alloc (Nat.le_refl _) _
  show Calls Try.prog 198 #[.agg #[.string key, .string val, .int .i64 page, .int .i64 size]] w _
  unfold rightB
  simp only
  by_cases h0 : page = 0
  · subst h0
    rw [if_pos rfl]
    by_cases h1 : val.size ≤ 60
    · have h1' : (val.size : Int) ≤ 60 := by omega
      go_enter Try.func198, Try.ntmps198
      go_wp2
      go_ret
      exact ⟨by simp [h1], hBa⟩
    · have h1' : ¬ (val.size : Int) ≤ 60 := by omega
      go_enter Try.func198, Try.ntmps198
      go_wp2
      go_ret
      exact ⟨by simp [h1], hBa⟩
  · rw [if_neg h0]
    have h0' : (page == 0) = false := by simpa using h0
    have HP := page_gives (w.alloc (.cells #[.string key, .string val, .int .i64 page, .int .i64 size] 205)) page
    generalize pageB page = pb at *
    cases pb with
    | false =>
      go_enter Try.func198, Try.ntmps198
      go_wp2_with (go_at_call 200; refine HP.mono ?_; rintro e w2 ⟨rfl, hB2⟩)
      go_ret
      exact ⟨by simp, hBa.trans (hB2.mono hBa.size)⟩
    | true =>
      go_enter Try.func198, Try.ntmps198
      have c1 : ∀ w2, Below (w.alloc (.cells #[.string key, .string val, .int .i64 page, .int .i64 size] 205)).heap.size (w.alloc (.cells #[.string key, .string val, .int .i64 page, .int .i64 size] 205)) w2 → w2.cell? ⟨w.heap.size, 1, none⟩ = some (.string val) ∧ w2.cell? ⟨w.heap.size, 3, none⟩ = some (.int .i64 size) := fun w2 h => by
        have b2 := b0.below h b0.lt
        exact ⟨by rw [b2.cell]; rfl, by rw [b2.cell]; rfl⟩
      go_wp2_with (go_at_call 200; refine HP.mono ?_; rintro e w2 ⟨rfl, hB2⟩; obtain ⟨d1, d3⟩ := c1 w2 hB2)
      all_goals
        go_ret
        refine ⟨?_, hBa.trans (hB2.mono hBa.size)⟩
        first
          | (simp_all; done)
          | (simp_all; intros; omega)
set_option maxHeartbeats 1000000 in
theorem eachC1_gives (w : World) (s : Cel) (B : Nat) (hB : BlkIs w B 292 #[.func (.func 198) #[] #[]]) : Calls Try.prog 219 #[.agg (celC s).toArray, .pointer (some ⟨B, 0, none⟩)] w fun e w' => e = .returned (.bool (!rightB s)) ∧ Below w.heap.size w w' := by
  have b0 := BlkIs.new w 205 (celC s).toArray
  have hBa : Below w.heap.size w (w.alloc (.cells (celC s).toArray 205)) := (Below.refl _ w).alloc (Nat.le_refl _) _
  have c0 := (hB.below hBa hB.lt).boxed
  go_enter Try.func219, Try.ntmps219
  go_wp2_with (first
    | (refine wp_loadW rfl 205 (.tmp 2) rfl w.heap.size rfl rowCel b0 rfl ?_)
    | (go_at_call 198; refine (right_gives _ _).mono ?_; rintro e w2 ⟨rfl, hB2⟩))
  go_ret
  exact ⟨rfl, hBa.trans (hB2.mono hBa.size)⟩
set_option maxRecDepth 100000 in
set_option maxHeartbeats 2000000 in
theorem indexC_gives (w : World) (A : Option Addr) (c : Nat) (l : List Cel) (h : InG w w.heap.size 4 A l.length c (clC l)) (hl : l.length ≤ 1000000) (B : Nat) (hB : BlkIs w B 292 #[.func (.func 198) #[] #[]]) :
    Calls Try.prog 233 #[.slice A l.length c, .func (.func 219) #[] #[.pointer (some ⟨B, 0, none⟩)]] w (IdxOut w (∃ s ∈ l, rightB s = false)) := by
  have hle := h.le
  go_enter Try.func233, Try.ntmps233
  go_wp2
  go_loopw [8] (fun i wr => ∃ (k : Nat), i = .int .i64 k ∧ k ≤ l.length ∧ (∀ j, (h : j < l.length) → j < k → rightB l[j] = true) ∧ Below w.heap.size w wr) (fun i _ => l.length - (intOf i).toNat)
  case atStart => exact ⟨0, rfl, by omega, fun j h h2 => by omega, Below.refl _ _⟩
  case round =>
    obtain ⟨k, rfl, hk, hall, hBr⟩ := hrel
    by_cases hlt : k < l.length
    · obtain ⟨g, o, rfl, hg, _⟩ := h.lies (by omega)
      have hr4 : wr.rangeAt g (o + k * 4) (celC l[k]) := fun j v hj => (hBr.cell (p := ⟨g, o + k * 4 + j, none⟩) hg).trans (cel_at h rfl k hlt j v hj)
      have hnx : rightB l[k] = true → ∀ j, (h : j < l.length) → j < k + 1 → rightB l[j] = true := fun h1 j hj hjk => by
        by_cases e : j = k
        · subst e; exact h1
        · exact hall j hj (by omega)
      have hyes : rightB l[k] = false → ∃ s ∈ l, rightB s = false := fun h1 => ⟨_, List.getElem_mem hlt, h1⟩
      have HE := eachC1_gives wr l[k] B (hB.below hBr hB.lt)
      generalize l[k] = s at *
      have hwk : IntKind.i64.wrap ((k : Int) + 1) = (k : Int) + 1 := wrapN _ (by omega) (by omega)
      clear hall
      cases hs : rightB s with
      | true =>
        have HN := Lib.hid (hnx hs)
        rw [hs] at HE
        clear hnx hyes hs
        go_wp2_with (first
          | (refine wp_execN rfl (x_loadM rowCel hr4 rfl rfl rfl) ?_)
          | (go_at_call 219; refine HE.mono ?_; rintro e w2 ⟨rfl, hB2⟩))
        exact ⟨⟨k + 1, by simp, by omega, HN.out, hBr.trans (hB2.mono hBr.size)⟩, by simp [intOf]; omega⟩
      | false =>
        have HN := Lib.hid (hyes hs)
        rw [hs] at HE
        clear hnx hyes hs
        go_wp2_with (first
          | (refine wp_execN rfl (x_loadM rowCel hr4 rfl rfl rfl) ?_)
          | (go_at_call 219; refine HE.mono ?_; rintro e w2 ⟨rfl, hB2⟩))
        go_ret
        exact ⟨(k : Int), rfl, hBr.trans (hB2.mono hBr.size), ⟨fun _ => HN.out, fun _ => by omega⟩⟩
    · obtain rfl : k = l.length := by omega
      have HA := Lib.hid hall
      clear hall
      go_wp2
      go_ret
      refine ⟨-1, rfl, hBr, ⟨fun h => by omega, fun ⟨s, hs, h⟩ => ?_⟩⟩
      obtain ⟨j, hj, rfl⟩ := List.getElem_of_mem hs
      rw [HA.out j hj hj] at h
      cases h
set_option maxRecDepth 100000 in
set_option maxHeartbeats 1000000 in
theorem containsC_gives (w : World) (A : Option Addr) (c : Nat) (l : List Cel) (h : InG w w.heap.size 4 A l.length c (clC l)) (hl : l.length ≤ 1000000) (B : Nat) (hB : BlkIs w B 292 #[.func (.func 198) #[] #[]]) :
    Calls Try.prog 218 #[.slice A l.length c, .func (.func 219) #[] #[.pointer (some ⟨B, 0, none⟩)]] w (YesOut w (∃ s ∈ l, rightB s = false)) := by
  have HI := indexC_gives w A c l h hl B hB
  generalize (∃ s ∈ l, rightB s = false) = b at *
  go_enter Try.func218, Try.ntmps218
  go_wp2_with (go_at_call 233; refine HI.mono ?_; rintro e w2 ⟨r, rfl, hB2, hr⟩)
  go_ret
  exact ⟨_, rfl, hB2, by rw [decide_eq_true_iff]; exact hr⟩
set_option maxRecDepth 100000 in
set_option maxHeartbeats 1000000 in
theorem eachC_gives (w : World) (A : Option Addr) (c : Nat) (l : List Cel) (h : InG w w.heap.size 4 A l.length c (clC l)) (hl : l.length ≤ 1000000) :
    Calls Try.prog 197 #[.slice A l.length c, .func (.func 198) #[] #[]] w (YesOut w (∀ s ∈ l, rightB s = true)) := by
  have b0 := BlkIs.new w 292 #[.func (.func 198) #[] #[]]
  have hB : Below w.heap.size w (w.alloc (.cells #[.func (.func 198) #[] #[]] 292)) := (Below.refl _ w).alloc (Nat.le_refl _) _
  have HC := containsC_gives _ A c l (h.grow hB) hl _ b0
  have hb : (∀ s ∈ l, rightB s = true) ↔ ¬ (∃ s ∈ l, rightB s = false) := by simp
  generalize (∃ s ∈ l, rightB s = false) = b at *
  generalize (∀ s ∈ l, rightB s = true) = d at *
  go_enter Try.func197, Try.ntmps197
  have HBB := Lib.hid hb
  clear hb
  go_wp2_with (go_at_call 218; refine HC.mono ?_; rintro e w2 ⟨r, rfl, hB2, hr⟩)
  go_ret
  have hb := HBB.out
  refine ⟨_, rfl, hB.trans (hB2.mono hB.size), ?_⟩
  cases r <;> simp_all
end Go.Proofs.Ytlelckdcmlpmdaa
/- slices.Compact over strings no two of which, side by side, are the same. -/
namespace Go.Proofs.Ytlelckdcmlpmdaa
open Go Go.RowKit Lou

/-- No string is the same as the one ahead of it. -/
def ApartS (l : List ByteArray) : Prop := ∀ j, (h : j + 1 < l.length) → (l[j + 1].toList == l[j].toList) = false
set_option maxRecDepth 100000 in
set_option maxHeartbeats 2000000 in
theorem compact_same (w : World) (A : Option Addr) (c : Nat) (l : List ByteArray) (h : InG w w.heap.size 1 A l.length c (skC l)) (hl : l.length ≤ 1000000) (ha : ApartS l) :
    Calls Try.prog 194 #[.slice A l.length c] w fun e w' => e = .returned (.slice A l.length c) ∧ Below w.heap.size w w' := by
  have hle := h.le
  by_cases h2 : l.length < 2
  · have h2' : (l.length : Int) < 2 := by omega
    go_enter Try.func194, Try.ntmps194
    go_wp2
    go_ret
    exact ⟨rfl, Below.refl _ _⟩
  · have h2' : ¬ (l.length : Int) < 2 := by omega
    go_enter Try.func194, Try.ntmps194
    go_wp2
    go_loopw [3] (fun i wr => ∃ (k m : Nat), i = .int .i64 m ∧ m = k + 1 ∧ m ≤ l.length ∧ Below w.heap.size w wr) (fun i _ => l.length - (intOf i).toNat)
    case atStart => exact ⟨0, 1, rfl, rfl, by omega, Below.refl _ _⟩
    case round =>
      obtain ⟨k, m, rfl, hm, hml, hB⟩ := hrel
      by_cases hlt : m < l.length
      · have hk : k + 1 < l.length := by omega
        obtain ⟨g, o, rfl, hg, _⟩ := h.lies (by omega)
        have d1 : wr.drew.cell? ⟨g, o + m, none⟩ = some (.string l[k + 1]) := by rw [hm]; exact (hB.cell (p := ⟨g, o + (k + 1), none⟩) hg).trans (str_at h rfl (k + 1) hk)
        have d0 : wr.drew.cell? ⟨g, o + k, none⟩ = some (.string l[k]) := (hB.cell (p := ⟨g, o + k, none⟩) hg).trans (str_at h rfl k (by omega))
        have e1 : wr.cell? ⟨g, o + m, none⟩ = some (.string l[k + 1]) := d1
        have e0 : wr.cell? ⟨g, o + k, none⟩ = some (.string l[k]) := d0
        have hne := ha k hk
        generalize l[k + 1] = s1 at *
        generalize l[k] = s0 at *
        have hwk : IntKind.i64.wrap ((m : Int) - 1) = (k : Int) := by rw [wrapN _ (by omega) (by omega)]; omega
        have hwm : IntKind.i64.wrap ((m : Int) + 1) = (m : Int) + 1 := wrapN _ (by omega) (by omega)
        have hk0 : (0 : Int) ≤ (m : Int) := by omega
        have hk1 : (m : Int) < (l.length : Int) := by omega
        have hk2 : (0 : Int) ≤ (k : Int) := by omega
        have hk3 : (k : Int) < (l.length : Int) := by omega
        have HM := Lib.hid hm
        clear hm
        go_wp2
        go_region
        go_wp2
        exact ⟨⟨k + 1, m + 1, by simp, by rw [HM.out], by omega, hB.drew⟩, by simp [intOf]; omega⟩
      · obtain ⟨hs⟩ : Nonempty (m = l.length) := ⟨by omega⟩
        have hn : ¬ (m : Int) < (l.length : Int) := by omega
        clear hm hs
        go_wp2
        go_ret
        exact ⟨rfl, hB⟩
end Go.Proofs.Ytlelckdcmlpmdaa
/- node.Keys, and what its function goes through. -/
namespace Go.Proofs.Ytlelckdcmlpmdaa
open Go Go.RowKit Lou Go.Shelf
attribute [local go_sem] Oper.semAt_some

theorem run_eq_nilN {P : Program} (w : World) (t e : TypeId) (A : Option Addr) (n c : Nat) (ht : P.underlying t = some (.slice e)) : (binOp .eql t (.slice A n c) (.slice none 0 0)).run P w = .ok (.bool A.isNone) w := by
  have e1 : binOp .eql t (.slice A n c) (.slice none 0 0) = (do pure (.bool (← Op.equalIn (9999 + 1) t (.slice A n c) (.slice none 0 0)))) := rfl
  have h : (Op.equalIn (9999 + 1) t (.slice A n c) (.slice none 0 0)).run P w = .ok A.isNone w := by
    unfold Op.equalIn
    cases A <;> simp [run_underlying ht]
  rw [e1]
  simp only [Sem.run_bind, h, Result.andThen, Sem.run_pure]
/-- slices.Clone over strings. -/
def OwnStrs (w : World) (l : List ByteArray) (e : Ending) (w' : World) : Prop := ∃ A c, e = .returned (.slice A l.length c) ∧ w'.ownsRow w.heap.size 9 1 (.slice A l.length c) l.length (skC l) ∧ Below w.heap.size w w'
set_option maxRecDepth 100000 in
set_option maxHeartbeats 1000000 in
theorem sclone_gives (w : World) (A : Option Addr) (c : Nat) (l : List ByteArray) (h : InG w w.heap.size 1 A l.length c (skC l)) (hl : l.length ≤ 1000000) :
    Calls Try.prog 111 #[.slice A l.length c] w (OwnStrs w l) := by
  rcases A with _ | ad
  · have hc := h.nil rfl
    subst hc
    have hle := h.le
    obtain rfl : l = [] := List.eq_nil_of_length_eq_zero (by omega)
    have hq := fun W => run_eq_nilN (P := Try.prog) W 73 9 none 0 0 Try.underlying73
    go_enter Try.func111, Try.ntmps111
    go_wp2
    go_ret
    exact ⟨none, 0, rfl, World.ownsRow_nil _ _ _ _, Below.refl _ _⟩
  · have e0 : (w.alloc (.cells #[] 9)).ownsRow w.heap.size 9 1 (.slice (some ⟨w.heap.size, 0, none⟩) 0 0) 0 [] := World.ownsRow_lit w #[] 0 (Nat.le_refl _) (by unfold maxLen; omega) rfl
    have hB0 : Below w.heap.size w (w.alloc (.cells #[] 9)) := (Below.refl _ w).alloc (Nat.le_refl _) _
    have hq := fun W => run_eq_nilN (P := Try.prog) W 73 9 (some ad) l.length c Try.underlying73
    go_enter Try.func111, Try.ntmps111
    go_wp2_with (at_builtin; refine wp_appG rfl elStr (.tmp 5) (.tmp 6) rfl w.heap.size (.slice (some ⟨w.heap.size, 0, none⟩) 0 0) 0 [] rfl e0 _ _ l.length c (skC l) rfl (h.grow hB0) (by unfold maxLen; omega) (by omega) hB0.size ?_; intro v5 w5 own5 hg5)
    go_ret
    rw [Nat.zero_add, List.nil_append] at own5
    obtain ⟨A5, c5, rfl, _⟩ := ownG_in own5 (skC_one _)
    exact ⟨A5, c5, rfl, own5, hB0.trans (grown_below hg5 hB0.size (ownG_ge e0))⟩
theorem wpIn_scope_wideN {P : Program} {n : Nat} {c : Code} {Q : Exit → Act → World → Prop} {a : Act} {w : World} (h : c.wpIn Fence.wide n P (Exit.noGoto Q) a w) : (Code.scope c).wpIn Fence.wide n P Q a w := wpIn_wide.2 (wp_scope_straight (wpIn_wide.1 h))
/-- The first k keys, each with its number. -/
def kpairs (ks : List ByteArray) : Nat → List (Nat × ByteArray)
  | 0 => []
  | k + 1 => kpairs ks k ++ (match ks[k]? with | some s => [(k, s)] | none => [])
theorem kpairs_next (ks : List ByteArray) (k : Nat) (h : k < ks.length) : kpairs ks (k + 1) = kpairs ks k ++ [(k, ks[k])] := by
  show kpairs ks k ++ _ = _
  rw [List.getElem?_eq_getElem h]
theorem kpairs_length (ks : List ByteArray) : ∀ k, k ≤ ks.length → (kpairs ks k).length = k
  | 0, _ => rfl
  | k + 1, h => by
    rw [kpairs_next ks k (by omega), List.length_append, kpairs_length ks k (by omega)]
    rfl
/-- node.Keys keeps a copy of the keys in a block. -/
def KeysFn (w : World) (l : List ByteArray) (e : Ending) (w' : World) : Prop := ∃ g A c, e = .returned (.func (.func 112) #[] #[.pointer (some ⟨g, 0, none⟩)]) ∧ BlkIs w' g 73 #[.slice A l.length c] ∧ InG w' w'.heap.size 1 A l.length c (skC l) ∧ Below w.heap.size w w'
set_option maxRecDepth 100000 in
set_option maxHeartbeats 1000000 in
theorem nodeKeys_gives (w : World) (x : Nod) (Ac : Option Addr) (cc : Nat) (Ak : Option Addr) (ck : Nat) (Ai : Option Addr) (ci : Nat) (h : NIs w w.heap.size x Ac cc Ak ck Ai ci) (hl : x.cells.length ≤ 1000000) (hl2 : (nkeys x).length ≤ 1000000) :
    Calls Try.prog 51 #[.agg (nodC x Ac cc Ak ck Ai ci)] w (KeysFn w (nkeys x)) := by
  have b0 := BlkIs.new w 76 (nodC x Ac cc Ak ck Ai ci)
  have hB : Below w.heap.size w (w.alloc (.cells (nodC x Ac cc Ak ck Ai ci) 76)) := (Below.refl _ w).alloc (Nat.le_refl _) _
  have HK := keys_gives _ x Ac cc Ak ck Ai ci (h.grow hB) hl
  unfold KeysFn
  generalize nkeys x = ks at *
  unfold nodC at *
  go_enter Try.func51, Try.ntmps51
  go_wp2_with (first
    | (refine wp_loadW rfl 76 (.tmp 1) rfl w.heap.size rfl rowNod b0 (by rfl) ?_)
    | (go_at_call 110; refine HK.mono ?_; rintro e w2 ⟨A, c, rfl, hin, hB2⟩)
    | (go_at_call 111; refine (sclone_gives w2 A c ks hin hl2).mono ?_; rintro e w3 ⟨A3, c3, rfl, own3, hB3⟩))
  obtain ⟨A', c', e, hin3⟩ := ownG_in own3 (skC_one _)
  injection e with e1 e2 e3
  subst e1 e3
  go_ret
  have ha := (Below.refl w3.heap.size w3).alloc (Nat.le_refl _) (.cells #[.slice A3 ks.length c3] 73)
  have hB02 := hB.trans (hB2.mono hB.size)
  have hB03 := hB02.trans (hB3.mono hB02.size)
  exact ⟨w3.heap.size, A3, c3, rfl, BlkIs.new _ _ _, hin3.grow ha, hB03.trans (ha.mono hB03.size)⟩

set_option maxRecDepth 100000 in
set_option maxHeartbeats 4000000 in
theorem keys1_in (n : Nat) (hn2 : 2 ≤ n) (l Bs n₀ : Nat) (A : Option Addr) (c : Nat) (ks : List ByteArray) (J Jx : List (Nat × ByteArray) → World → Prop)
    (hY : ∀ pre (x : Nat × ByteArray) W, J pre W → pre.length < ks.length → YieldAt Fence.wide (n - 1) Try.prog l #[.int .i64 (x.1 : Int), .string x.2] W fun e W' =>
      (e = .returned (.bool true) ∧ J (pre ++ [x]) W' ∧ Below n₀ W W') ∨ (e = .returned (.bool false) ∧ Jx (pre ++ [x]) W'))
    (W : World) (hBn : Bs < n₀) (hBs : W.cell? ⟨Bs, 0, none⟩ = some (.slice A ks.length c)) (hin : InG W n₀ 1 A ks.length c (skC ks)) (h0 : J [] W) :
    CallsIn Fence.wide n Try.prog 112 #[.func (.yield l) #[] #[], .pointer (some ⟨Bs, 0, none⟩)] W fun e W' => (∃ v, e = .returned v) ∧
      ((∃ ys, ys = kpairs ks ks.length ∧ J ys W') ∨ (∃ pre, (∃ k, k ≤ ks.length ∧ 0 < k ∧ pre = kpairs ks k) ∧ Jx pre W')) := by
  have hle := hin.le
  have hmax := hin.max
  have h1 : 1 ≤ n := by omega
  refine callsIn_of_wp Try.func112 rfl trivial ?_ rfl
  simp only [Try.ntmps112, List.size_toArray, List.length_cons, List.length_nil, Nat.reduceAdd, Nat.reduceSub, Array.replicate_succ, Array.replicate_zero, List.push_toArray, List.append_toArray, List.nil_append, List.cons_append]
  refine wpIn_scope_wideN ?_
  gi_wp2
  refine wpIn_label ?_
  gi_wp2
  gi_loopw [7] (fun i wr => ∃ (k : Nat), k ≤ ks.length ∧ i = .int .i64 k ∧ J (kpairs ks k) wr ∧ Below n₀ W wr)
    (fun i _ => ks.length - (intOf i).toNat)
  case atStart => exact ⟨0, by omega, rfl, h0, Below.refl _ _⟩
  case round =>
    obtain ⟨k, hk, rfl, hJs, hnx⟩ := hrel
    by_cases hlt : k < ks.length
    · obtain ⟨g, o, rfl, hg, _⟩ := hin.lies (by omega)
      have d0 : wr.cell? ⟨g, o + k, none⟩ = some (.string ks[k]) := (hnx.cell (p := ⟨g, o + k, none⟩) hg).trans (str_at hin rfl k hlt)
      have hnx2 : kpairs ks (k + 1) = kpairs ks k ++ [(k, ks[k])] := kpairs_next ks k hlt
      obtain ⟨fn, tmps, assign, body, hy, hR⟩ := hY (kpairs ks k) (k, ks[k]) wr hJs (by rw [kpairs_length ks k hk]; exact hlt)
      generalize ks[k] = s at *
      have hwk : IntKind.i64.wrap ((k : Int) + 1) = (k : Int) + 1 := wrapN _ (by omega) (by omega)
      have HN := Lib.hid hnx2
      clear hnx2 hJs
      gi_wp2
      refine hR.mono ?_
      rintro e W3 (⟨rfl, hJ3, hk3⟩ | ⟨rfl, hJx3⟩)
      · gi_wp2
        go_roundw
        case rel => exact ⟨k + 1, by omega, by simp, by rw [HN.out]; exact hJ3, hnx.trans hk3⟩
        case measure => simp [intOf]; omega
      · gi_wp2
        simp only [Exit.noGoto]
        go_end0
        exact ⟨⟨_, rfl⟩, .inr ⟨_, ⟨k + 1, by omega, by omega, HN.out.symm⟩, hJx3⟩⟩
    · obtain rfl : k = ks.length := by omega
      gi_wp2
      simp only [Exit.noGoto]
      go_end0
      exact ⟨⟨_, rfl⟩, .inl ⟨_, rfl, hJs⟩⟩
theorem keys1_stops (n : Nat) (hn2 : 2 ≤ n) (Bs n₀ : Nat) (A : Option Addr) (c : Nat) (ks : List ByteArray) (w : World) (hBn : Bs < n₀) (hn0 : n₀ ≤ w.heap.size) (hc : w.cell? ⟨Bs, 0, none⟩ = some (.slice A ks.length c)) (hin : InG w n₀ 1 A ks.length c (skC ks)) :
    SeqStopsK Fence.wide n Try.prog 112 #[.pointer (some ⟨Bs, 0, none⟩)] (fun x : Nat × ByteArray => #[.int .i64 (x.1 : Int), .string x.2]) (Below n₀)
      (fun ys => ys = kpairs ks ks.length) (fun pre => ∃ k, k ≤ ks.length ∧ 0 < k ∧ pre = kpairs ks k) ks.length w := fun l J Jx W hW _ _ hY h0 =>
  keys1_in n hn2 l Bs n₀ A c ks J Jx hY W hBn ((hW.cell (p := ⟨Bs, 0, none⟩) (by show Bs < _; omega)).trans hc) (hin.below (hW.mono hn0)) h0
end Go.Proofs.Ytlelckdcmlpmdaa
/- node.check, where a node may be. -/
namespace Go.Proofs.Ytlelckdcmlpmdaa
open Go Go.RowKit Lou

/-- A node that may be. -/
structure RightP (x : Nod) : Prop where
  sorted : SortedS (nkeys x)
  apart : ApartS (nkeys x)
  short : ∀ s ∈ nkeys x, shortS s = true
  leaf : x.leaf = true → x.keys = [] ∧ x.kids = [] ∧ ∀ c ∈ x.cells, rightB c = true
  inner : x.leaf = false → x.cells = [] ∧ 0 < x.keys.length ∧ x.kids.length = x.keys.length + 1 ∧ ∀ i ∈ x.kids, pageB i = true
def Void (w : World) (e : Ending) (w' : World) : Prop := (∃ v, e = .returned v) ∧ Below w.heap.size w w'
set_option maxHeartbeats 1000000 in
theorem must_ok (w : World) (e : Int) : Calls Try.prog 115 #[.bool true, .int .i64 e] w fun e w' => (∃ v, e = .returned v) ∧ w = w' := by
  go_enter Try.func115, Try.ntmps115
  go_wp2
  go_end0
  exact ⟨⟨_, rfl⟩, rfl⟩
set_option maxRecDepth 100000 in
set_option maxHeartbeats 2000000 in
theorem check_ok (w : World) (x : Nod) (Ac : Option Addr) (cc : Nat) (Ak : Option Addr) (ck : Nat) (Ai : Option Addr) (ci : Nat) (h : NIs w w.heap.size x Ac cc Ak ck Ai ci) (hl : x.cells.length ≤ 1000000) (hl2 : x.keys.length ≤ 1000000) (hl3 : x.kids.length ≤ 1000000) (hR : RightP x) :
    Calls Try.prog 169 #[.agg (nodC x Ac cc Ak ck Ai ci)] w (Void w) := by
  have b0 := BlkIs.new w 76 (nodC x Ac cc Ak ck Ai ci)
  have hB : Below w.heap.size w (w.alloc (.cells (nodC x Ac cc Ak ck Ai ci) 76)) := (Below.refl _ w).alloc (Nat.le_refl _) _
  have h1 := h.grow hB
  have HK := keys_gives _ x Ac cc Ak ck Ai ci h1 hl
  have hln := nkeys_len hl hl2
  obtain ⟨hso, hap, hsh, hlf, hin⟩ := hR
  generalize nkeys x = ks at *
  unfold Void
  obtain ⟨leaf, cells, keys, kids⟩ := x
  unfold nodC at *
  simp only at *
  have HSO := Lib.hid hso
  have HAP := Lib.hid hap
  have HSH := Lib.hid hsh
  clear hso hap hsh
  cases leaf with
  | true =>
    obtain ⟨rfl, rfl, hcr⟩ := hlf rfl
    have HCR := Lib.hid hcr
    clear hlf hin hcr
    go_enter Try.func169, Try.ntmps169
    go_wp2_with (first
      | (refine wp_loadW rfl 76 (.tmp 1) rfl w.heap.size rfl rowNod b0 (by rfl) ?_)
      | (go_at_call 110; refine HK.mono ?_; rintro e w2 ⟨A, c, rfl, hin2, hB2⟩)
      | (go_at_call 193; refine (sortedS_gives w2 A c ks hin2 hln).mono ?_; rintro e w3 ⟨r3, rfl, hB3, hr3⟩; obtain rfl : r3 = true := hr3.2 HSO.out; clear hr3)
      | (go_at_call 111; refine (sclone_gives w3 A c ks (hin2.grow hB3) hln).mono ?_; rintro e w4 ⟨A4, c4, rfl, own4, hB4⟩)
      | (go_at_call 194; obtain ⟨A5, c5, e5, hin4⟩ := ownG_in own4 (skC_one _); injection e5 with e51 e52 e53; subst e51 e53; refine (compact_same w4 A4 c4 ks hin4 hln HAP.out).mono ?_; rintro e w5 ⟨rfl, hB5⟩)
      | (go_at_call 195; refine (eachS_gives w5 A c ks ((((hin2.grow hB3).grow hB4)).grow hB5) hln).mono ?_; rintro e w6 ⟨r6, rfl, hB6, hr6⟩; obtain rfl : r6 = true := hr6.2 HSH.out; clear hr6; have hB16 := hB2.trans ((hB3.trans ((hB4.trans ((hB5.trans (hB6.mono hB5.size)).mono hB4.size)).mono hB3.size)).mono hB2.size); have b6 := b0.below hB16 b0.lt; have k0 : w6.cell? ⟨w.heap.size, 0, none⟩ = some (.bool true) := (by rw [b6.cell]; rfl); have k1 : w6.cell? ⟨w.heap.size, 1, none⟩ = some (.slice Ac cells.length cc) := (by rw [b6.cell]; rfl); have k2 : w6.cell? ⟨w.heap.size, 2, none⟩ = some (.slice Ak 0 ck) := (by rw [b6.cell]; rfl); have k3 : w6.cell? ⟨w.heap.size, 3, none⟩ = some (.slice Ai 0 ci) := (by rw [b6.cell]; rfl))
      | (go_at_call 197; refine (eachC_gives w6 Ac cc cells (h1.c.grow hB16) hl).mono ?_; rintro e w8 ⟨r8, rfl, hB8, hr8⟩; obtain rfl : r8 = true := hr8.2 HCR.out; clear hr8)
      | (go_at_call 115; refine (must_ok _ _).mono ?_; rintro e w7 ⟨⟨v7, rfl⟩, rfl⟩))
    exact bodyPost_ret (results_none rfl _ _ _) rfl ⟨⟨_, rfl⟩, (hB.trans (hB16.mono hB.size)).trans (hB8.mono (hB.trans (hB16.mono hB.size)).size)⟩
  | false =>
    obtain ⟨rfl, hk0, hik, hpg⟩ := hin rfl
    have HCR := Lib.hid hpg
    have g1 : (0 : Int) < (keys.length : Int) := by omega
    have g2 : IntKind.i64.wrap ((keys.length : Int) + 1) = (kids.length : Int) := by rw [wrapN _ (by omega) (by omega)]; omega
    clear hlf hin hpg hk0 hik
    go_enter Try.func169, Try.ntmps169
    go_wp2_with (first
      | (refine wp_loadW rfl 76 (.tmp 1) rfl w.heap.size rfl rowNod b0 (by rfl) ?_)
      | (go_at_call 110; refine HK.mono ?_; rintro e w2 ⟨A, c, rfl, hin2, hB2⟩)
      | (go_at_call 193; refine (sortedS_gives w2 A c ks hin2 hln).mono ?_; rintro e w3 ⟨r3, rfl, hB3, hr3⟩; obtain rfl : r3 = true := hr3.2 HSO.out; clear hr3)
      | (go_at_call 111; refine (sclone_gives w3 A c ks (hin2.grow hB3) hln).mono ?_; rintro e w4 ⟨A4, c4, rfl, own4, hB4⟩)
      | (go_at_call 194; obtain ⟨A5, c5, e5, hin4⟩ := ownG_in own4 (skC_one _); injection e5 with e51 e52 e53; subst e51 e53; refine (compact_same w4 A4 c4 ks hin4 hln HAP.out).mono ?_; rintro e w5 ⟨rfl, hB5⟩)
      | (go_at_call 195; refine (eachS_gives w5 A c ks ((((hin2.grow hB3).grow hB4)).grow hB5) hln).mono ?_; rintro e w6 ⟨r6, rfl, hB6, hr6⟩; obtain rfl : r6 = true := hr6.2 HSH.out; clear hr6; have hB16 := hB2.trans ((hB3.trans ((hB4.trans ((hB5.trans (hB6.mono hB5.size)).mono hB4.size)).mono hB3.size)).mono hB2.size); have b6 := b0.below hB16 b0.lt; have k0 : w6.cell? ⟨w.heap.size, 0, none⟩ = some (.bool false) := (by rw [b6.cell]; rfl); have k1 : w6.cell? ⟨w.heap.size, 1, none⟩ = some (.slice Ac 0 cc) := (by rw [b6.cell]; rfl); have k2 : w6.cell? ⟨w.heap.size, 2, none⟩ = some (.slice Ak keys.length ck) := (by rw [b6.cell]; rfl); have k3 : w6.cell? ⟨w.heap.size, 3, none⟩ = some (.slice Ai kids.length ci) := (by rw [b6.cell]; rfl))
      | (go_at_call 199; refine (eachI_gives w6 Ai ci kids (h1.i.grow hB16) hl3).mono ?_; rintro e w8 ⟨r8, rfl, hB8, hr8⟩; obtain rfl : r8 = true := hr8.2 HCR.out; clear hr8)
      | (go_at_call 115; refine (must_ok _ _).mono ?_; rintro e w7 ⟨⟨v7, rfl⟩, rfl⟩))
    go_end0
    exact ⟨⟨_, rfl⟩, (hB.trans (hB16.mono hB.size)).trans (hB8.mono (hB.trans (hB16.mono hB.size)).size)⟩
end Go.Proofs.Ytlelckdcmlpmdaa
