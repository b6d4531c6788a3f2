/- Texts that the proof of NodeFinds leans on, part 3. -/
import Derived.Laws.CopyRow
import Derived.Deep.RegionHeld3
import Derived.Deep.DrawnRows
import Derived.Lib.AppendZerosOnto
import Derived.Deep.MidRow
import Derived.Test.YtlelckdcmlpmdaaNodeFindsB2
/- loupelaw03.OctetGoes: the walk. -/
namespace Go.Proofs.Ytlelckdcmlpmdaa
open Go Go.RowKit Lou Go.Shelf
attribute [local go_sem] Oper.semAt_some

/-- The law's own blocks. -/
structure Gs (s r q : Nat) (vb : Value) (cut : Int) (i p k : Int) (W : World) : Prop where
  b : BlkIs W s 30 #[vb]
  c : BlkIs W (s + 1) 3 #[.int .i64 cut]
  o : BlkIs W (s + 2) 4 #[.bool false]
  r : BlkIs W r 3 #[.int .i64 i]
  p : BlkIs W q 3 #[.int .i64 p]
  k : BlkIs W (q + 1) 3 #[.int .i64 k]
theorem Gs.kept {s r q : Nat} {vb : Value} {cut i p k : Int} {W W' : World} {row : Option Nat} (h : Gs s r q vb cut i p k W) (hg : W.grownBy W' row) (hr : ∀ r, row = some r → ∃ o : Obj, W.heap[r]? = some o ∧ o.isCells = false) : Gs s r q vb cut i p k W' :=
  ⟨h.b.kept hg hr, h.c.kept hg hr, h.o.kept hg hr, h.r.kept hg hr, h.p.kept hg hr, h.k.kept hg hr⟩

theorem run_equalIn_func_nil {P : Program} {ps rs : Array TypeId} {vd : Bool} (d : Nat) (t : TypeId) (w : World) (f : Fn) (xs ys : Array Value) (h : P.underlying t = some (.func ps rs vd)) : (Op.equalIn (d + 1) t (.func f xs ys) .nilFunc).run P w = .ok false w := by
  simp [Op.equalIn, run_underlying h, Result.andThen]
@[local go_sem] theorem run_eql_func_nil (w : World) (f : Fn) (xs ys : Array Value) : (binOp .eql 49 (.func f xs ys) .nilFunc).run Try.prog w = .ok (.bool false) w := by
  have h := run_equalIn_func_nil (P := Try.prog) 9999 49 w f xs ys Try.underlying49
  have e : binOp .eql 49 (.func f xs ys) .nilFunc = (do pure (.bool (← Op.equalIn (9999 + 1) 49 (.func f xs ys) .nilFunc))) := rfl
  rw [e]
  simp only [Sem.run_bind, h, Result.andThen, Sem.run_pure]
theorem wpIn_by_stopB {F : Fence} {n id : Nat} {P : Program} {C : Code} {Q : Exit → Act → World → Prop} {a0 : Act} {w0 : World} (S : Act → Act → World → Prop) (h1 : ∀ Q' : Exit → Act → World → Prop, (∀ a w, S a0 a w → Q' .normal a w) → (∀ a w, S a0 a w → Q' (.exit id) a w) → C.wpIn F n P Q' a0 w0) (h2 : ∀ a w, S a0 a w → Q .normal a w) : C.wpIn F n P (Exit.inBlock id Q) a0 w0 :=
  h1 _ h2 (fun a w h => by
    have := h2 a w h
    simpa [Exit.inBlock] using this)
theorem putObj_other (V : World) (D : Nat) (o : Obj) {g : Nat} (h : D ≠ g) : (V.putObj D o).heap[g]? = V.heap[g]? := by
  simp [World.putObj, Array.getElem?_setIfInBounds, h]
/-- A row that holds no cells, elsewhere, stays as it is. -/
theorem ownFrom_row {β : Type} {D : Nat} {W : World} {o : Obj} (h : W.heap[D]? = some o) : OwnFrom W.heap.size (fun (_ : β) W' => W'.heap[D]? = some o) := by
  intro s A B row hs hg hr
  have hD : D < A.heap.size := (Array.getElem?_eq_some_iff.1 hs).1
  refine (hg.block D hD (fun e => ?_)).trans hs
  have := (hr D e.symm).1
  have := (Array.getElem?_eq_some_iff.1 h).1
  omega
theorem results_cell1 {fn : Func} {P : Program} {a : Act} {w : World} {v : Value} {p : Addr} {t : TypeId} (k : Tmp) (h : fn.results = #[.cell k t]) (hk : a.eval (.tmp k) = .pointer (some p)) (hagg : (isAgg t).run P w = .ok false w) (hv : w.cell? p = some v) : (results fn a.tmps).run P w = .ok v w := by
  have e : a.tmps.getD k undef = .pointer (some p) := hk
  unfold results
  simp only [h]
  simp [← Array.getD_eq_getD_getElem?, e, loadVar, asAddr, hagg, hv, Result.andThen]
theorem Gs.step {s r q : Nat} {vb : Value} {cut i p k : Int} {W : World} (h : Gs s r q vb cut i p k W) (h1 : s + 2 < q) (h2 : r ≠ q) (h3 : r ≠ q + 1) (p' k' : Int) :
    Gs s r q vb cut i p' k' ((W.setCell ⟨q, 0, none⟩ (.int .i64 p')).setCell ⟨q + 1, 0, none⟩ (.int .i64 k')) :=
  ⟨(h.b.other (by simp; omega) _).other (by simp; omega) _, (h.c.other (by simp; omega) _).other (by simp; omega) _, (h.o.other (by simp; omega) _).other (by simp; omega) _,
    (h.r.other (by simpa using h2) _).other (by simpa using h3) _, (h.p.set 0 _).other (by simp) _, (h.k.other (by simp) _).set 0 _⟩
set_option maxRecDepth 100000 in
set_option maxHeartbeats 4000000 in
theorem lawGoes_long (w : World) (A : Option Addr) (c : Nat) (l : List UInt8) (cut : Int) (h : InB w w.heap.size A c l) (hl : 200 < l.length) :
    Calls Try.prog 5 #[.slice A l.length c, .int .i64 cut] w fun e w' => e = .returned (.bool true) ∧ Below w.heap.size w w' := by
  have hle := h.le
  have hmax := h.max
  go_enter Try.func5, Try.ntmps5
  have b2 : BlkIs (((w.alloc (.cells #[.slice A l.length c] 30)).alloc (.cells #[.int .i64 cut] 3)).alloc (.cells #[.bool false] 4)) (w.heap.size + 1 + 1) 4 #[.bool false] := by
    have := BlkIs.new ((w.alloc (.cells #[.slice A l.length c] 30)).alloc (.cells #[.int .i64 cut] 3)) 4 #[.bool false]
    rwa [World.size_alloc, World.size_alloc] at this
  have hB0 : Below w.heap.size w (((w.alloc (.cells #[.slice A l.length c] 30)).alloc (.cells #[.int .i64 cut] 3)).alloc (.cells #[.bool false] 4)) :=
    (((Below.refl _ w).alloc (Nat.le_refl _) _).alloc (by simp) _).alloc (by simp; omega) _
  go_wp2_with (go_at_call 27; refine (works3_gives _).mono ?_; rintro e w' ⟨rfl, hB⟩; have b3 := b2.below hB (by simp); have hcb := b3.boxed; have hfb := b3.free 0)
  refine bodyPost_ret_by (results_cell1 (p := ⟨w.heap.size + 1 + 1, 0, none⟩) (v := .bool true) 4 rfl rfl ?_ ?_) rfl ⟨rfl, ?_⟩
  · simp [go_sem]
  · exact (b3.set 0 (.bool true)).boxed
  · exact (hB0.trans (hB.mono hB0.size)).setCell (p := ⟨w.heap.size + 1 + 1, 0, none⟩) (by simp; omega) _

set_option maxRecDepth 100000 in
set_option maxHeartbeats 4000000 in
theorem lawGoes_in (n : Nat) (hn : 6 ≤ n) (w : World) (A : Option Addr) (c : Nat) (l : List UInt8) (cut : Int) (h : InB w w.heap.size A c l) (hl : l.length ≤ 200) :
    CallsIn Fence.wide n Try.prog 5 #[.slice A l.length c, .int .i64 cut] w fun e w' => e = .returned (.bool true) ∧ Below w.heap.size w w' := by
  have hle := h.le
  have hmax := h.max
  have h1 : 1 ≤ n := by omega
  refine callsIn_of_wp_marks Try.func5 rfl trivial ?_ rfl
  simp only [Try.ntmps5, List.size_toArray, List.length_cons, List.length_nil, Nat.reduceAdd, Nat.reduceSub, Array.replicate_succ, Array.replicate_zero, List.push_toArray, List.append_toArray, List.nil_append, List.cons_append]
  gi_wp2_with (refine ⟨trivial, ?_⟩; gi_at_call 30; refine (numbers_in (n - 1) _ _ _ _).mono ?_; rintro e w' ⟨rfl, rfl⟩)
  refine wpIn_loop_rounds 3 ?_
  rw [roundsIn_succ]
  gi_wp2
  have b0 := ((((((BlkIs.new w 30 #[.slice A l.length c]).alloc (.cells #[.int .i64 cut] 3)).alloc (.cells #[.bool false] 4)).alloc (.cells #[.slice A l.length c] 30)).alloc (.cells #[.int .i64 0] 3)).alloc (.cells #[.int .i64 0] 3)).alloc (.cells #[.int .i64 0] 3)
  have b1 := (((((BlkIs.new (w.alloc (.cells #[.slice A l.length c] 30)) 3 #[.int .i64 cut]).alloc (.cells #[.bool false] 4)).alloc (.cells #[.slice A l.length c] 30)).alloc (.cells #[.int .i64 0] 3)).alloc (.cells #[.int .i64 0] 3)).alloc (.cells #[.int .i64 0] 3)
  have b2 := ((((BlkIs.new ((w.alloc (.cells #[.slice A l.length c] 30)).alloc (.cells #[.int .i64 cut] 3)) 4 #[.bool false]).alloc (.cells #[.slice A l.length c] 30)).alloc (.cells #[.int .i64 0] 3)).alloc (.cells #[.int .i64 0] 3)).alloc (.cells #[.int .i64 0] 3)
  have hB4w : Below w.heap.size w ((((w.alloc (.cells #[.slice A l.length c] 30)).alloc (.cells #[.int .i64 cut] 3)).alloc (.cells #[.bool false] 4)).alloc (.cells #[.slice A l.length c] 30)) :=
    ((((Below.refl _ w).alloc (Nat.le_refl _) _).alloc (by simp) _).alloc (by simp; omega) _).alloc (by simp; omega) _
  have hs4 : ((((w.alloc (.cells #[.slice A l.length c] 30)).alloc (.cells #[.int .i64 cut] 3)).alloc (.cells #[.bool false] 4)).alloc (.cells #[.slice A l.length c] 30)).heap.size = w.heap.size + 1 + 1 + 1 + 1 := by simp
  have hbk4 := BlkIs.new (((w.alloc (.cells #[.slice A l.length c] 30)).alloc (.cells #[.int .i64 cut] 3)).alloc (.cells #[.bool false] 4)) 30 #[.slice A l.length c]
  have hs3 : (((w.alloc (.cells #[.slice A l.length c] 30)).alloc (.cells #[.int .i64 cut] 3)).alloc (.cells #[.bool false] 4)).heap.size = w.heap.size + 1 + 1 + 1 := by simp
  rw [hs3] at hbk4
  rw [World.size_alloc] at b1
  rw [World.size_alloc, World.size_alloc] at b2
  generalize ((((w.alloc (.cells #[.slice A l.length c] 30)).alloc (.cells #[.int .i64 cut] 3)).alloc (.cells #[.bool false] 4)).alloc (.cells #[.slice A l.length c] 30)) = W4 at *
  have hin4 : InB W4 (w.heap.size + 1 + 1 + 1 + 1) A c l := (h.below hB4w).more (by omega)
  have b4 := ((BlkIs.new W4 3 #[.int .i64 0]).alloc (.cells #[.int .i64 0] 3)).alloc (.cells #[.int .i64 0] 3)
  have b5 := (BlkIs.new (W4.alloc (.cells #[.int .i64 0] 3)) 3 #[.int .i64 0]).alloc (.cells #[.int .i64 0] 3)
  have b6 := BlkIs.new ((W4.alloc (.cells #[.int .i64 0] 3)).alloc (.cells #[.int .i64 0] 3)) 3 #[.int .i64 0]
  rw [hs4] at b4
  rw [World.size_alloc, hs4] at b5
  rw [World.size_alloc, World.size_alloc, hs4] at b6
  have hB40 : Below (w.heap.size + 1 + 1 + 1 + 1) W4 (((W4.alloc (.cells #[.int .i64 0] 3)).alloc (.cells #[.int .i64 0] 3)).alloc (.cells #[.int .i64 0] 3)) :=
    (((Below.refl _ _).alloc (by omega) _).alloc (by simp; omega) _).alloc (by simp; omega) _
  have hsz0' : (((W4.alloc (.cells #[.int .i64 0] 3)).alloc (.cells #[.int .i64 0] 3)).alloc (.cells #[.int .i64 0] 3)).heap.size = w.heap.size + 1 + 1 + 1 + 1 + 1 + 1 + 1 := by simp; omega
  generalize (((W4.alloc (.cells #[.int .i64 0] 3)).alloc (.cells #[.int .i64 0] 3)).alloc (.cells #[.int .i64 0] 3)) = W0 at *
  have hsz0 : w.heap.size + 1 + 1 + 1 + 1 ≤ W0.heap.size := by omega
  have hbox0 := (hbk4.below hB40 (by omega)).boxed
  have hGs0 : Gs w.heap.size (w.heap.size + 1 + 1 + 1 + 1) (w.heap.size + 1 + 1 + 1 + 1 + 1) (.slice A l.length c) cut 0 (0 : Nat) ([] : List (Nat × Nat)).length W0 := ⟨b0, b1, b2, b4, b5, b6⟩
  clear b0 b1 b2 b4 b5 b6 hs3 hsz0'
  replace hs4 : w.heap.size + 1 + 1 + 1 + 1 ≤ W4.heap.size := by omega
  obtain ⟨q0, hq0⟩ : ∃ q, q = w.heap.size + 1 + 1 + 1 + 1 + 1 := ⟨_, rfl⟩
  obtain ⟨r0, hr0⟩ : ∃ r, r = w.heap.size + 1 + 1 + 1 + 1 := ⟨_, rfl⟩
  rw [← hq0, ← hr0] at hGs0
  rw [← hq0, ← hr0]
  have h4r0 : w.heap.size + 1 + 1 + 1 + 1 ≤ r0 := by omega
  have hrq0 : r0 + 1 ≤ q0 := by omega
  clear hq0 hr0
  -- ROUND 0 BEGINS
  refine wpIn_by_stopB (fun a0 a W => ∃ (D p k : Nat), a = { a0 with defers := { target := .collected D, args := #[] } :: a0.defers } ∧ W.heap[D]? = some (.deferred (some [])) ∧ W0.heap.size ≤ D ∧ p ≤ l.length ∧ ((0 : Int) = 1 → p < l.length → rd (l.drop p) = none) ∧
    Gs w.heap.size r0 q0 (.slice A l.length c) cut 0 p k W ∧ Below (w.heap.size + 1 + 1 + 1 + 1) W4 W) ?_ ?_
  · intro Q' hQ hQ2
    refine wpIn_rangeFunc_ownG rfl h1 (gf := 101) (lb := #[.pointer (some ⟨w.heap.size + 1 + 1 + 1, 0, none⟩)]) rfl trivial (enters_of Try.func101 (by kernel_rfl) rfl)
      (numbers_stops (w0 := W4) (n₀ := w.heap.size + 1 + 1 + 1 + 1) (n - 1) (by omega) (w.heap.size + 1 + 1 + 1) A c l hin4 W0 hB40 (by omega) hsz0 hbox0) belowK_t (belowK_b hsz0) (Below.refl _ _) (fun _ => rfl)
      (fun pre W => (∃ p : Nat, Run l pre p ∧ Gs w.heap.size r0 q0 (.slice A l.length c) cut 0 p pre.length W) ∧ Below (w.heap.size + 1 + 1 + 1 + 1) W4 W)
      (fun cd pre W => (cd = .ret ∧ ¬ ∃ p, Run l pre p) ∨ (cd = .exit 2 ∧ ((∃ p : Nat, Run l pre p ∧ Gs w.heap.size r0 q0 (.slice A l.length c) cut 0 p pre.length W) ∧ Below (w.heap.size + 1 + 1 + 1 + 1) W4 W)))
      ?own0 ?own20 ?start0 ?act0 ?assign0 ?body0 ?done0 ?stop0
    case own0 => exact OwnFrom.and (Own.from (fun s A B row hs hg hr => by obtain ⟨p, h1, h2⟩ := hs; exact ⟨p, h1, h2.kept hg hr⟩) _) (ownFrom_below hs4 (by omega))
    case own20 =>
      rintro cd s A B row (⟨e, h⟩ | ⟨e, ⟨p, h2, h3⟩, h4⟩) hg hr
      · exact .inl ⟨e, h⟩
      · exact .inr ⟨e, ⟨p, h2, h3.kept hg (fun r e => (hr r e).2)⟩, ownFrom_below (β := Unit) hs4 (by omega) () A B row h4 hg hr⟩
    case start0 => exact ⟨⟨0, .nil, hGs0⟩, hB40⟩
    case assign0 =>
      intro l1 x W K hK
      gi_wp2
      exact hK
    case body0 =>
      rintro l1 pre x W ⟨⟨p, hrun, hG⟩, hBW⟩ hlt
      have hp := hrun.le
      have h11 : 1 ≤ n - 1 - 1 := by omega
      have hcb := hG.b.boxed
      have hcc := hG.c.boxed
      have hco := hG.o.boxed
      have hcr := hG.r.boxed
      have hcp := hG.p.boxed
      have hck := hG.k.boxed
      have hfo := hG.o.free 0
      have hfp := hG.p.free 0
      have hfk := hG.k.free 0
      have hn1 : ¬ r0 = q0 := by omega
      have hn2 : ¬ r0 = q0 + 1 := by omega
      have hn3 : ¬ w.heap.size + 1 = q0 := by omega
      have hn4 : ¬ w.heap.size + 1 = q0 + 1 := by omega
      have hn3' : ¬ w.heap.size + 1 + 1 = q0 := by omega
      have hn4' : ¬ w.heap.size + 1 + 1 = q0 + 1 := by omega
      have hcut : (if c = p then A else Option.map (fun x => x.add p) A) = cutA A c p := rfl
      have hinW : InB W W.heap.size A c l := (h.below (hB4w.trans (hBW.mono (by omega)))).more (by have := hBW.size; omega)
      have H := refReadNumber_gives W W.heap.size _ _ _ (hinW.drop p hp.2)
      rw [List.length_drop] at H
      have hwr : ∀ u : Nat, u ≤ l.length - p → IntKind.i64.wrap ((p : Int) + (u : Int)) = (p : Int) + (u : Int) := fun u hu => wrap_i64_id' _ (by omega) (by omega)
      have hwk : IntKind.i64.wrap ((pre.length : Int) + 1) = (pre.length : Int) + 1 := wrap_i64_id' _ (by omega) (by omega)
      obtain ⟨x1, x2⟩ := x
      rcases hrd : rd (l.drop p) with _ | ⟨v, u⟩
      · obtain ⟨e, he, hv⟩ := rdV_none' hrd
        rw [hv] at H
        gi_wp2_with (refine ⟨trivial, ?_⟩; gi_at_call 31; refine (CallsIn.inRound l1 (callsIn_wide.2 H)).mono ?_; rintro e w' ⟨rfl, rfl⟩)
        exact ⟨(KeepsOthers.setCell _ _ _).from _, .inl ⟨rfl, fun ⟨q, hq⟩ => by
          obtain ⟨u, _, h2, _⟩ := hrun.next hq
          rw [hrd] at h2
          cases h2⟩⟩
      · have hbd := (rd_bound hrd).2
        rw [List.length_drop] at hbd
        have hcm : cutA A c p = Option.map (fun x => x.add p) A := if_neg (by omega)
        rw [rdV_some' hrd, hcm] at H
        clear hcm hcut
        have hcne : ¬ c = p := by omega
        have hwu := hwr u hbd.2
        clear hwr
        by_cases e1 : x1 = p
        · subst e1
          by_cases e2 : x2 = v
          · subst e2
            by_cases hc : cut ≤ (pre.length : Int) + 1
            · gi_wp2_with (refine ⟨trivial, ?_⟩; gi_at_call 31; refine (CallsIn.inRound l1 (callsIn_wide.2 H)).mono ?_; rintro e w' ⟨rfl, rfl⟩)
              exact ⟨((KeepsOthers.setCell _ _ _).trans (KeepsOthers.setCell _ _ _)).from _, .inr ⟨rfl, ⟨⟨x1 + u, .snoc hrun hrd, by rw [show (((pre ++ [(x1, x2)]).length : Nat) : Int) = (pre.length : Int) + 1 from by simp, show ((x1 + u : Nat) : Int) = (x1 : Int) + (u : Int) from by simp]; exact hG.step (by omega) (by omega) (by omega) _ _⟩, (hBW.setCell (by simp; omega) _).setCell (by simp; omega) _⟩⟩⟩
            · gi_wp2_with (refine ⟨trivial, ?_⟩; gi_at_call 31; refine (CallsIn.inRound l1 (callsIn_wide.2 H)).mono ?_; rintro e w' ⟨rfl, rfl⟩)
              exact ⟨((KeepsOthers.setCell _ _ _).trans (KeepsOthers.setCell _ _ _)).from _, ((Below.refl _ _).setCell (by simp; omega) _).setCell (by simp; omega) _, ⟨⟨x1 + u, .snoc hrun hrd, by rw [show (((pre ++ [(x1, x2)]).length : Nat) : Int) = (pre.length : Int) + 1 from by simp, show ((x1 + u : Nat) : Int) = (x1 : Int) + (u : Int) from by simp]; exact hG.step (by omega) (by omega) (by omega) _ _⟩, (hBW.setCell (by simp; omega) _).setCell (by simp; omega) _⟩⟩
          · have hne : ((x2 : Int) != (v : Int)) = true := by simp; omega
            gi_wp2_with (refine ⟨trivial, ?_⟩; gi_at_call 31; refine (CallsIn.inRound l1 (callsIn_wide.2 H)).mono ?_; rintro e w' ⟨rfl, rfl⟩)
            exact ⟨(KeepsOthers.setCell _ _ _).from _, .inl ⟨rfl, fun ⟨q, hq⟩ => by
              obtain ⟨u, _, h2, _⟩ := hrun.next hq
              rw [hrd] at h2
              injection h2 with h3
              injection h3 with h4 _
              exact e2 h4.symm⟩⟩
        · have hne : ((x1 : Int) != (p : Int)) = true := by simp; omega
          gi_wp2_with (refine ⟨trivial, ?_⟩; gi_at_call 31; refine (CallsIn.inRound l1 (callsIn_wide.2 H)).mono ?_; rintro e w' ⟨rfl, rfl⟩)
          exact ⟨(KeepsOthers.setCell _ _ _).from _, .inl ⟨rfl, fun ⟨q, hq⟩ => by
            obtain ⟨u, h1, _, _⟩ := hrun.next hq
            exact e1 h1⟩⟩
    case done0 =>
      rintro D xs W hD ⟨p, hrun, hend⟩ ⟨⟨p', hrun', hG⟩, hB⟩ hK
      have := hrun.det hrun'
      subst this
      exact hQ _ _ ⟨D, p, xs.length, rfl, hK, hD, hrun.le.2, fun _ => hend, hG, hB⟩
    case stop0 =>
      rintro D cd pre W hD ⟨p, hrun⟩ (⟨rfl, hno⟩ | ⟨rfl, ⟨p', hrun', hG⟩, hB⟩) hK
      · exact absurd ⟨p, hrun⟩ hno
      · exact wpIn_exit (hQ2 _ _ ⟨D, p', pre.length, rfl, hK, hD, hrun'.le.2, (fun e => by cases e), hG, hB⟩)
  rintro a W ⟨D0, p0, k0, rfl, hK0, hD0, hp0, hend0, hG, hBW⟩
  have hcr := hG.r.boxed
  clear hbox0 hB40 hGs0 h4r0 hrq0
  gi_wp2
  have hsW := hBW.size
  have hbox := hbk4.below hBW (by omega)
  have g0 := hG.b.alloc (.cells #[.int .i64 1] 3)
  have g1 := hG.c.alloc (.cells #[.int .i64 1] 3)
  have g2 := hG.o.alloc (.cells #[.int .i64 1] 3)
  have g3 := BlkIs.new W 3 #[.int .i64 1]
  have gB := hBW.alloc (by omega) (.cells #[.int .i64 1] 3)
  have hKD : D0 < W.heap.size := (Array.getElem?_eq_some_iff.1 hK0).1
  have hK0' : (W.alloc (.cells #[.int .i64 1] 3)).heap[D0]? = some (.deferred (some [])) := (Below.heap_alloc _ _ D0 hKD).trans hK0
  generalize hW' : W.alloc (.cells #[.int .i64 1] 3) = W' at *
  clear hW' hK0 hcr hbox hG hBW
  generalize W.heap.size = r1 at *
  clear W
  have hcr1 := g3.boxed
  have hr1 := g3.lt
  rw [roundsIn_succ]
  gi_wp2
  have f0 := (g0.alloc (.cells #[.int .i64 0] 3)).alloc (.cells #[.int .i64 0] 3)
  have f1 := (g1.alloc (.cells #[.int .i64 0] 3)).alloc (.cells #[.int .i64 0] 3)
  have f2 := (g2.alloc (.cells #[.int .i64 0] 3)).alloc (.cells #[.int .i64 0] 3)
  have f3 := (g3.alloc (.cells #[.int .i64 0] 3)).alloc (.cells #[.int .i64 0] 3)
  have f5 := (BlkIs.new W' 3 #[.int .i64 0]).alloc (.cells #[.int .i64 0] 3)
  have f6 := BlkIs.new (W'.alloc (.cells #[.int .i64 0] 3)) 3 #[.int .i64 0]
  rw [World.size_alloc] at f6
  have hB41 := ((gB.alloc (by omega) (.cells #[.int .i64 0] 3)).alloc (by simp; omega) (.cells #[.int .i64 0] 3))
  have hKD' : D0 < W'.heap.size := by omega
  have hK01 : ((W'.alloc (.cells #[.int .i64 0] 3)).alloc (.cells #[.int .i64 0] 3)).heap[D0]? = some (.deferred (some [])) := ((Below.heap_alloc _ _ D0 (by simp; omega)).trans (Below.heap_alloc _ _ D0 hKD')).trans hK0'
  have hsz1' : ((W'.alloc (.cells #[.int .i64 0] 3)).alloc (.cells #[.int .i64 0] 3)).heap.size = W'.heap.size + 1 + 1 := by simp
  generalize hW1 : (W'.alloc (.cells #[.int .i64 0] 3)).alloc (.cells #[.int .i64 0] 3) = W1 at *
  clear hW1
  have hrq1 : r1 + 1 ≤ W'.heap.size := hr1
  clear hcr1 g0 g1 g2 g3 gB hK0'
  generalize W'.heap.size = q1 at *
  clear W'
  have h4r1 : w.heap.size + 1 + 1 + 1 + 1 ≤ r1 := by omega
  have hsz1 : w.heap.size + 1 + 1 + 1 + 1 ≤ W1.heap.size := by omega
  have hbox1 := (hbk4.below hB41 (by omega)).boxed
  have hGs1 : Gs w.heap.size r1 q1 (.slice A l.length c) cut 1 (0 : Nat) ([] : List (Nat × Nat)).length W1 := ⟨f0, f1, f2, f3, f5, f6⟩
  clear f0 f1 f2 f3 f5 f6 hsz1'
  -- ROUND 0 ENDS
  -- ROUND 1 BEGINS
  refine wpIn_by_stopB (fun a0 a W => ∃ (D p k : Nat), a = { a0 with defers := { target := .collected D, args := #[] } :: a0.defers } ∧ W.heap[D]? = some (.deferred (some [])) ∧ W1.heap.size ≤ D ∧ p ≤ l.length ∧ (p < l.length → rd (l.drop p) = none) ∧
    Gs w.heap.size r1 q1 (.slice A l.length c) cut 1 p k W ∧ Below (w.heap.size + 1 + 1 + 1 + 1) W4 W ∧ W.heap[D0]? = some (.deferred (some []))) ?_ ?_
  · intro Q' hQ hQ2
    refine wpIn_rangeFunc_ownG rfl h1 (gf := 101) (lb := #[.pointer (some ⟨w.heap.size + 1 + 1 + 1, 0, none⟩)]) rfl trivial (enters_of Try.func101 (by kernel_rfl) rfl)
      (numbers_stops (w0 := W4) (n₀ := w.heap.size + 1 + 1 + 1 + 1) (n - 1) (by omega) (w.heap.size + 1 + 1 + 1) A c l hin4 W1 hB41 (by omega) hsz1 hbox1) belowK_t (belowK_b hsz1) (Below.refl _ _) (fun _ => rfl)
      (fun pre W => (∃ p : Nat, Run l pre p ∧ Gs w.heap.size r1 q1 (.slice A l.length c) cut 1 p pre.length W) ∧ Below (w.heap.size + 1 + 1 + 1 + 1) W4 W ∧ W.heap[D0]? = some (.deferred (some [])))
      (fun cd pre W => (cd = .ret ∧ ¬ ∃ p, Run l pre p) ∨ (cd = .exit 2 ∧ False ∧ ((∃ p : Nat, Run l pre p ∧ Gs w.heap.size r1 q1 (.slice A l.length c) cut 1 p pre.length W) ∧ Below (w.heap.size + 1 + 1 + 1 + 1) W4 W ∧ W.heap[D0]? = some (.deferred (some [])))))
      ?own1 ?own21 ?start1 ?act1 ?assign1 ?body1 ?done1 ?stop1
    case own1 => exact OwnFrom.and (Own.from (fun s A B row hs hg hr => by obtain ⟨p, h1, h2⟩ := hs; exact ⟨p, h1, h2.kept hg hr⟩) _) (OwnFrom.and (ownFrom_below hs4 (by omega)) (ownFrom_row hK01))
    case own21 =>
      rintro cd s A B row (⟨e, h⟩ | ⟨e, hf, ⟨p, h2, h3⟩, h4⟩) hg hr
      · exact .inl ⟨e, h⟩
      · exact .inr ⟨e, hf, ⟨p, h2, h3.kept hg (fun r e => (hr r e).2)⟩, hf.elim⟩
    case start1 => exact ⟨⟨0, .nil, hGs1⟩, hB41, hK01⟩
    case assign1 =>
      intro l1 x W K hK
      gi_wp2
      exact hK
    case body1 =>
      rintro l1 pre x W ⟨⟨p, hrun, hG⟩, hBW⟩ hlt
      have hp := hrun.le
      have h11 : 1 ≤ n - 1 - 1 := by omega
      have hcb := hG.b.boxed
      have hcc := hG.c.boxed
      have hco := hG.o.boxed
      have hcr := hG.r.boxed
      have hcp := hG.p.boxed
      have hck := hG.k.boxed
      have hfo := hG.o.free 0
      have hfp := hG.p.free 0
      have hfk := hG.k.free 0
      have hn1 : ¬ r1 = q1 := by omega
      have hn2 : ¬ r1 = q1 + 1 := by omega
      have hn3 : ¬ w.heap.size + 1 = q1 := by omega
      have hn4 : ¬ w.heap.size + 1 = q1 + 1 := by omega
      have hn3' : ¬ w.heap.size + 1 + 1 = q1 := by omega
      have hn4' : ¬ w.heap.size + 1 + 1 = q1 + 1 := by omega
      have hcut : (if c = p then A else Option.map (fun x => x.add p) A) = cutA A c p := rfl
      have hinW : InB W W.heap.size A c l := (h.below (hB4w.trans (hBW.1.mono (by omega)))).more (by have := hBW.1.size; omega)
      have H := refReadNumber_gives W W.heap.size _ _ _ (hinW.drop p hp.2)
      rw [List.length_drop] at H
      have hwr : ∀ u : Nat, u ≤ l.length - p → IntKind.i64.wrap ((p : Int) + (u : Int)) = (p : Int) + (u : Int) := fun u hu => wrap_i64_id' _ (by omega) (by omega)
      have hwk : IntKind.i64.wrap ((pre.length : Int) + 1) = (pre.length : Int) + 1 := wrap_i64_id' _ (by omega) (by omega)
      obtain ⟨x1, x2⟩ := x
      rcases hrd : rd (l.drop p) with _ | ⟨v, u⟩
      · obtain ⟨e, he, hv⟩ := rdV_none' hrd
        rw [hv] at H
        gi_wp2_with (refine ⟨trivial, ?_⟩; gi_at_call 31; refine (CallsIn.inRound l1 (callsIn_wide.2 H)).mono ?_; rintro e w' ⟨rfl, rfl⟩)
        exact ⟨(KeepsOthers.setCell _ _ _).from _, .inl ⟨rfl, fun ⟨q, hq⟩ => by
          obtain ⟨u, _, h2, _⟩ := hrun.next hq
          rw [hrd] at h2
          cases h2⟩⟩
      · have hbd := (rd_bound hrd).2
        rw [List.length_drop] at hbd
        have hcm : cutA A c p = Option.map (fun x => x.add p) A := if_neg (by omega)
        rw [rdV_some' hrd, hcm] at H
        clear hcm hcut
        have hcne : ¬ c = p := by omega
        have hwu := hwr u hbd.2
        clear hwr
        by_cases e1 : x1 = p
        · subst e1
          by_cases e2 : x2 = v
          · subst e2
            gi_wp2_with (refine ⟨trivial, ?_⟩; gi_at_call 31; refine (CallsIn.inRound l1 (callsIn_wide.2 H)).mono ?_; rintro e w' ⟨rfl, rfl⟩)
            exact ⟨((KeepsOthers.setCell _ _ _).trans (KeepsOthers.setCell _ _ _)).from _, ((Below.refl _ _).setCell (by simp; omega) _).setCell (by simp; omega) _, ⟨⟨x1 + u, .snoc hrun hrd, by rw [show (((pre ++ [(x1, x2)]).length : Nat) : Int) = (pre.length : Int) + 1 from by simp, show ((x1 + u : Nat) : Int) = (x1 : Int) + (u : Int) from by simp]; exact hG.step (by omega) (by omega) (by omega) _ _⟩, (hBW.1.setCell (by simp; omega) _).setCell (by simp; omega) _, (Below.heap_setCell _ _ _ D0 (by simp; omega)).trans ((Below.heap_setCell _ _ _ D0 (by simp; omega)).trans hBW.2)⟩⟩
          · have hne : ((x2 : Int) != (v : Int)) = true := by simp; omega
            gi_wp2_with (refine ⟨trivial, ?_⟩; gi_at_call 31; refine (CallsIn.inRound l1 (callsIn_wide.2 H)).mono ?_; rintro e w' ⟨rfl, rfl⟩)
            exact ⟨(KeepsOthers.setCell _ _ _).from _, .inl ⟨rfl, fun ⟨q, hq⟩ => by
              obtain ⟨u, _, h2, _⟩ := hrun.next hq
              rw [hrd] at h2
              injection h2 with h3
              injection h3 with h4 _
              exact e2 h4.symm⟩⟩
        · have hne : ((x1 : Int) != (p : Int)) = true := by simp; omega
          gi_wp2_with (refine ⟨trivial, ?_⟩; gi_at_call 31; refine (CallsIn.inRound l1 (callsIn_wide.2 H)).mono ?_; rintro e w' ⟨rfl, rfl⟩)
          exact ⟨(KeepsOthers.setCell _ _ _).from _, .inl ⟨rfl, fun ⟨q, hq⟩ => by
            obtain ⟨u, h1, _, _⟩ := hrun.next hq
            exact e1 h1⟩⟩
    case done1 =>
      rintro D xs W hD ⟨p, hrun, hend⟩ ⟨⟨p', hrun', hG⟩, hB⟩ hK
      have := hrun.det hrun'
      subst this
      exact hQ _ _ ⟨D, p, xs.length, rfl, hK, hD, hrun.le.2, hend, hG, hB⟩
    case stop1 =>
      rintro D cd pre W hD ⟨p, hrun⟩ (⟨rfl, hno⟩ | ⟨rfl, hf, ⟨p', hrun', hG⟩, hB⟩) hK
      · exact absurd ⟨p, hrun⟩ hno
      · exact hf.elim
  rintro a W ⟨D1, p1, k1, rfl, hK1, hD1, hp1, hend1, hG, hBW, hK0⟩
  -- ROUND 1 ENDS
  have hcr := hG.r.boxed
  have hcp := hG.p.boxed
  have hcb := hG.b.boxed
  have hsW := hBW.size
  clear hbox1 hB41 hGs1
  by_cases hlt : p1 < l.length
  · have hend := hend1 hlt
    obtain ⟨e, he, hv⟩ := rdV_none' hend
    have hinW : InB W W.heap.size A c l := (h.below (hB4w.trans (hBW.mono (by omega)))).more (by omega)
    have H := refReadNumber_gives W W.heap.size _ _ _ (hinW.drop p1 hp1)
    have hcm : cutA A c p1 = Option.map (fun x => x.add p1) A := if_neg (by omega)
    rw [hv, hcm, List.length_drop] at H
    clear hcm
    have hcne : ¬ c = p1 := by omega
    gi_wp2_with (refine ⟨trivial, ?_⟩; gi_at_call 31; refine (callsIn_wide.2 H).mono ?_; rintro e w' ⟨rfl, rfl⟩)
    rw [roundsIn_succ]
    have g2 := hG.o.alloc (.cells #[.int .i64 2] 3)
    have gB := hBW.alloc (by omega) (.cells #[.int .i64 2] 3)
    have hz0 := (Below.heap_alloc W (.cells #[.int .i64 2] 3) D0 (Array.getElem?_eq_some_iff.1 hK0).1).trans hK0
    have hz1 := (Below.heap_alloc W (.cells #[.int .i64 2] 3) D1 (Array.getElem?_eq_some_iff.1 hK1).1).trans hK1
    have gs := g2.lt
    gi_wp2_with (refine ⟨trivial, ?_⟩; gi_at_call 27; refine (callsIn_wide.2 (works3_gives _)).mono ?_; rintro e w' ⟨rfl, hB⟩; have b3 := g2.below hB gs; have hco := b3.boxed; have hfo := b3.free 0)
    have hD0' := (hB.block D0 (Array.getElem?_eq_some_iff.1 hz0).1).trans hz0
    have hD1' := (hB.block D1 (Array.getElem?_eq_some_iff.1 hz1).1).trans hz1
    have hlt0 := (Array.getElem?_eq_some_iff.1 hK01).1
    have b4 := b3.set 0 (.bool true)
    have hE0 := (Below.heap_setCell w' ⟨w.heap.size + 1 + 1, 0, none⟩ (.bool true) D0 (by simp; omega)).trans hD0'
    have hE1 := (Below.heap_setCell w' ⟨w.heap.size + 1 + 1, 0, none⟩ (.bool true) D1 (by simp; omega)).trans hD1'
    have hBf : Below w.heap.size w (w'.setCell ⟨w.heap.size + 1 + 1, 0, none⟩ (.bool true)) := ((hB4w.trans (gB.mono (by omega))).trans (hB.mono (by have := gB.size; omega))).setCell (p := ⟨w.heap.size + 1 + 1, 0, none⟩) (by simp; omega) _
    generalize w'.setCell ⟨w.heap.size + 1 + 1, 0, none⟩ (.bool true) = V at *
    refine ⟨by simp, .inl ⟨D1, _, rfl, run_takeDeferred hE1, ?_⟩⟩
    have hE0' := (putObj_other V D1 (.deferred none) (g := D0) (by omega)).trans hE0
    refine ⟨by simp, .inl ⟨D0, _, rfl, run_takeDeferred hE0', ?_⟩⟩
    have b5 : BlkIs ((V.putObj D1 (.deferred none)).putObj D0 (.deferred none)) (w.heap.size + 1 + 1) 4 #[.bool true] := (putObj_other _ D0 (.deferred none) (g := w.heap.size + 1 + 1) (by omega)).trans ((putObj_other V D1 (.deferred none) (g := w.heap.size + 1 + 1) (by omega)).trans b4)
    refine ⟨.bool true, results_cell1 (p := ⟨w.heap.size + 1 + 1, 0, none⟩) 4 rfl rfl (by simp [go_sem]) b5.boxed, rfl, ?_⟩
    exact (hBf.trans (belowK_b (w := w) (Nat.le_refl _) V D1 _ _ (by omega) hE1 rfl rfl)).trans (belowK_b (w := w) (Nat.le_refl _) _ D0 _ _ (by omega) hE0' rfl rfl)
  · gi_wp2
    rw [roundsIn_succ]
    have g2 := hG.o.alloc (.cells #[.int .i64 2] 3)
    have gB := hBW.alloc (by omega) (.cells #[.int .i64 2] 3)
    have hz0 := (Below.heap_alloc W (.cells #[.int .i64 2] 3) D0 (Array.getElem?_eq_some_iff.1 hK0).1).trans hK0
    have hz1 := (Below.heap_alloc W (.cells #[.int .i64 2] 3) D1 (Array.getElem?_eq_some_iff.1 hK1).1).trans hK1
    have gs := g2.lt
    gi_wp2_with (refine ⟨trivial, ?_⟩; gi_at_call 27; refine (callsIn_wide.2 (works3_gives _)).mono ?_; rintro e w' ⟨rfl, hB⟩; have b3 := g2.below hB gs; have hco := b3.boxed; have hfo := b3.free 0)
    have hD0' := (hB.block D0 (Array.getElem?_eq_some_iff.1 hz0).1).trans hz0
    have hD1' := (hB.block D1 (Array.getElem?_eq_some_iff.1 hz1).1).trans hz1
    have hlt0 := (Array.getElem?_eq_some_iff.1 hK01).1
    have b4 := b3.set 0 (.bool true)
    have hE0 := (Below.heap_setCell w' ⟨w.heap.size + 1 + 1, 0, none⟩ (.bool true) D0 (by simp; omega)).trans hD0'
    have hE1 := (Below.heap_setCell w' ⟨w.heap.size + 1 + 1, 0, none⟩ (.bool true) D1 (by simp; omega)).trans hD1'
    have hBf : Below w.heap.size w (w'.setCell ⟨w.heap.size + 1 + 1, 0, none⟩ (.bool true)) := ((hB4w.trans (gB.mono (by omega))).trans (hB.mono (by have := gB.size; omega))).setCell (p := ⟨w.heap.size + 1 + 1, 0, none⟩) (by simp; omega) _
    generalize w'.setCell ⟨w.heap.size + 1 + 1, 0, none⟩ (.bool true) = V at *
    refine ⟨by simp, .inl ⟨D1, _, rfl, run_takeDeferred hE1, ?_⟩⟩
    have hE0' := (putObj_other V D1 (.deferred none) (g := D0) (by omega)).trans hE0
    refine ⟨by simp, .inl ⟨D0, _, rfl, run_takeDeferred hE0', ?_⟩⟩
    have b5 : BlkIs ((V.putObj D1 (.deferred none)).putObj D0 (.deferred none)) (w.heap.size + 1 + 1) 4 #[.bool true] := (putObj_other _ D0 (.deferred none) (g := w.heap.size + 1 + 1) (by omega)).trans ((putObj_other V D1 (.deferred none) (g := w.heap.size + 1 + 1) (by omega)).trans b4)
    refine ⟨.bool true, results_cell1 (p := ⟨w.heap.size + 1 + 1, 0, none⟩) 4 rfl rfl (by simp [go_sem]) b5.boxed, rfl, ?_⟩
    exact (hBf.trans (belowK_b (w := w) (Nat.le_refl _) V D1 _ _ (by omega) hE1 rfl rfl)).trans (belowK_b (w := w) (Nat.le_refl _) _ D0 _ _ (by omega) hE0' rfl rfl)

theorem lawGoes_walk (w : World) (A : Option Addr) (c : Nat) (l : List UInt8) (cut : Int) (h : InB w w.heap.size A c l) :
    Calls Try.prog 5 #[.slice A l.length c, .int .i64 cut] w fun e w' => e = .returned (.bool true) ∧ Below w.heap.size w w' := by
  by_cases hl : l.length ≤ 200
  · exact callsIn_wide.1 (lawGoes_in 6 (Nat.le_refl _) w A c l cut h hl)
  · exact lawGoes_long w A c l cut h (by omega)
end Go.Proofs.Ytlelckdcmlpmdaa
/- copy of bytes into a block of the call's own. -/
namespace Go.Proofs.Ytlelckdcmlpmdaa
open Go Go.RowKit Lou

theorem BlkIs.setRow {w : World} {g : Nat} {t : TypeId} {cs : Array Value} (h : BlkIs w g t cs) (cs' : Array Value) : BlkIs (w.setRow g cs') g t cs' := setRow_heap w g cs cs' t (0, 0) h
theorem BlkIs.setRow_ne {w : World} {g k : Nat} {t : TypeId} {cs : Array Value} (h : BlkIs w g t cs) (hk : g ≠ k) (cs' : Array Value) : BlkIs (w.setRow k cs') g t cs := (setRow_other w k g cs' hk).trans h
theorem below_setRow {B : Nat} {w0 w : World} (hb : Below B w0 w) {g : Nat} (hg : B ≤ g) (cs : Array Value) : Below B w0 (w.setRow g cs) :=
  hb.trans ⟨rfl, rfl, rfl, by simp [World.setRow], fun k hk => setRow_other w g k cs (by omega)⟩

/-- What stands after a copy. -/
def spliceB (l : List UInt8) (o n : Nat) (src : List UInt8) : List UInt8 := l.take o ++ src.take n ++ l.drop (o + min src.length n)
theorem copyB_run {w : World} {g o : Nat} {l src : List UInt8} {A : Option Addr} {c B dLen dCap : Nat} (ty : TypeId) {T : TypeId} (hb : BlkIs w g T (l.map b8).toArray) (hin : InB w B A c src) (hfit : o + dLen ≤ l.length) :
    (Builtin.copy_ #[30, 30] ty #[.slice (some ⟨g, o, none⟩) dLen dCap, .slice A src.length c]).run Try.prog w = .ok (.int .i64 ((min src.length dLen : Nat) : Int)) (w.setRow g ((spliceB l o dLen src).map b8).toArray) := by
  obtain ⟨i0, hi, hz0, hz1, hz2⟩ := info_parts inf_u8
  have hs : (Try.prog.info? 5).map (·.size) = some 1 := by rw [hi]; simp [hz1]
  rcases Nat.eq_zero_or_pos src.length with h0 | h0
  · obtain rfl := List.eq_nil_of_length_eq_zero h0
    have e : spliceB l o dLen [] = l := by simp [spliceB]
    rw [e, setRow_self w g _ _ _ hb]
    rcases A with _ | ad
    · obtain rfl := hin.nil rfl
      have := run_copy_nil (P := Try.prog) w 30 30 ty 5 ⟨g, o, none⟩ dLen dCap Try.underlying30 (by rw [hi]; rfl)
      simpa [goInt] using this
    · have := run_copy_row (P := Try.prog) w 30 30 ty 5 g o dLen dCap ad 0 c _ _ [] Try.underlying30 hs hb (by simp) (by simp) (by simp; omega) (by simp)
      have e2 : ((l.map b8).toArray.toList.take o ++ [] ++ (l.map b8).toArray.toList.drop (o + ([] : List Value).length)).toArray = (l.map b8).toArray := by simp
      rw [e2, setRow_self w g _ _ _ hb] at this
      simpa [goInt] using this
  · obtain ⟨g2, o2, rfl, hg2, hc⟩ := hin.lies h0
    have := run_copy_row (P := Try.prog) w 30 30 ty 5 g o dLen dCap ⟨g2, o2, none⟩ src.length c _ _ ((src.take dLen).map b8) Try.underlying30 hs hb (by simp [Nat.min_comm]) ?_ (by simp; omega) (fun v hv => by obtain ⟨x, _, rfl⟩ := List.mem_map.1 hv; rfl)
    · rw [this]
      simp [goInt, spliceB, Nat.min_comm, List.map_take, List.map_drop]
    · intro j v hj
      have hj2 : j < (src.take dLen).length := by
        have := (List.getElem?_eq_some_iff.1 hj).1
        simpa using this
      have hjs : j < src.length := by simp at hj2; omega
      have ea : (⟨g2, o2, none⟩ : Addr).add j = ⟨g2, o2 + j, none⟩ := by cases j <;> simp [Addr.add]
      rw [ea, hc j hjs]
      rw [List.getElem?_map, List.getElem?_eq_getElem hj2, List.getElem_take] at hj
      simpa [b8] using hj

section
variable {w : World} {ops : Array Oper} {rest : List Oper} {o : Oper} {a : Act} {Q : Exit → Act → World → Prop}
theorem oper_copyB {K : Act → World → Prop} (d s : Operand) (ho : o.op = .call { callee := .builtin .copy, args := #[d, s], argTypes := #[30, 30] })
    (g off : Nat) (l src : List UInt8) (A : Option Addr) (c B dLen dCap : Nat) (hd : a.eval d = .slice (some ⟨g, off, none⟩) dLen dCap) (hs : a.eval s = .slice A src.length c)
    {T : TypeId} (hb : BlkIs w g T (l.map b8).toArray) (hin : InB w B A c src) (hfit : off + dLen ≤ l.length)
    (h : K (a.put o.dst (.int .i64 ((min src.length dLen : Nat) : Int))) (w.setRow g ((spliceB l off dLen src).map b8).toArray)) : o.wp Try.prog a w K Q := by
  have hr := copyB_run (dCap := dCap) o.type hb hin hfit
  unfold Oper.wp execOp
  simp only [ho, resolve, invoke, builtin, Sem.run_bind, Sem.run_pure, Result.andThen_ok, List.map_toArray, List.map_cons, List.map_nil, hd, hs, hr]
  exact h
theorem wp_copyB (hgd : o.guard = none) (d s : Operand) (ho : o.op = .call { callee := .builtin .copy, args := #[d, s], argTypes := #[30, 30] })
    (g off : Nat) (l src : List UInt8) (A : Option Addr) (c B dLen dCap : Nat) (hd : a.eval d = .slice (some ⟨g, off, none⟩) dLen dCap) (hs : a.eval s = .slice A src.length c)
    {T : TypeId} (hb : BlkIs w g T (l.map b8).toArray) (hin : InB w B A c src) (hfit : off + dLen ≤ l.length)
    (h : wpList Try.prog ops Q rest (a.put o.dst (.int .i64 ((min src.length dLen : Nat) : Int))) (w.setRow g ((spliceB l off dLen src).map b8).toArray)) : wpList Try.prog ops Q (o :: rest) a w :=
  wpList_plain hgd fun _ hK => oper_copyB d s ho g off l src A c B dLen dCap hd hs hb hin hfit (hK _ _ h)
end
/-- An own row without spare room, as a block. -/
theorem OwnB.blk {w : World} {base g : Nat} {l : List UInt8} (h : OwnB w base (.slice (some ⟨g, 0, none⟩) l.length l.length) l) : BlkIs w g 5 (l.map b8).toArray ∧ base ≤ g := by
  rcases h.2 with ⟨h1, _⟩ | ⟨g', cap, cur, hv, hb, hg, hle, _, hs, ht⟩
  · cases h1
  · injection hv with e1 e2 e3
    injection e1 with e1
    injection e1 with e1 _ _
    subst e1 e3
    refine ⟨?_, hb⟩
    have e : cur.toList = l.map b8 := by
      rw [← ht, List.take_of_length_le]
      simp; omega
    have e' : cur = (l.map b8).toArray := by rw [← e]
    unfold BlkIs
    rw [hg, e']
end Go.Proofs.Ytlelckdcmlpmdaa
/- Steps of a region that draws its order, for go_region_held3: append and copy of bytes. -/
namespace Go.Proofs.Ytlelckdcmlpmdaa
open Go Go.RowKit Lou

theorem run_appB {w : World} (ty : TypeId) (base : Nat) (v : Value) (l : List UInt8) (hown : OwnB w base v l) (B : Nat) (A : Option Addr) (c : Nat) (l2 : List UInt8) (hin : InB w B A c l2)
    (hbytes : l.length + l2.length ≤ 140737488355328) (hbase : base ≤ w.heap.size) :
    ∃ v' w', (Builtin.append_ #[30, 30] ty #[v, .slice A l2.length c]).run Try.prog w = .ok v' w' ∧ OwnB w' base v' (l ++ l2) ∧ w.grownBy w' v.ownBlock ∧ (v'.ownBlock = v.ownBlock ∨ v'.ownBlock = some w.heap.size) := by
  obtain ⟨i0, hi, hz0, hz1, hz2⟩ := info_parts inf_u8
  have hle := hin.le
  rcases A with _ | ad
  · have hc0 := hin.nil rfl
    obtain rfl : l2 = [] := List.eq_nil_of_length_eq_zero (by omega)
    subst hc0
    have hr := run_append_owned_none (P := Try.prog) w base 30 ty 5 i0 1 Try.underlying30 hi v l.length (l.map b8) hown
    exact ⟨v, w, hr, by rw [List.append_nil]; exact hown, World.grownBy.refl _ _, .inl rfl⟩
  · have hnews : ∀ j u, (l2.map b8)[j]? = some u → w.cell? (ad.add j) = some u := by
      intro j u hu
      have hj : j < l2.length := by
        rcases Nat.lt_or_ge j l2.length with h | h
        · exact h
        · rw [List.getElem?_eq_none (by simpa using h)] at hu; cases hu
      obtain ⟨g, o', hA, _, hc⟩ := hin.lies (by omega)
      obtain rfl : ad = ⟨g, o', none⟩ := by simpa using hA
      have e : (⟨g, o', none⟩ : Addr).add j = ⟨g, o' + j, none⟩ := by unfold Addr.add; split <;> simp_all
      rw [e, hc j hj]
      simpa [hj, b8] using hu
    obtain ⟨v', w', hr, h2, h3, _, h5⟩ := run_append_own_at (P := Try.prog) w base 30 ty 5 i0 (.int .u8 0) 1 1 Try.underlying30 hi hz0 hz1 hz2 rfl (by decide) v l.length (l.map b8) hown ad l2.length c (l2.map b8) (by simp) hnews (by simp [b8, Value.oneCell']) (by unfold maxLen; omega) (by omega) hbase
    refine ⟨v', w', hr, ?_, h3, h5⟩
    unfold OwnB
    simpa using h2

theorem zeroCells_b8 (k : Nat) : Builtin.zeroCells (Value.int .u8 0).cells k = ((List.replicate k (0 : UInt8)).map b8).toArray := by
  apply Array.ext'
  have : (Value.int .u8 0).cells = #[.int .u8 0] := rfl
  rw [this]
  have h : (Builtin.zeroCells #[Value.int .u8 0] k).toList = List.replicate k (.int .u8 0) := by
    unfold Builtin.zeroCells
    simp only [Array.toList_map, List.toList_toArray, List.map_map, Array.toList_range]
    apply List.ext_getElem
    · simp
    · intro i h1 h2
      simp [Nat.mod_one]
  rw [h]
  simp [b8]
/-- append(v, make([]byte, k)...), v the call's own. -/
theorem run_appZ {w : World} (ty : TypeId) (base : Nat) (v : Value) (l : List UInt8) (hown : OwnB w base v l) (k : Nat) (h0 : 0 < k) (hbytes : l.length + k ≤ 1000000000) (hbase : base ≤ w.heap.size) :
    ∃ v' w', (Builtin.append_ #[30, 3] ty #[v, .int .i64 (k : Int)]).run Try.prog w = .ok v' w' ∧ OwnB w' base v' (l ++ List.replicate k 0) ∧ w.grownBy w' v.ownBlock ∧ (v'.ownBlock = v.ownBlock ∨ v'.ownBlock = some w.heap.size) := by
  obtain ⟨i0, hi, hz0, hz1, hz2⟩ := info_parts inf_u8
  have fresh : ∀ (old : Nat) (l' : List UInt8), (h : old < l'.length + k) → l'.length + k ≤ 1000000000 →
      OwnB (w.drew.alloc (.cells ((l'.map b8).toArray ++ Builtin.zeroCells (Value.int .u8 0).cells k ++ Builtin.zeroCells (Value.int .u8 0).cells (grownCap w (l'.length + k) old 5 - (l'.length + k))) 5)) base (.slice (some ⟨w.heap.size, 0, none⟩) (l'.length + k) (grownCap w (l'.length + k) old 5)) (l' ++ List.replicate k 0) := by
    intro old l' ho hb
    have hcap := grownCap_le_maxLen w (l'.length + k) old 5 (by unfold maxLen; omega)
    have hge := grownCap_ge w (l'.length + k) old 5
    generalize grownCap w (l'.length + k) old 5 = cap at *
    rw [zeroCells_b8, zeroCells_b8]
    refine ⟨by simp, .inr ⟨w.heap.size, cap, _, by simp, hbase, heap_alloc_new w.drew _, by simp; omega, hcap, by simp; omega, ?_⟩⟩
    have e : ∀ d, List.replicate (k + d) (b8 0) = List.replicate k (b8 0) ++ List.replicate d (b8 0) := fun d => by simp
    simp only [List.length_append, List.length_replicate, Nat.mul_one, Array.toList_append, List.map_append, List.map_replicate, List.append_assoc]
    rw [← List.append_assoc, List.take_append_of_le_length (by simp), List.take_of_length_le (by simp)]
  rcases hown.2 with ⟨rfl, h1⟩ | ⟨g, cap, cur, rfl, hb, hg, hle, hm, hs, ht⟩
  · obtain rfl := List.eq_nil_of_length_eq_zero h1
    have hr := Lib.run_append_nil_zeros (P := Try.prog) w 30 3 ty 5 i0 (.int .u8 0) .i64 .i64 Try.underlying30 Try.underlying3 hi hz0 k h0 (by omega) (by omega) (by rw [hz2]; simp at hbytes; omega)
    have hf := fresh 0 [] (by simp; omega) hbytes
    simp only [List.length_nil, Nat.zero_add, List.map_nil, List.nil_append] at hf
    refine ⟨_, _, hr, ?_, ⟨rfl, rfl, rfl, by simp, fun j hj _ => heap_alloc_old w.drew _ hj⟩, .inr rfl⟩
    simpa using hf
  · by_cases hroom : l.length + k ≤ cap
    · have hst := run_storeCells_at (P := Try.prog) g l.length 5 ((List.replicate k (0 : UInt8)).map b8) 0 cur w hg (by simp; omega) (fun v hv => by simp at hv; obtain ⟨_, rfl⟩ := hv; rfl)
      have e1 : (cur.toList.take (l.length + 0) ++ (List.replicate k (0 : UInt8)).map b8 ++ cur.toList.drop (l.length + 0 + ((List.replicate k (0 : UInt8)).map b8).length)).toArray.toList.take (l.length + k) = (l ++ List.replicate k 0).map b8 := by
        have e2 : cur.toList.take l.length = l.map b8 := by simpa using ht
        simp only [Nat.add_zero, e2, List.map_append]
        rw [List.take_append_of_le_length (by simp)]
        rw [List.take_of_length_le (by simp)]
      have hCs : (cur.toList.take (l.length + 0) ++ (List.replicate k (0 : UInt8)).map b8 ++ cur.toList.drop (l.length + 0 + ((List.replicate k (0 : UInt8)).map b8).length)).toArray.size = cap := by
        simp
        omega
      generalize (cur.toList.take (l.length + 0) ++ (List.replicate k (0 : UInt8)).map b8 ++ cur.toList.drop (l.length + 0 + ((List.replicate k (0 : UInt8)).map b8).length)).toArray = C at hst e1 hCs
      refine ⟨.slice (some ⟨g, 0, none⟩) (l.length + k) cap, w.setRow g C, ?_, ?_, ⟨rfl, rfl, rfl, by simp [World.setRow], fun j _ hj => setRow_other w g j _ (fun e => hj (by simp [Value.ownBlock, e]))⟩, .inl rfl⟩
      · have hk : k ≠ 0 := by omega
        have hw : IntKind.i64.wrap (k : Int) = k := by rw [IntKind.wrap_i64]; omega
        have h48i : ¬ (281474976710656 < (k : Int) * (i0.bytes : Int)) := by rw [hz2]; omega
        have hneg : ¬ ((k : Int) < 0) := by omega
        have hns : ¬ (k * i0.size = 0) := by rw [hz1]; omega
        have ea : (⟨g, 0, none⟩ : Addr).add (l.length * i0.size) = ⟨g, l.length, none⟩ := by rw [hz1, Nat.mul_one]; unfold Addr.add; split <;> simp_all
        have hzc := zeroCells_b8 k
        have hst' : (storeCells ⟨g, l.length, none⟩ (Builtin.zeroCells (Value.int .u8 0).cells k).toList).run Try.prog w = .ok () (w.setRow g C) := by
          rw [hzc]
          simpa using hst
        simp [Builtin.append_, run_underlying Try.underlying30, run_underlying Try.underlying3, sizeOf, typeInfo, zeroValue, hi, hz0, asInt, asIntOf, hw, hroom, hneg, hns, h48i, ea, hst']
      · refine ⟨by simp, .inr ⟨g, cap, _, by simp, hb, setRow_heap w g cur _ _ _ hg, by simpa using hroom, hm, by omega, ?_⟩⟩
        simpa using e1
    · have hold : (Builtin.firstCells i0.size l.length (.slice (some ⟨g, 0, none⟩) l.length cap)).run Try.prog w.drew = .ok (l.map b8).toArray w.drew := by
        have hl := run_loadCells_list (P := Try.prog) w.drew ⟨g, 0, none⟩ (l.map b8) (fun j u hj => by
          have hj' : j < l.length := by
            have := (List.getElem?_eq_some_iff.1 hj).1
            simpa using this
          have hc := OwnB.cell (w := w) hown j hj'
          have ea : (⟨g, 0, none⟩ : Addr).add j = ⟨g, j, none⟩ := by unfold Addr.add; split <;> simp_all
          rw [ea]
          have hc2 : w.drew.cell? ⟨g, j, none⟩ = some (.int .u8 (l[j].toNat : Int)) := hc
          rw [hc2]
          rw [List.getElem?_map, List.getElem?_eq_getElem hj'] at hj
          simpa [b8] using hj)
        simp only [List.length_map] at hl
        simp [Builtin.firstCells, hz1, hl]
      have hr := Lib.run_append_grow_zeros (P := Try.prog) w 30 3 ty 5 i0 (.int .u8 0) .i64 .i64 Try.underlying30 Try.underlying3 hi hz0 (some ⟨g, 0, none⟩) l.length cap (l.map b8) hold k h0 (by rw [hz1]; omega) (by omega) (by omega) (by rw [hz2]; omega) (growslice_fits (by omega) (by rw [hz2]; omega))
      refine ⟨_, _, hr, ?_, ⟨rfl, rfl, rfl, by simp, fun j hj _ => heap_alloc_old w.drew _ hj⟩, .inr rfl⟩
      have := fresh cap l (by omega) hbytes
      simpa using this
theorem OwnB.later {w w' : World} {base : Nat} {v : Value} {l : List UInt8} (h : OwnB w base v l) (hB : Below w.heap.size w w') : OwnB w' base v l := by
  refine ⟨h.1, ?_⟩
  rcases h.2 with h | ⟨g, cap, cur, h1, h2, h3, h4⟩
  · exact .inl h
  · exact .inr ⟨g, cap, cur, h1, h2, (hB.block g (Array.getElem?_eq_some_iff.1 h3).1).trans h3, h4⟩
/-- A row's block lies at the base or behind it. -/
theorem OwnB.ownGe {w : World} {base : Nat} {v : Value} {l : List UInt8} (h : OwnB w base v l) : ∀ r, v.ownBlock = some r → base ≤ r := by
  intro r hr
  rcases h.form with ⟨rfl, _⟩ | ⟨g, cap, rfl, hb, _⟩
  · cases hr
  · injection hr with hr
    subst hr
    exact hb
theorem grown_below {w w' : World} {B : Nat} {row : Option Nat} (hg : w.grownBy w' row) (hB : B ≤ w.heap.size) (hr : ∀ r, row = some r → B ≤ r) : Below B w w' :=
  ⟨hg.os, hg.tape, hg.output, hg.size, fun k hk => hg.block k (by omega) (fun e => by have := hr k e.symm; omega)⟩
/-- What a region's loads read, behind what turns nothing that was there. -/
theorem keepB1 {w1 W W' : World} {g i : Nat} {x : Value} (hB : Below w1.heap.size W W') (h : Below w1.heap.size w1 W ∧ W.cell? ⟨g, i, none⟩ = some x) (hg : g < w1.heap.size) : Below w1.heap.size w1 W' ∧ W'.cell? ⟨g, i, none⟩ = some x :=
  ⟨h.1.trans hB, (hB.cell (p := ⟨g, i, none⟩) hg).trans h.2⟩
theorem keepB2 {w1 W W' : World} {g i j : Nat} {x y : Value} (hB : Below w1.heap.size W W') (h : Below w1.heap.size w1 W ∧ W.cell? ⟨g, i, none⟩ = some x ∧ W.cell? ⟨g, j, none⟩ = some y) (hg : g < w1.heap.size) :
    Below w1.heap.size w1 W' ∧ W'.cell? ⟨g, i, none⟩ = some x ∧ W'.cell? ⟨g, j, none⟩ = some y :=
  ⟨h.1.trans hB, (hB.cell (p := ⟨g, i, none⟩) hg).trans h.2.1, (hB.cell (p := ⟨g, j, none⟩) hg).trans h.2.2⟩

section
variable {w : World} {ops : Array Oper} {o : Oper} {a : Act} {K : Act → World → Prop} {Q : Exit → Act → World → Prop} {E : Prop}
theorem oper_appB (s x : Operand) (ho : o.op = .call { callee := .builtin .append, args := #[s, x], argTypes := #[30, 30] })
    (base : Nat) (v : Value) (l : List UInt8) (hs : a.eval s = v) (hown : OwnB w base v l) (B : Nat) (A : Option Addr) (c : Nat) (l2 : List UInt8) (hx : a.eval x = .slice A l2.length c) (hin : InB w B A c l2)
    (hbytes : l.length + l2.length ≤ 140737488355328) (hbase : base ≤ w.heap.size)
    (h : ∀ v' w', OwnB w' base v' (l ++ l2) → w.grownBy w' v.ownBlock → (v'.ownBlock = v.ownBlock ∨ v'.ownBlock = some w.heap.size) → K (a.put o.dst v') w') : o.wp Try.prog a w K Q := by
  obtain ⟨v', w', hr, h2, h3, h4⟩ := run_appB o.type base v l hown B A c l2 hin hbytes hbase
  unfold Oper.wp execOp
  simp only [ho, resolve, invoke, builtin, Sem.run_bind, Sem.run_pure, Result.andThen_ok, List.map_toArray, List.map_cons, List.map_nil, hs, hx, hr]
  exact h v' w' h2 h3 h4
theorem step_appB (hgd : o.guard = none) (s x : Operand) (ho : o.op = .call { callee := .builtin .append, args := #[s, x], argTypes := #[30, 30] })
    (base : Nat) (v : Value) (l : List UInt8) (hs : a.eval s = v) (hown : OwnB w base v l) (B : Nat) (A : Option Addr) (c : Nat) (l2 : List UInt8) (hx : a.eval x = .slice A l2.length c) (hin : InB w B A c l2)
    (hbytes : l.length + l2.length ≤ 140737488355328) (hbase : base ≤ w.heap.size)
    (h : ∀ v' w', OwnB w' base v' (l ++ l2) → w.grownBy w' v.ownBlock → (v'.ownBlock = v.ownBlock ∨ v'.ownBlock = some w.heap.size) → K (a.put o.dst v') w') :
    if Region.wanted o (yielded ops a.tmps) = true then Oper.wp Try.prog o a w K Q else E := by
  have hw : Region.wanted o (yielded ops a.tmps) = true := by simp [Region.wanted, hgd]
  rw [if_pos hw]
  exact oper_appB s x ho base v l hs hown B A c l2 hx hin hbytes hbase h
theorem oper_appZ (s x : Operand) (ho : o.op = .call { callee := .builtin .append, args := #[s, x], argTypes := #[30, 3] })
    (base : Nat) (v : Value) (l : List UInt8) (hs : a.eval s = v) (hown : OwnB w base v l) (k : Nat) (hx : a.eval x = .int .i64 (k : Int)) (h0 : 0 < k) (hbytes : l.length + k ≤ 1000000000) (hbase : base ≤ w.heap.size)
    (h : ∀ v' w', OwnB w' base v' (l ++ List.replicate k 0) → w.grownBy w' v.ownBlock → (v'.ownBlock = v.ownBlock ∨ v'.ownBlock = some w.heap.size) → K (a.put o.dst v') w') : o.wp Try.prog a w K Q := by
  obtain ⟨v', w', hr, h2, h3, h4⟩ := run_appZ o.type base v l hown k h0 hbytes hbase
  unfold Oper.wp execOp
  simp only [ho, resolve, invoke, builtin, Sem.run_bind, Sem.run_pure, Result.andThen_ok, List.map_toArray, List.map_cons, List.map_nil, hs, hx, hr]
  exact h v' w' h2 h3 h4
theorem wp_appZ {rest : List Oper} (hgd : o.guard = none) (s x : Operand) (ho : o.op = .call { callee := .builtin .append, args := #[s, x], argTypes := #[30, 3] })
    (base : Nat) (v : Value) (l : List UInt8) (hs : a.eval s = v) (hown : OwnB w base v l) (k : Nat) (hx : a.eval x = .int .i64 (k : Int)) (h0 : 0 < k) (hbytes : l.length + k ≤ 1000000000) (hbase : base ≤ w.heap.size)
    (h : ∀ v' w', OwnB w' base v' (l ++ List.replicate k 0) → w.grownBy w' v.ownBlock → (v'.ownBlock = v.ownBlock ∨ v'.ownBlock = some w.heap.size) → wpList Try.prog ops Q rest (a.put o.dst v') w') : wpList Try.prog ops Q (o :: rest) a w :=
  wpList_plain hgd fun _ hK => oper_appZ s x ho base v l hs hown k hx h0 hbytes hbase fun v' w' h1 h2 h3 => hK _ _ (h v' w' h1 h2 h3)
theorem step_copyB (hgd : o.guard = none) (d s : Operand) (ho : o.op = .call { callee := .builtin .copy, args := #[d, s], argTypes := #[30, 30] })
    (g off : Nat) (l src : List UInt8) (A : Option Addr) (c B dLen dCap : Nat) (hd : a.eval d = .slice (some ⟨g, off, none⟩) dLen dCap) (hs : a.eval s = .slice A src.length c)
    {T : TypeId} (hb : BlkIs w g T (l.map b8).toArray) (hin : InB w B A c src) (hfit : off + dLen ≤ l.length)
    (h : K (a.put o.dst (.int .i64 ((min src.length dLen : Nat) : Int))) (w.setRow g ((spliceB l off dLen src).map b8).toArray)) :
    if Region.wanted o (yielded ops a.tmps) = true then Oper.wp Try.prog o a w K Q else E := by
  have hw : Region.wanted o (yielded ops a.tmps) = true := by simp [Region.wanted, hgd]
  rw [if_pos hw]
  exact oper_copyB d s ho g off l src A c B dLen dCap hd hs hb hin hfit h
end
end Go.Proofs.Ytlelckdcmlpmdaa
/- Structs and arrays that lie whole in a block: load, store, results. -/
namespace Go.Proofs.Ytlelckdcmlpmdaa
open Go Go.RowKit Lou

theorem BlkIs.range {w : World} {g : Nat} {t : TypeId} {cs : Array Value} (h : BlkIs w g t cs) : w.rangeAt g 0 cs.toList := fun j v hj => by
  rw [Nat.zero_add, h.cell]
  simpa using hj
/-- A type whose values lie in n cells of a block of their own. -/
structure RowTy (P : Program) (T : TypeId) (n : Nat) : Prop where
  desc : ∃ d, P.underlying T = some d ∧ d.isRow = true
  size : (P.info? T).map (·.size) = some n
theorem run_loadW {P : Program} {w : World} {g : Nat} {T t : TypeId} {cs : Array Value} (hT : RowTy P T cs.size) (hb : BlkIs w g t cs) : (loadVar T ⟨g, 0, none⟩).run P w = .ok (.agg cs) w := by
  obtain ⟨d, hu, hd⟩ := hT.desc
  have := run_loadVar_mid (P := P) w g 0 T cs.toList d hb.range hu hd (by simpa using hT.size)
  simpa using this
theorem run_storeW {P : Program} {w : World} {g : Nat} {T t : TypeId} {cs cs' : Array Value} (hT : RowTy P T cs.size) (hb : BlkIs w g t cs) (hs : cs'.size = cs.size) (h1 : ∀ v ∈ cs'.toList, v.oneCell' = true) : (storeVar T ⟨g, 0, none⟩ (.agg cs')).run P w = .ok () (w.setRow g cs') := by
  have h := run_storeCells_at (P := P) g 0 t cs'.toList 0 cs w hb (by simp; omega) h1
  have e : (cs.toList.take (0 + 0) ++ cs'.toList ++ cs.toList.drop (0 + 0 + cs'.toList.length)).toArray = cs' := by
    simp [List.drop_of_length_le, hs]
  rw [e] at h
  have hi := hT.size
  cases hq : P.info? T with
  | none => simp [hq] at hi
  | some i =>
    have hs2 : cs'.size = i.size := by simp [hq] at hi; omega
    simp [storeVar, sizeOf, typeInfo, hq, Value.cells, hs2, h]
section
variable {P : Program} {w : World} {ops : Array Oper} {rest : List Oper} {o : Oper} {a : Act} {Q : Exit → Act → World → Prop}
theorem oper_loadW {K : Act → World → Prop} (T : TypeId) (x : Operand) (ho : o.op = .load T x) (g : Nat) {t : TypeId} {cs : Array Value} (hx : a.eval x = .pointer (some ⟨g, 0, none⟩)) {n : Nat} (hT : RowTy P T n) (hb : BlkIs w g t cs) (hn : cs.size = n)
    (h : K (a.put o.dst (.agg cs)) w) : o.wp P a w K Q := by
  unfold Oper.wp execOp
  simp only [ho, hx, Instr.loadAt, Instr.sureAddr, Sem.run_bind, Sem.run_pure, Result.andThen_ok, run_loadW (hn ▸ hT) hb]
  exact h
theorem oper_storeW {K : Act → World → Prop} (T : TypeId) (x y : Operand) (ho : o.op = .store T x y) (g : Nat) {t : TypeId} {cs cs' : Array Value} (hx : a.eval x = .pointer (some ⟨g, 0, none⟩)) (hy : a.eval y = .agg cs') {n : Nat} (hT : RowTy P T n) (hb : BlkIs w g t cs) (hn : cs.size = n)
    (hs : cs'.size = cs.size) (h1 : ∀ v ∈ cs'.toList, v.oneCell' = true) (h : K (a.put o.dst undef) (w.setRow g cs')) : o.wp P a w K Q := by
  unfold Oper.wp execOp
  simp only [ho, hx, hy, Instr.storeAt, Instr.sureAddr, Sem.run_bind, Sem.run_pure, Result.andThen_ok, run_storeW (hn ▸ hT) hb hs h1]
  exact h
theorem wp_loadW (hgd : o.guard = none) (T : TypeId) (x : Operand) (ho : o.op = .load T x) (g : Nat) {t : TypeId} {cs : Array Value} (hx : a.eval x = .pointer (some ⟨g, 0, none⟩)) {n : Nat} (hT : RowTy P T n) (hb : BlkIs w g t cs) (hn : cs.size = n)
    (h : wpList P ops Q rest (a.put o.dst (.agg cs)) w) : wpList P ops Q (o :: rest) a w :=
  wpList_plain hgd fun _ hK => oper_loadW T x ho g hx hT hb hn (hK _ _ h)
theorem wp_storeW (hgd : o.guard = none) (T : TypeId) (x y : Operand) (ho : o.op = .store T x y) (g : Nat) {t : TypeId} {cs cs' : Array Value} (hx : a.eval x = .pointer (some ⟨g, 0, none⟩)) (hy : a.eval y = .agg cs') {n : Nat} (hT : RowTy P T n) (hb : BlkIs w g t cs) (hn : cs.size = n)
    (hs : cs'.size = cs.size) (h1 : ∀ v ∈ cs'.toList, v.oneCell' = true) (h : wpList P ops Q rest (a.put o.dst undef) (w.setRow g cs')) : wpList P ops Q (o :: rest) a w :=
  wpList_plain hgd fun _ hK => oper_storeW T x y ho g hx hy hT hb hn hs h1 (hK _ _ h)
end
theorem results_cellW {fn : Func} {P : Program} {a : Act} {w : World} {g : Nat} {T t : TypeId} {cs : Array Value} (k : Tmp) (h : fn.results = #[.cell k T]) (hk : a.eval (.tmp k) = .pointer (some ⟨g, 0, none⟩)) {n : Nat} (hT : RowTy P T n) (hb : BlkIs w g t cs) (hn : cs.size = n) :
    (results fn a.tmps).run P w = .ok (.agg cs) w := by
  have e : a.tmps.getD k undef = .pointer (some ⟨g, 0, none⟩) := hk
  unfold results
  simp only [h]
  simp [← Array.getD_eq_getD_getElem?, e, asAddr, run_loadW (hn ▸ hT) hb, Result.andThen]
theorem results_cellW_tmp {fn : Func} {P : Program} {a : Act} {w : World} {g : Nat} {T t : TypeId} {cs : Array Value} {v : Value} (k m : Tmp) (h : fn.results = #[.cell k T, .tmp m]) (hk : a.eval (.tmp k) = .pointer (some ⟨g, 0, none⟩)) (hm : a.eval (.tmp m) = v) {n : Nat} (hT : RowTy P T n) (hb : BlkIs w g t cs) (hn : cs.size = n) :
    (results fn a.tmps).run P w = .ok (.tuple #[.agg cs, v]) w := by
  have e : a.tmps.getD k undef = .pointer (some ⟨g, 0, none⟩) := hk
  have e2 : a.tmps.getD m undef = v := hm
  unfold results
  simp only [h]
  simp [← Array.getD_eq_getD_getElem?, e, e2, asAddr, run_loadW (hn ▸ hT) hb, Result.andThen]
theorem b8_one (l : List UInt8) : ∀ v ∈ (l.map b8).toArray.toList, v.oneCell' = true := by
  intro v hv
  simp at hv
  obtain ⟨x, _, rfl⟩ := hv
  rfl
/-- The types of frames' sectors and heads. -/
theorem rowSector : RowTy Try.prog 236 64 := ⟨⟨_, Try.underlying236, rfl⟩, by kernel_rfl⟩
theorem rowHead : RowTy Try.prog 109 4 := ⟨⟨_, Try.underlying109, rfl⟩, by kernel_rfl⟩
end Go.Proofs.Ytlelckdcmlpmdaa
/- Rows of elements of whatever type: that came in, that a call owns; append, Clone, an element read. -/
namespace Go.Proofs.Ytlelckdcmlpmdaa
open Go Go.RowKit Lou

/-- n elements of sz cells each lie in a row below B: '.slice A n c'; cs are their cells. -/
structure InG (w : World) (B sz : Nat) (A : Option Addr) (n c : Nat) (cs : List Value) : Prop where
  le : n ≤ c
  max : c ≤ 9223372036854775807
  nil : A = none → c = 0
  len : cs.length = n * sz
  one : ∀ v ∈ cs, v.oneCell' = true
  lies : 0 < n → ∃ g o, A = some ⟨g, o, none⟩ ∧ g < B ∧ w.rangeAt g o cs
theorem InG.keep {w w' : World} {B sz : Nat} {A : Option Addr} {n c : Nat} {cs : List Value} (h : InG w B sz A n c cs) (hk : ∀ p : Addr, p.block < B → w'.cell? p = w.cell? p) : InG w' B sz A n c cs :=
  ⟨h.le, h.max, h.nil, h.len, h.one, fun hl => by
    obtain ⟨g, o, hA, hg, hc⟩ := h.lies hl
    exact ⟨g, o, hA, hg, fun j v hj => (hk _ hg).trans (hc j v hj)⟩⟩
theorem InG.below {w w' : World} {B sz : Nat} {A : Option Addr} {n c : Nat} {cs : List Value} (h : InG w B sz A n c cs) (hb : Below B w w') : InG w' B sz A n c cs := h.keep fun _ hp => hb.cell hp
theorem InG.more {w : World} {B B' sz : Nat} {A : Option Addr} {n c : Nat} {cs : List Value} (h : InG w B sz A n c cs) (hB : B ≤ B') : InG w B' sz A n c cs :=
  ⟨h.le, h.max, h.nil, h.len, h.one, fun hl => by
    obtain ⟨g, o, hA, hg, hc⟩ := h.lies hl
    exact ⟨g, o, hA, by omega, hc⟩⟩
theorem InG.grow {w w' : World} {sz : Nat} {A : Option Addr} {n c : Nat} {cs : List Value} (h : InG w w.heap.size sz A n c cs) (hb : Below w.heap.size w w') : InG w' w'.heap.size sz A n c cs := (h.below hb).more hb.size
theorem InG.mt (w : World) (B sz : Nat) : InG w B sz none 0 0 [] := ⟨Nat.le_refl _, by omega, fun _ => rfl, by simp, (fun v h => by cases h), fun h => by omega⟩
/-- The same row, cut to its first k. -/
theorem InG.take {w : World} {B sz : Nat} {A : Option Addr} {n c : Nat} {cs : List Value} (h : InG w B sz A n c cs) (k c' : Nat) (hk : k ≤ n) (hc : k ≤ c') (hc' : c' ≤ c) : InG w B sz A k c' (cs.take (k * sz)) :=
  ⟨hc, Nat.le_trans hc' h.max, fun e => by have := h.nil e; omega, by rw [List.length_take, h.len]; exact Nat.min_eq_left (Nat.mul_le_mul_right _ hk), fun v hv => h.one v (List.mem_of_mem_take hv), fun h0 => by
    obtain ⟨g, o, e, hg, hr⟩ := h.lies (by omega)
    refine ⟨g, o, e, hg, fun j v hj => hr j v ?_⟩
    rw [List.getElem?_take] at hj
    split at hj
    · exact hj
    · cases hj⟩
/-- An element's cells. -/
theorem InG.elem {w : World} {B sz g o : Nat} {n c : Nat} {cs : List Value} (h : InG w B sz (some ⟨g, o, none⟩) n c cs) (j : Nat) (hj : j < n) : w.rangeAt g (o + j * sz) ((cs.drop (j * sz)).take sz) := by
  obtain ⟨g', o', e, hg, hr⟩ := h.lies (by omega)
  injection e with e
  injection e with e1 e2
  subst e1 e2
  intro i v hi
  rw [List.getElem?_take] at hi
  split at hi
  · rw [List.getElem?_drop] at hi
    rw [Nat.add_assoc]
    exact hr _ v hi
  · cases hi

/-- A row that a call owns, as one that came in. -/
theorem ownG_in {w : World} {base : Nat} {T : TypeId} {sz : Nat} {v : Value} {n : Nat} {cs : List Value} (h : w.ownsRow base T sz v n cs) (h1 : ∀ v ∈ cs, v.oneCell' = true) : ∃ A c, v = .slice A n c ∧ InG w w.heap.size sz A n c cs := by
  rcases h.2 with ⟨e1, e2⟩ | ⟨g, cap, cur, hv, hb, hg, hle, hm, hs, ht⟩
  · subst e2
    exact ⟨none, 0, e1, Nat.le_refl _, by omega, fun _ => rfl, h.1, h1, fun h => by omega⟩
  · refine ⟨_, cap, hv, hle, by unfold maxLen at hm; omega, (fun e => by cases e), h.1, h1, fun _ => ⟨g, 0, rfl, (Array.getElem?_eq_some_iff.1 hg).1, fun j u hj => ?_⟩⟩
    rw [Nat.zero_add, cell_of_row w g j cur _ (0, 0) hg]
    rw [← ht, List.getElem?_take] at hj
    split at hj
    · simpa using hj
    · cases hj
theorem ownG_ge {w : World} {base : Nat} {T : TypeId} {sz : Nat} {v : Value} {n : Nat} {cs : List Value} (h : w.ownsRow base T sz v n cs) : ∀ r, v.ownBlock = some r → base ≤ r := by
  intro r hr
  rcases h.2 with ⟨rfl, _⟩ | ⟨g, cap, cur, rfl, hb, _⟩
  · cases hr
  · injection hr with hr
    subst hr
    exact hb
theorem ownG_lt {w : World} {base : Nat} {T : TypeId} {sz : Nat} {v : Value} {n : Nat} {cs : List Value} (h : w.ownsRow base T sz v n cs) : ∀ r, v.ownBlock = some r → r < w.heap.size := by
  intro r hr
  rcases h.2 with ⟨rfl, _⟩ | ⟨g, cap, cur, rfl, hb, hg, _⟩
  · cases hr
  · injection hr with hr
    subst hr
    exact (Array.getElem?_eq_some_iff.1 hg).1
theorem ownG_later {w w' : World} {base : Nat} {T : TypeId} {sz : Nat} {v : Value} {n : Nat} {cs : List Value} (h : w.ownsRow base T sz v n cs) (hB : ∀ r, v.ownBlock = some r → w'.heap[r]? = w.heap[r]?) : w'.ownsRow base T sz v n cs := by
  refine ⟨h.1, ?_⟩
  rcases h.2 with h | ⟨g, cap, cur, h1, h2, h3, h4⟩
  · exact .inl h
  · exact .inr ⟨g, cap, cur, h1, h2, (hB g (by rw [h1]; rfl)).trans h3, h4⟩
theorem ownG_grow {w w' : World} {base : Nat} {T : TypeId} {sz : Nat} {v : Value} {n : Nat} {cs : List Value} (h : w.ownsRow base T sz v n cs) (hB : Below w.heap.size w w') : w'.ownsRow base T sz v n cs :=
  ownG_later h fun r hr => hB.block r (ownG_lt h r hr)
theorem ownG_base {w : World} {b b' : Nat} {T : TypeId} {sz : Nat} {v : Value} {n : Nat} {cs : List Value} (h : w.ownsRow b T sz v n cs) (hb : b' ≤ b) : w.ownsRow b' T sz v n cs := by
  refine ⟨h.1, ?_⟩
  rcases h.2 with h | ⟨g, cap, cur, h1, h2, h3⟩
  · exact .inl h
  · exact .inr ⟨g, cap, cur, h1, by omega, h3⟩
/-- What is known of an element's type. -/
structure ElT (S T : TypeId) (sz by_ : Nat) (z : Value) : Prop where
  und : Try.prog.underlying S = some (.slice T)
  inf : (Try.prog.info? T).map (fun i => (i.zero, i.size, i.bytes)) = some (some z, sz, by_)
  zs : z.cells.size = sz
  pos : 0 < sz
section
variable {w : World} {ops : Array Oper} {rest : List Oper} {o : Oper} {a : Act} {Q : Exit → Act → World → Prop}
theorem wp_appG (hg : o.guard = none) {S T : TypeId} {sz by_ : Nat} {z : Value} (hT : ElT S T sz by_ z) (s x : Operand) (ho : o.op = .call { callee := .builtin .append, args := #[s, x], argTypes := #[S, S] })
    (base : Nat) (v : Value) (n : Nat) (cs : List Value) (hs : a.eval s = v) (hown : w.ownsRow base T sz v n cs) (B : Nat) (A : Option Addr) (m c : Nat) (cs2 : List Value) (hx : a.eval x = .slice A m c) (hin : InG w B sz A m c cs2)
    (hm : n + m ≤ maxLen) (hbytes : (n + m) * by_ ≤ 140737488355328) (hbase : base ≤ w.heap.size)
    (h : ∀ v' w', w'.ownsRow base T sz v' (n + m) (cs ++ cs2) → w.grownBy w' v.ownBlock → wpList Try.prog ops Q rest (a.put o.dst v') w') : wpList Try.prog ops Q (o :: rest) a w := by
  obtain ⟨i0, hi, hz0, hz1, hz2⟩ := info_parts hT.inf
  have hle := hin.le
  rcases A with _ | ad
  · have hc0 := hin.nil rfl
    obtain rfl : m = 0 := by omega
    obtain rfl : cs2 = [] := List.eq_nil_of_length_eq_zero (by rw [hin.len]; omega)
    subst hc0
    refine wpList_append_own_none (w := w) hg s x _ ho base _ i0 sz hT.und hi v n cs hs hown hx ?_
    exact h v w (by rw [List.append_nil]; exact hown) (World.grownBy.refl _ _)
  · have hnews : ∀ j u, cs2[j]? = some u → w.cell? (ad.add j) = some u := by
      intro j u hu
      have hm0 : 0 < m := by
        rcases Nat.eq_zero_or_pos m with h0 | h0
        · subst h0
          have := hin.len
          obtain rfl : cs2 = [] := List.eq_nil_of_length_eq_zero (by omega)
          simp at hu
        · exact h0
      obtain ⟨g, o', hA, _, hr⟩ := hin.lies hm0
      obtain rfl : ad = ⟨g, o', none⟩ := by simpa using hA
      rw [Addr.add_mid]
      exact hr j u hu
    refine wpList_append_own w hg s x _ ho base _ i0 z sz by_ hT.und hi hz0 hz1 hz2 hT.zs hT.pos v n cs hs hown ad m c cs2 hx hin.len hnews hin.one hm hbytes hbase ?_
    intro v' w' hown' hgrow _
    exact h v' w' hown' hgrow
/-- An element, loaded. -/
theorem x_loadM {P : Program} {ρ : Operand → Value} {T : TypeId} {k g off : Nat} {cs : List Value} {x : Operand} (hT : RowTy P T k) (hr : w.rangeAt g off cs) (hk : cs.length = k) (ho : o.op = .load T x) (hx : ρ x = .pointer (some ⟨g, off, none⟩)) : (execOp ρ o).run P w = .ok (.value (.agg cs.toArray)) w := by
  obtain ⟨d, hu, hd⟩ := hT.desc
  have := run_loadVar_mid (P := P) w g off T cs d hr hu hd (by rw [hT.size, hk])
  simp only [execOp, ho, hx, Instr.loadAt, Instr.sureAddr, Sem.run_bind, Sem.run_pure, Result.andThen_ok, this]
end
theorem BlkIs.rangeOf {w : World} {g : Nat} {t : TypeId} {cs : Array Value} (h : BlkIs w g t cs) (k : Nat) {n : Nat} : w.rangeAt g k ((cs.toList.drop k).take n) := fun j v hj => by
  rw [List.getElem?_take] at hj
  split at hj
  · rw [List.getElem?_drop] at hj
    rw [h.cell]
    simpa using hj
  · cases hj

theorem run_appG {w : World} (ty : TypeId) {S T : TypeId} {sz by_ : Nat} {z : Value} (hT : ElT S T sz by_ z) (base : Nat) (v : Value) (n : Nat) (cs : List Value) (hown : w.ownsRow base T sz v n cs) (B : Nat) (A : Option Addr) (m c : Nat) (cs2 : List Value) (hin : InG w B sz A m c cs2)
    (hm : n + m ≤ maxLen) (hbytes : (n + m) * by_ ≤ 140737488355328) (hbase : base ≤ w.heap.size) :
    ∃ v' w', (Builtin.append_ #[S, S] ty #[v, .slice A m c]).run Try.prog w = .ok v' w' ∧ w'.ownsRow base T sz v' (n + m) (cs ++ cs2) ∧ w.grownBy w' v.ownBlock := by
  obtain ⟨i0, hi, hz0, hz1, hz2⟩ := info_parts hT.inf
  have hle := hin.le
  rcases A with _ | ad
  · have hc0 := hin.nil rfl
    obtain rfl : m = 0 := by omega
    obtain rfl : cs2 = [] := List.eq_nil_of_length_eq_zero (by rw [hin.len]; omega)
    subst hc0
    have hr := run_append_owned_none (P := Try.prog) w base S ty T i0 sz hT.und hi v n cs hown
    exact ⟨v, w, hr, by rw [List.append_nil]; exact hown, World.grownBy.refl _ _⟩
  · have hnews : ∀ j u, cs2[j]? = some u → w.cell? (ad.add j) = some u := by
      intro j u hu
      have hm0 : 0 < m := by
        rcases Nat.eq_zero_or_pos m with h0 | h0
        · subst h0
          have := hin.len
          obtain rfl : cs2 = [] := List.eq_nil_of_length_eq_zero (by omega)
          simp at hu
        · exact h0
      obtain ⟨g, o', hA, _, hr⟩ := hin.lies hm0
      obtain rfl : ad = ⟨g, o', none⟩ := by simpa using hA
      rw [Addr.add_mid]
      exact hr j u hu
    obtain ⟨v', w', hr, h2, h3, _, _⟩ := run_append_own_at (P := Try.prog) w base S ty T i0 z sz by_ hT.und hi hz0 hz1 hz2 hT.zs hT.pos v n cs hown ad m c cs2 hin.len hnews hin.one hm hbytes hbase
    exact ⟨v', w', hr, h2, h3⟩
section
variable {w : World} {ops : Array Oper} {o : Oper} {a : Act} {Q : Exit → Act → World → Prop} {K : Act → World → Prop} {E : Prop}
theorem step_appG (hgd : o.guard = none) {S T : TypeId} {sz by_ : Nat} {z : Value} (hT : ElT S T sz by_ z) (s x : Operand) (ho : o.op = .call { callee := .builtin .append, args := #[s, x], argTypes := #[S, S] })
    (base : Nat) (v : Value) (n : Nat) (cs : List Value) (hs : a.eval s = v) (hown : w.ownsRow base T sz v n cs) (B : Nat) (A : Option Addr) (m c : Nat) (cs2 : List Value) (hx : a.eval x = .slice A m c) (hin : InG w B sz A m c cs2)
    (hm : n + m ≤ maxLen) (hbytes : (n + m) * by_ ≤ 140737488355328) (hbase : base ≤ w.heap.size)
    (h : ∀ v' w', w'.ownsRow base T sz v' (n + m) (cs ++ cs2) → w.grownBy w' v.ownBlock → K (a.put o.dst v') w') : if Region.wanted o (yielded ops a.tmps) = true then Oper.wp Try.prog o a w K Q else E := by
  have hw : Region.wanted o (yielded ops a.tmps) = true := by simp [Region.wanted, hgd]
  rw [if_pos hw]
  obtain ⟨v', w', hr, h2, h3⟩ := run_appG (w := w) o.type hT base v n cs hown B A m c cs2 hin hm hbytes hbase
  unfold Oper.wp execOp
  simp only [ho, resolve, invoke, builtin, Sem.run_bind, Sem.run_pure, Result.andThen_ok, List.map_toArray, List.map_cons, List.map_nil, hs, hx, hr]
  exact h v' w' h2 h3
end
end Go.Proofs.Ytlelckdcmlpmdaa
/- node: cells and nodes that came in. -/
namespace Go.Proofs.Ytlelckdcmlpmdaa
open Go Go.RowKit Lou

theorem wrapN (n : Int) (h0 : -9223372036854775808 ≤ n) (h1 : n < 9223372036854775808) : IntKind.i64.wrap n = n := by
  simp [IntKind.wrap, IntKind.bits, IntKind.signed]
  split <;> omega
/-- A cell; a node. -/
structure Cel where
  key : ByteArray
  val : ByteArray
  page : Int
  size : Int
structure Nod where
  leaf : Bool
  cells : List Cel
  keys : List ByteArray
  kids : List Int
def celC (c : Cel) : List Value := [.string c.key, .string c.val, .int .i64 c.page, .int .i64 c.size]
def clC (cs : List Cel) : List Value := (cs.map celC).flatten
def skC (ks : List ByteArray) : List Value := ks.map Value.string
def ikC (ks : List Int) : List Value := ks.map (Value.int .i64)
theorem clC_length : ∀ cs : List Cel, (clC cs).length = cs.length * 4
  | [] => rfl
  | c :: cs => by
    have e : clC (c :: cs) = celC c ++ clC cs := rfl
    rw [e, List.length_append, clC_length cs, List.length_cons]
    show 4 + _ = _
    omega
theorem clC_elem : ∀ (cs : List Cel) (j : Nat) (h : j < cs.length), ((clC cs).drop (j * 4)).take 4 = celC cs[j]
  | c :: cs, 0, _ => by
    have e : clC (c :: cs) = celC c ++ clC cs := rfl
    rw [e]
    rfl
  | c :: cs, j + 1, h => by
    have e : clC (c :: cs) = celC c ++ clC cs := rfl
    rw [e, show (j + 1) * 4 = 4 + j * 4 from by omega, ← List.drop_drop]
    have e2 : (celC c ++ clC cs).drop 4 = clC cs := rfl
    rw [e2, clC_elem cs j (by simpa using h)]
    rfl
theorem clC_one (cs : List Cel) : ∀ v ∈ clC cs, v.oneCell' = true := by
  intro v hv
  obtain ⟨l, hl, hv⟩ := List.mem_flatten.1 hv
  obtain ⟨c, _, rfl⟩ := List.mem_map.1 hl
  simp [celC] at hv
  rcases hv with rfl | rfl | rfl | rfl <;> rfl
theorem skC_one (ks : List ByteArray) : ∀ v ∈ skC ks, v.oneCell' = true := by
  intro v hv
  obtain ⟨k, _, rfl⟩ := List.mem_map.1 hv
  rfl
theorem ikC_one (ks : List Int) : ∀ v ∈ ikC ks, v.oneCell' = true := by
  intro v hv
  obtain ⟨k, _, rfl⟩ := List.mem_map.1 hv
  rfl
theorem celC_one (c : Cel) : ∀ v ∈ celC c, v.oneCell' = true := by
  intro v hv
  simp [celC] at hv
  rcases hv with rfl | rfl | rfl | rfl <;> rfl
theorem rowCel : RowTy Try.prog 205 4 := ⟨⟨_, Try.underlying205, rfl⟩, by kernel_rfl⟩
theorem rowNod : RowTy Try.prog 76 4 := ⟨⟨_, Try.underlying76, rfl⟩, by kernel_rfl⟩
theorem elStr : ElT 73 9 1 16 (.string ByteArray.empty) := ⟨Try.underlying73, by kernel_rfl, by kernel_rfl, by decide⟩
/-- The cells of a node's value, as they lie in a box. -/
def nodC (x : Nod) (Ac : Option Addr) (cc : Nat) (Ak : Option Addr) (ck : Nat) (Ai : Option Addr) (ci : Nat) : Array Value := #[.bool x.leaf, .slice Ac x.cells.length cc, .slice Ak x.keys.length ck, .slice Ai x.kids.length ci]
/-- A node whose rows lie below B. -/
structure NIs (w : World) (B : Nat) (x : Nod) (Ac : Option Addr) (cc : Nat) (Ak : Option Addr) (ck : Nat) (Ai : Option Addr) (ci : Nat) : Prop where
  c : InG w B 4 Ac x.cells.length cc (clC x.cells)
  k : InG w B 1 Ak x.keys.length ck (skC x.keys)
  i : InG w B 1 Ai x.kids.length ci (ikC x.kids)
theorem NIs.grow {w w' : World} {x : Nod} {Ac Ak Ai : Option Addr} {cc ck ci : Nat} (h : NIs w w.heap.size x Ac cc Ak ck Ai ci) (hb : Below w.heap.size w w') : NIs w' w'.heap.size x Ac cc Ak ck Ai ci := ⟨h.c.grow hb, h.k.grow hb, h.i.grow hb⟩
/-- A node's keys; of a leaf its cells'. -/
def nkeys (x : Nod) : List ByteArray := if x.leaf then x.cells.map Cel.key else x.keys
/-- A cell of a row of cells. -/
theorem cel_at {w : World} {B g o n c : Nat} {cs : List Cel} (h : InG w B 4 (some ⟨g, o, none⟩) n c (clC cs)) (hn : n = cs.length) (j : Nat) (hj : j < cs.length) : w.rangeAt g (o + j * 4) (celC cs[j]) := by
  have := h.elem j (by omega)
  rw [clC_elem cs j hj] at this
  exact this
theorem str_at {w : World} {B g o n c : Nat} {ks : List ByteArray} (h : InG w B 1 (some ⟨g, o, none⟩) n c (skC ks)) (hn : n = ks.length) (j : Nat) (hj : j < ks.length) : w.cell? ⟨g, o + j, none⟩ = some (.string ks[j]) := by
  obtain ⟨g', o', e, _, hr⟩ := h.lies (by omega)
  injection e with e
  injection e with e1 e2
  subst e1 e2
  exact hr j _ (by simp [skC, hj])
end Go.Proofs.Ytlelckdcmlpmdaa
/- loupelaw12: few. -/
namespace Go.Proofs.Ytlelckdcmlpmdaa
open Go Go.RowKit Lou

/-- At most 60 cells, keys and kids, texts of 200 bytes. -/
structure FewP (x : Nod) : Prop where
  c : ∀ j, (h : j < x.cells.length) → x.cells[j].key.size ≤ 200 ∧ x.cells[j].val.size ≤ 200
  k : ∀ j, (h : j < x.keys.length) → x.keys[j].size ≤ 200
  cl : x.cells.length ≤ 60
  kl : x.keys.length ≤ 60
  il : x.kids.length ≤ 61
/-- What few answers. -/
def FewOut (w : World) (x : Nod) (e : Ending) (w' : World) : Prop := ∃ b, e = .returned (.bool b) ∧ Below w.heap.size w w' ∧ (b = true → FewP x)
theorem cel0 {w : World} {g o : Nat} {c : Cel} (h : w.rangeAt g o (celC c)) : w.cell? ⟨g, o, none⟩ = some (.string c.key) := by simpa using h 0 _ rfl
theorem cel1 {w : World} {g o : Nat} {c : Cel} (h : w.rangeAt g o (celC c)) : w.cell? ⟨g, o + 1, none⟩ = some (.string c.val) := h 1 _ rfl
theorem cel2 {w : World} {g o : Nat} {c : Cel} (h : w.rangeAt g o (celC c)) : w.cell? ⟨g, o + 2, none⟩ = some (.int .i64 c.page) := h 2 _ rfl
theorem cel3 {w : World} {g o : Nat} {c : Cel} (h : w.rangeAt g o (celC c)) : w.cell? ⟨g, o + 3, none⟩ = some (.int .i64 c.size) := h 3 _ rfl
set_option maxRecDepth 100000 in
set_option maxHeartbeats 2000000 in
theorem few_gives (w : World) (x : Nod) (Ac : Option Addr) (cc : Nat) (Ak : Option Addr) (ck : Nat) (Ai : Option Addr) (ci : Nat) (h : NIs w w.heap.size x Ac cc Ak ck Ai ci) :
    Calls Try.prog 46 #[.agg (nodC x Ac cc Ak ck Ai ci)] w (FewOut w x) := by
  obtain ⟨hc, hk, hi⟩ := h
  have lc := hc.le
  have lk := hk.le
  have li := hi.le
  have mc := hc.max
  have mk := hk.max
  have mi := hi.max
  have b0 := BlkIs.new w 76 (nodC x Ac cc Ak ck Ai ci)
  have hB : Below w.heap.size w (w.alloc (.cells (nodC x Ac cc Ak ck Ai ci) 76)) := (Below.refl _ w).alloc (Nat.le_refl _) _
  unfold nodC at b0 hB ⊢
  go_enter Try.func46, Try.ntmps46
  go_wp2
  generalize w.alloc (.cells #[.bool x.leaf, .slice Ac x.cells.length cc, .slice Ak x.keys.length ck, .slice Ai x.kids.length ci] 76) = W at *
  have c1 : W.cell? ⟨w.heap.size, 1, none⟩ = some (.slice Ac x.cells.length cc) := by rw [b0.cell]; rfl
  have c2 : W.cell? ⟨w.heap.size, 2, none⟩ = some (.slice Ak x.keys.length ck) := by rw [b0.cell]; rfl
  have c3 : W.cell? ⟨w.heap.size, 3, none⟩ = some (.slice Ai x.kids.length ci) := by rw [b0.cell]; rfl
  go_loopw [3] (fun i wr => ∃ (k : Nat), k ≤ x.cells.length ∧ i = .int .i64 k ∧ wr = W ∧ ∀ j, (h : j < x.cells.length) → j < k → x.cells[j].key.size ≤ 200 ∧ x.cells[j].val.size ≤ 200) (fun i _ => x.cells.length - (intOf i).toNat)
  case atStart => exact ⟨0, by omega, rfl, rfl, fun j _ h => by omega⟩
  case round =>
    obtain ⟨k, hkl, rfl, rfl, hall⟩ := hrel
    by_cases hlt : k < x.cells.length
    · obtain ⟨g, o, rfl, hg, _⟩ := hc.lies (by omega)
      have hr : wr.rangeAt g (o + k * 4) (celC x.cells[k]) := fun j v hj => (hB.cell (p := ⟨g, o + k * 4 + j, none⟩) hg).trans (cel_at hc rfl k hlt j v hj)
      have hnx : x.cells[k].key.size ≤ 200 → x.cells[k].val.size ≤ 200 → ∀ j, (h : j < x.cells.length) → j < k + 1 → x.cells[j].key.size ≤ 200 ∧ x.cells[j].val.size ≤ 200 := fun h1 h2 j hj hjk => by
        by_cases e : j = k
        · subst e; exact ⟨h1, h2⟩
        · exact hall j hj (by omega)
      have d0 := cel0 hr
      have d1 : wr.cell? ⟨g, o + k * 4 + 1, none⟩ = _ := cel1 hr
      generalize x.cells[k] = c at *
      have hwk : IntKind.i64.wrap ((k : Int) + 1) = (k : Int) + 1 := wrapN _ (by omega) (by omega)
      by_cases s1 : c.key.size ≤ 200
      · by_cases s2 : c.val.size ≤ 200
        · have s1' : ¬ (200 : Int) < (c.key.size : Int) := by omega
          have s2' : ¬ (200 : Int) < (c.val.size : Int) := by omega
          have hall2 := Lib.hid (hnx s1 s2)
          clear hnx hall
          go_wp2
          exact ⟨⟨k + 1, by omega, by simp, by simp, hall2.out⟩, by simp [intOf]; omega⟩
        · have s1' : ¬ (200 : Int) < (c.key.size : Int) := by omega
          have s2' : (200 : Int) < (c.val.size : Int) := by omega
          clear hnx hall
          go_wp2
          go_ret
          exact ⟨false, rfl, hB, fun h => by cases h⟩
      · have s1' : (200 : Int) < (c.key.size : Int) := by omega
        clear hnx hall
        go_wp2
        go_ret
        exact ⟨false, rfl, hB, fun h => by cases h⟩
    · obtain rfl : k = x.cells.length := by omega
      go_wp2
      go_loopw [4] (fun i w2 => ∃ (k : Nat), k ≤ x.keys.length ∧ i = .int .i64 k ∧ w2 = wr ∧ ∀ j, (h : j < x.keys.length) → j < k → x.keys[j].size ≤ 200) (fun i _ => x.keys.length - (intOf i).toNat)
      case atStart => exact ⟨0, by omega, rfl, rfl, fun j _ h => by omega⟩
      case round =>
        obtain ⟨k, hkl, rfl, rfl, hall3⟩ := hrel
        by_cases hlt : k < x.keys.length
        · obtain ⟨g, o, rfl, hg, _⟩ := hk.lies (by omega)
          have d0 : wr.cell? ⟨g, o + k, none⟩ = some (.string x.keys[k]) := (hB.cell (p := ⟨g, o + k, none⟩) hg).trans (str_at hk rfl k hlt)
          have hnx : x.keys[k].size ≤ 200 → ∀ j, (h : j < x.keys.length) → j < k + 1 → x.keys[j].size ≤ 200 := fun h1 j hj hjk => by
            by_cases e : j = k
            · subst e; exact h1
            · exact hall3 j hj (by omega)
          generalize x.keys[k] = c at *
          have hwk : IntKind.i64.wrap ((k : Int) + 1) = (k : Int) + 1 := wrapN _ (by omega) (by omega)
          by_cases s1 : c.size ≤ 200
          · have s1' : ¬ (200 : Int) < (c.size : Int) := by omega
            have hall4 := Lib.hid (hnx s1)
            clear hnx hall3
            go_wp2
            exact ⟨⟨k + 1, by omega, by simp, by simp, hall4.out⟩, by simp [intOf]; omega⟩
          · have s1' : (200 : Int) < (c.size : Int) := by omega
            clear hnx hall3
            go_wp2
            go_ret
            exact ⟨false, rfl, hB, fun h => by cases h⟩
        · obtain rfl : k = x.keys.length := by omega
          have HA := Lib.hid hall
          have HB := Lib.hid hall3
          clear hall hall3
          by_cases n1 : x.cells.length ≤ 60
          · by_cases n2 : x.keys.length ≤ 60
            · by_cases n3 : x.kids.length ≤ 61
              · have n1' : (x.cells.length : Int) ≤ 60 := by omega
                have n2' : (x.keys.length : Int) ≤ 60 := by omega
                have n3' : (x.kids.length : Int) ≤ 61 := by omega
                go_wp2
                go_ret
                exact ⟨true, by simp, hB, fun _ => ⟨fun j h => HA.out j h h, fun j h => HB.out j h h, n1, n2, n3⟩⟩
              · have n1' : (x.cells.length : Int) ≤ 60 := by omega
                have n2' : (x.keys.length : Int) ≤ 60 := by omega
                have n3' : ¬ (x.kids.length : Int) ≤ 61 := by omega
                go_wp2
                go_ret
                exact ⟨false, by simp, hB, fun h => by cases h⟩
            · have n1' : (x.cells.length : Int) ≤ 60 := by omega
              have n2' : ¬ (x.keys.length : Int) ≤ 60 := by omega
              go_wp2
              go_ret
              exact ⟨false, by simp, hB, fun h => by cases h⟩
          · have n1' : ¬ (x.cells.length : Int) ≤ 60 := by omega
            go_wp2
            go_ret
            exact ⟨false, by simp, hB, fun h => by cases h⟩
end Go.Proofs.Ytlelckdcmlpmdaa
/- louperef12: Keys. -/
namespace Go.Proofs.Ytlelckdcmlpmdaa
open Go Go.RowKit Lou

theorem row_one (w : World) (T : TypeId) (v : Value) (h1 : v.oneCell' = true) : InG (w.alloc (.cells #[v] T)) (w.alloc (.cells #[v] T)).heap.size 1 (some ⟨w.heap.size, 0, none⟩) 1 1 [v] := by
  have h := BlkIs.new w T #[v]
  refine ⟨Nat.le_refl _, by omega, (fun e => by cases e), rfl, (fun u hu => by obtain rfl : u = v := (by simpa using hu); exact h1), fun _ => ⟨w.heap.size, 0, rfl, h.lt, fun j u hj => ?_⟩⟩
  rw [h.cell, Nat.zero_add]
  simpa using hj
/-- A row of strings comes back. -/
def StrsOut (w : World) (l : List ByteArray) (e : Ending) (w' : World) : Prop := ∃ A c, e = .returned (.slice A l.length c) ∧ InG w' w'.heap.size 1 A l.length c (skC l) ∧ Below w.heap.size w w'
theorem keys_take (cells : List Cel) (k : Nat) (h : k < cells.length) : skC ((cells.take (k + 1)).map Cel.key) = skC ((cells.take k).map Cel.key) ++ [.string cells[k].key] := by
  rw [List.take_succ_eq_append_getElem h, List.map_append]
  unfold skC
  rw [List.map_append]
  rfl
set_option maxRecDepth 100000 in
set_option maxHeartbeats 2000000 in
theorem refKeys_gives (w : World) (x : Nod) (Ac : Option Addr) (cc : Nat) (Ak : Option Addr) (ck : Nat) (Ai : Option Addr) (ci : Nat) (h : NIs w w.heap.size x Ac cc Ak ck Ai ci) (hl : x.cells.length ≤ 1000000) :
    Calls Try.prog 50 #[.agg (nodC x Ac cc Ak ck Ai ci)] w (StrsOut w (nkeys x)) := by
  obtain ⟨hc, hk, hi⟩ := h
  have lc := hc.le
  have lk := hk.le
  have mc := hc.max
  have mk := hk.max
  have b0 := BlkIs.new w 76 (nodC x Ac cc Ak ck Ai ci)
  have hB : Below w.heap.size w (w.alloc (.cells (nodC x Ac cc Ak ck Ai ci) 76)) := (Below.refl _ w).alloc (Nat.le_refl _) _
  obtain ⟨leaf, cells, keys, kids⟩ := x
  unfold nodC at b0 hB ⊢
  simp only at lc lk hc hk b0 hB hl ⊢
  cases leaf with
  | false =>
    go_enter Try.func50, Try.ntmps50
    go_wp2
    go_ret
    exact ⟨Ak, ck, rfl, hk.grow hB, hB⟩
  | true =>
    go_enter Try.func50, Try.ntmps50
    go_wp2
    generalize w.alloc (.cells #[.bool true, .slice Ac cells.length cc, .slice Ak keys.length ck, .slice Ai kids.length ci] 76) = W at *
    go_loopw [3, 4] (fun v i wr => ∃ (k : Nat) (A : Option Addr) (c : Nat), k ≤ cells.length ∧ i = .int .i64 k ∧ v = .slice A k c ∧ wr.ownsRow W.heap.size 9 1 (.slice A k c) k (skC ((cells.take k).map Cel.key)) ∧ Below W.heap.size W wr) (fun _ i _ => cells.length - (intOf i).toNat)
    case atStart => exact ⟨0, none, 0, by omega, rfl, rfl, World.ownsRow_nil _ _ _ _, Below.refl _ _⟩
    case round =>
      obtain ⟨k, A, c, hkl, rfl, rfl, own, hBr⟩ := hrel
      have c1 : wr.cell? ⟨w.heap.size, 1, none⟩ = some (.slice Ac cells.length cc) := (hBr.cell (p := ⟨w.heap.size, 1, none⟩) b0.lt).trans (by rw [b0.cell]; rfl)
      by_cases hlt : k < cells.length
      · obtain ⟨g, o, rfl, hg, _⟩ := hc.lies (by omega)
        have hr : wr.rangeAt g (o + k * 4) (celC cells[k]) := fun j v hj => (hBr.cell (p := ⟨g, o + k * 4 + j, none⟩) (Nat.lt_of_lt_of_le hg hB.size)).trans ((hB.cell (p := ⟨g, o + k * 4 + j, none⟩) hg).trans (cel_at hc rfl k hlt j v hj))
        have hnx := keys_take cells k hlt
        have d0 := cel0 hr
        generalize cells[k] = cl at *
        have hwk : IntKind.i64.wrap ((k : Int) + 1) = (k : Int) + 1 := wrapN _ (by omega) (by omega)
        have HNX := Lib.hid hnx
        have hBa : Below wr.heap.size wr (wr.alloc (.cells #[.string cl.key] 9)) := (Below.refl _ wr).alloc (Nat.le_refl _) _
        have owna := ownG_grow own hBa
        have hba : W.heap.size ≤ (wr.alloc (.cells #[.string cl.key] 9)).heap.size := Nat.le_trans hBr.size hBa.size
        clear hnx own
        go_wp2_with (at_builtin; refine wp_appG rfl elStr (.tmp 17) (.tmp 24) rfl W.heap.size (.slice A k c) k (skC ((cells.take k).map Cel.key)) rfl owna _ _ 1 1 [.string cl.key] rfl (row_one wr 9 (.string cl.key) rfl) (by unfold maxLen; omega) (by omega) hba ?_; intro v5 w5 own5 hg5)
        rw [← HNX.out] at own5
        obtain ⟨A5, c5, rfl, _⟩ := ownG_in own5 (skC_one _)
        exact ⟨⟨k + 1, A5, c5, by omega, by simp, by simp, own5, (hBr.trans (hBa.mono hBr.size)).trans (grown_below hg5 hba (ownG_ge owna))⟩, by simp [intOf]; omega⟩
      · obtain rfl : k = cells.length := by omega
        go_wp2
        go_ret
        rw [List.take_length] at own
        obtain ⟨A', c', e, hin⟩ := ownG_in own (skC_one _)
        injection e with e1 e2 e3
        subst e1 e3
        have hln : (nkeys ⟨true, cells, keys, kids⟩).length = cells.length := by simp [nkeys]
        exact ⟨A, c, by rw [hln]; rfl, by rw [hln]; exact hin, hB.trans (hBr.mono hB.size)⟩
end Go.Proofs.Ytlelckdcmlpmdaa
