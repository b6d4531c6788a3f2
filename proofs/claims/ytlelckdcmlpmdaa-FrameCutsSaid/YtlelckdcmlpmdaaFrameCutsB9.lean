/- Texts that the proof of FrameCuts leans on, part 9. -/
import Derived.Test.YtlelckdcmlpmdaaFrameCutsB8
/- loupelaw03.OctetGoes: the walk. -/
namespace Go.Proofs.Ytlelckdcmlpmdaa
open Go Go.RowKit Lou Go.Shelf
attribute [local go_sem] Oper.semAt_some

/-- The law's own blocks. -/
structure Gs (s r q : Nat) (vb : Value) (cut : Int) (i p k : Int) (W : World) : Prop where
  b : BlkIs W s 30 #[vb]
  c : BlkIs W (s + 1) 3 #[.int .i64 cut]
  o : BlkIs W (s + 2) 4 #[.bool false]
  r : BlkIs W r 3 #[.int .i64 i]
  p : BlkIs W q 3 #[.int .i64 p]
  k : BlkIs W (q + 1) 3 #[.int .i64 k]
theorem Gs.kept {s r q : Nat} {vb : Value} {cut i p k : Int} {W W' : World} {row : Option Nat} (h : Gs s r q vb cut i p k W) (hg : W.grownBy W' row) (hr : ∀ r, row = some r → ∃ o : Obj, W.heap[r]? = some o ∧ o.isCells = false) : Gs s r q vb cut i p k W' :=
  ⟨h.b.kept hg hr, h.c.kept hg hr, h.o.kept hg hr, h.r.kept hg hr, h.p.kept hg hr, h.k.kept hg hr⟩

theorem run_equalIn_func_nil {P : Program} {ps rs : Array TypeId} {vd : Bool} (d : Nat) (t : TypeId) (w : World) (f : Fn) (xs ys : Array Value) (h : P.underlying t = some (.func ps rs vd)) : (Op.equalIn (d + 1) t (.func f xs ys) .nilFunc).run P w = .ok false w := by
  simp [Op.equalIn, run_underlying h, Result.andThen]
@[local go_sem] theorem run_eql_func_nil (w : World) (f : Fn) (xs ys : Array Value) : (binOp .eql 49 (.func f xs ys) .nilFunc).run Try.prog w = .ok (.bool false) w := by
  have h := run_equalIn_func_nil (P := Try.prog) 9999 49 w f xs ys Try.underlying49
  have e : binOp .eql 49 (.func f xs ys) .nilFunc = (do pure (.bool (← Op.equalIn (9999 + 1) 49 (.func f xs ys) .nilFunc))) := rfl
  rw [e]
  simp only [Sem.run_bind, h, Result.andThen, Sem.run_pure]
theorem wpIn_by_stopB {F : Fence} {n id : Nat} {P : Program} {C : Code} {Q : Exit → Act → World → Prop} {a0 : Act} {w0 : World} (S : Act → Act → World → Prop) (h1 : ∀ Q' : Exit → Act → World → Prop, (∀ a w, S a0 a w → Q' .normal a w) → (∀ a w, S a0 a w → Q' (.exit id) a w) → C.wpIn F n P Q' a0 w0) (h2 : ∀ a w, S a0 a w → Q .normal a w) : C.wpIn F n P (Exit.inBlock id Q) a0 w0 :=
  h1 _ h2 (fun a w h => by
    have := h2 a w h
    simpa [Exit.inBlock] using this)
theorem putObj_other (V : World) (D : Nat) (o : Obj) {g : Nat} (h : D ≠ g) : (V.putObj D o).heap[g]? = V.heap[g]? := by
  simp [World.putObj, Array.getElem?_setIfInBounds, h]
/-- A row that holds no cells, elsewhere, stays as it is. -/
theorem ownFrom_row {β : Type} {D : Nat} {W : World} {o : Obj} (h : W.heap[D]? = some o) : OwnFrom W.heap.size (fun (_ : β) W' => W'.heap[D]? = some o) := by
  intro s A B row hs hg hr
  have hD : D < A.heap.size := (Array.getElem?_eq_some_iff.1 hs).1
  refine (hg.block D hD (fun e => ?_)).trans hs
  have := (hr D e.symm).1
  have := (Array.getElem?_eq_some_iff.1 h).1
  omega
theorem results_cell1 {fn : Func} {P : Program} {a : Act} {w : World} {v : Value} {p : Addr} {t : TypeId} (k : Tmp) (h : fn.results = #[.cell k t]) (hk : a.eval (.tmp k) = .pointer (some p)) (hagg : (isAgg t).run P w = .ok false w) (hv : w.cell? p = some v) : (results fn a.tmps).run P w = .ok v w := by
  have e : a.tmps.getD k undef = .pointer (some p) := hk
  unfold results
  simp only [h]
  simp [← Array.getD_eq_getD_getElem?, e, loadVar, asAddr, hagg, hv, Result.andThen]
theorem Gs.step {s r q : Nat} {vb : Value} {cut i p k : Int} {W : World} (h : Gs s r q vb cut i p k W) (h1 : s + 2 < q) (h2 : r ≠ q) (h3 : r ≠ q + 1) (p' k' : Int) :
    Gs s r q vb cut i p' k' ((W.setCell ⟨q, 0, none⟩ (.int .i64 p')).setCell ⟨q + 1, 0, none⟩ (.int .i64 k')) :=
  ⟨(h.b.other (by simp; omega) _).other (by simp; omega) _, (h.c.other (by simp; omega) _).other (by simp; omega) _, (h.o.other (by simp; omega) _).other (by simp; omega) _,
    (h.r.other (by simpa using h2) _).other (by simpa using h3) _, (h.p.set 0 _).other (by simp) _, (h.k.other (by simp) _).set 0 _⟩
set_option maxRecDepth 100000 in
set_option maxHeartbeats 4000000 in
theorem lawGoes_long (w : World) (A : Option Addr) (c : Nat) (l : List UInt8) (cut : Int) (h : InB w w.heap.size A c l) (hl : 200 < l.length) :
    Calls Try.prog 5 #[.slice A l.length c, .int .i64 cut] w fun e w' => e = .returned (.bool true) ∧ Below w.heap.size w w' := by
  have hle := h.le
  have hmax := h.max
  go_enter Try.func5, Try.ntmps5
  have b2 : BlkIs (((w.alloc (.cells #[.slice A l.length c] 30)).alloc (.cells #[.int .i64 cut] 3)).alloc (.cells #[.bool false] 4)) (w.heap.size + 1 + 1) 4 #[.bool false] := by
    have := BlkIs.new ((w.alloc (.cells #[.slice A l.length c] 30)).alloc (.cells #[.int .i64 cut] 3)) 4 #[.bool false]
    rwa [World.size_alloc, World.size_alloc] at this
  have hB0 : Below w.heap.size w (((w.alloc (.cells #[.slice A l.length c] 30)).alloc (.cells #[.int .i64 cut] 3)).alloc (.cells #[.bool false] 4)) :=
    (((Below.refl _ w).alloc (Nat.le_refl _) _).alloc (by simp) _).alloc (by simp; omega) _
  go_wp2_with (go_at_call 27; refine (works3_gives _).mono ?_; rintro e w' ⟨rfl, hB⟩; have b3 := b2.below hB (by simp); have hcb := b3.boxed; have hfb := b3.free 0)
  refine bodyPost_ret_by (results_cell1 (p := ⟨w.heap.size + 1 + 1, 0, none⟩) (v := .bool true) 4 rfl rfl ?_ ?_) rfl ⟨rfl, ?_⟩
  · simp [go_sem]
  · exact (b3.set 0 (.bool true)).boxed
  · exact (hB0.trans (hB.mono hB0.size)).setCell (p := ⟨w.heap.size + 1 + 1, 0, none⟩) (by simp; omega) _

set_option maxRecDepth 100000 in
set_option maxHeartbeats 4000000 in
theorem lawGoes_in (n : Nat) (hn : 6 ≤ n) (w : World) (A : Option Addr) (c : Nat) (l : List UInt8) (cut : Int) (h : InB w w.heap.size A c l) (hl : l.length ≤ 200) :
    CallsIn Fence.wide n Try.prog 5 #[.slice A l.length c, .int .i64 cut] w fun e w' => e = .returned (.bool true) ∧ Below w.heap.size w w' := by
  have hle := h.le
  have hmax := h.max
  have h1 : 1 ≤ n := by omega
  refine callsIn_of_wp_marks Try.func5 rfl trivial ?_ rfl
  simp only [Try.ntmps5, List.size_toArray, List.length_cons, List.length_nil, Nat.reduceAdd, Nat.reduceSub, Array.replicate_succ, Array.replicate_zero, List.push_toArray, List.append_toArray, List.nil_append, List.cons_append]
  gi_wp2_with (refine ⟨trivial, ?_⟩; gi_at_call 30; refine (numbers_in (n - 1) _ _ _ _).mono ?_; rintro e w' ⟨rfl, rfl⟩)
  refine wpIn_loop_rounds 3 ?_
  rw [roundsIn_succ]
  gi_wp2
  have b0 := ((((((BlkIs.new w 30 #[.slice A l.length c]).alloc (.cells #[.int .i64 cut] 3)).alloc (.cells #[.bool false] 4)).alloc (.cells #[.slice A l.length c] 30)).alloc (.cells #[.int .i64 0] 3)).alloc (.cells #[.int .i64 0] 3)).alloc (.cells #[.int .i64 0] 3)
  have b1 := (((((BlkIs.new (w.alloc (.cells #[.slice A l.length c] 30)) 3 #[.int .i64 cut]).alloc (.cells #[.bool false] 4)).alloc (.cells #[.slice A l.length c] 30)).alloc (.cells #[.int .i64 0] 3)).alloc (.cells #[.int .i64 0] 3)).alloc (.cells #[.int .i64 0] 3)
  have b2 := ((((BlkIs.new ((w.alloc (.cells #[.slice A l.length c] 30)).alloc (.cells #[.int .i64 cut] 3)) 4 #[.bool false]).alloc (.cells #[.slice A l.length c] 30)).alloc (.cells #[.int .i64 0] 3)).alloc (.cells #[.int .i64 0] 3)).alloc (.cells #[.int .i64 0] 3)
  have hB4w : Below w.heap.size w ((((w.alloc (.cells #[.slice A l.length c] 30)).alloc (.cells #[.int .i64 cut] 3)).alloc (.cells #[.bool false] 4)).alloc (.cells #[.slice A l.length c] 30)) :=
    ((((Below.refl _ w).alloc (Nat.le_refl _) _).alloc (by simp) _).alloc (by simp; omega) _).alloc (by simp; omega) _
  have hs4 : ((((w.alloc (.cells #[.slice A l.length c] 30)).alloc (.cells #[.int .i64 cut] 3)).alloc (.cells #[.bool false] 4)).alloc (.cells #[.slice A l.length c] 30)).heap.size = w.heap.size + 1 + 1 + 1 + 1 := by simp
  have hbk4 := BlkIs.new (((w.alloc (.cells #[.slice A l.length c] 30)).alloc (.cells #[.int .i64 cut] 3)).alloc (.cells #[.bool false] 4)) 30 #[.slice A l.length c]
  have hs3 : (((w.alloc (.cells #[.slice A l.length c] 30)).alloc (.cells #[.int .i64 cut] 3)).alloc (.cells #[.bool false] 4)).heap.size = w.heap.size + 1 + 1 + 1 := by simp
  rw [hs3] at hbk4
  rw [World.size_alloc] at b1
  rw [World.size_alloc, World.size_alloc] at b2
  generalize ((((w.alloc (.cells #[.slice A l.length c] 30)).alloc (.cells #[.int .i64 cut] 3)).alloc (.cells #[.bool false] 4)).alloc (.cells #[.slice A l.length c] 30)) = W4 at *
  have hin4 : InB W4 (w.heap.size + 1 + 1 + 1 + 1) A c l := (h.below hB4w).more (by omega)
  have b4 := ((BlkIs.new W4 3 #[.int .i64 0]).alloc (.cells #[.int .i64 0] 3)).alloc (.cells #[.int .i64 0] 3)
  have b5 := (BlkIs.new (W4.alloc (.cells #[.int .i64 0] 3)) 3 #[.int .i64 0]).alloc (.cells #[.int .i64 0] 3)
  have b6 := BlkIs.new ((W4.alloc (.cells #[.int .i64 0] 3)).alloc (.cells #[.int .i64 0] 3)) 3 #[.int .i64 0]
  rw [hs4] at b4
  rw [World.size_alloc, hs4] at b5
  rw [World.size_alloc, World.size_alloc, hs4] at b6
  have hB40 : Below (w.heap.size + 1 + 1 + 1 + 1) W4 (((W4.alloc (.cells #[.int .i64 0] 3)).alloc (.cells #[.int .i64 0] 3)).alloc (.cells #[.int .i64 0] 3)) :=
    (((Below.refl _ _).alloc (by omega) _).alloc (by simp; omega) _).alloc (by simp; omega) _
  have hsz0' : (((W4.alloc (.cells #[.int .i64 0] 3)).alloc (.cells #[.int .i64 0] 3)).alloc (.cells #[.int .i64 0] 3)).heap.size = w.heap.size + 1 + 1 + 1 + 1 + 1 + 1 + 1 := by simp; omega
  generalize (((W4.alloc (.cells #[.int .i64 0] 3)).alloc (.cells #[.int .i64 0] 3)).alloc (.cells #[.int .i64 0] 3)) = W0 at *
  have hsz0 : w.heap.size + 1 + 1 + 1 + 1 ≤ W0.heap.size := by omega
  have hbox0 := (hbk4.below hB40 (by omega)).boxed
  have hGs0 : Gs w.heap.size (w.heap.size + 1 + 1 + 1 + 1) (w.heap.size + 1 + 1 + 1 + 1 + 1) (.slice A l.length c) cut 0 (0 : Nat) ([] : List (Nat × Nat)).length W0 := ⟨b0, b1, b2, b4, b5, b6⟩
  clear b0 b1 b2 b4 b5 b6 hs3 hsz0'
  replace hs4 : w.heap.size + 1 + 1 + 1 + 1 ≤ W4.heap.size := by omega
  obtain ⟨q0, hq0⟩ : ∃ q, q = w.heap.size + 1 + 1 + 1 + 1 + 1 := ⟨_, rfl⟩
  obtain ⟨r0, hr0⟩ : ∃ r, r = w.heap.size + 1 + 1 + 1 + 1 := ⟨_, rfl⟩
  rw [← hq0, ← hr0] at hGs0
  rw [← hq0, ← hr0]
  have h4r0 : w.heap.size + 1 + 1 + 1 + 1 ≤ r0 := by omega
  have hrq0 : r0 + 1 ≤ q0 := by omega
  clear hq0 hr0
  -- ROUND 0 BEGINS
  refine wpIn_by_stopB (fun a0 a W => ∃ (D p k : Nat), a = { a0 with defers := { target := .collected D, args := #[] } :: a0.defers } ∧ W.heap[D]? = some (.deferred (some [])) ∧ W0.heap.size ≤ D ∧ p ≤ l.length ∧ ((0 : Int) = 1 → p < l.length → rd (l.drop p) = none) ∧
    Gs w.heap.size r0 q0 (.slice A l.length c) cut 0 p k W ∧ Below (w.heap.size + 1 + 1 + 1 + 1) W4 W) ?_ ?_
  · intro Q' hQ hQ2
    refine wpIn_rangeFunc_ownG rfl h1 (gf := 101) (lb := #[.pointer (some ⟨w.heap.size + 1 + 1 + 1, 0, none⟩)]) rfl trivial (enters_of Try.func101 (by kernel_rfl) rfl)
      (numbers_stops (w0 := W4) (n₀ := w.heap.size + 1 + 1 + 1 + 1) (n - 1) (by omega) (w.heap.size + 1 + 1 + 1) A c l hin4 W0 hB40 (by omega) hsz0 hbox0) belowK_t (belowK_b hsz0) (Below.refl _ _) (fun _ => rfl)
      (fun pre W => (∃ p : Nat, Run l pre p ∧ Gs w.heap.size r0 q0 (.slice A l.length c) cut 0 p pre.length W) ∧ Below (w.heap.size + 1 + 1 + 1 + 1) W4 W)
      (fun cd pre W => (cd = .ret ∧ ¬ ∃ p, Run l pre p) ∨ (cd = .exit 2 ∧ ((∃ p : Nat, Run l pre p ∧ Gs w.heap.size r0 q0 (.slice A l.length c) cut 0 p pre.length W) ∧ Below (w.heap.size + 1 + 1 + 1 + 1) W4 W)))
      ?own0 ?own20 ?start0 ?act0 ?assign0 ?body0 ?done0 ?stop0
    case own0 => exact OwnFrom.and (Own.from (fun s A B row hs hg hr => by obtain ⟨p, h1, h2⟩ := hs; exact ⟨p, h1, h2.kept hg hr⟩) _) (ownFrom_below hs4 (by omega))
    case own20 =>
      rintro cd s A B row (⟨e, h⟩ | ⟨e, ⟨p, h2, h3⟩, h4⟩) hg hr
      · exact .inl ⟨e, h⟩
      · exact .inr ⟨e, ⟨p, h2, h3.kept hg (fun r e => (hr r e).2)⟩, ownFrom_below (β := Unit) hs4 (by omega) () A B row h4 hg hr⟩
    case start0 => exact ⟨⟨0, .nil, hGs0⟩, hB40⟩
    case assign0 =>
      intro l1 x W K hK
      gi_wp2
      exact hK
    case body0 =>
      rintro l1 pre x W ⟨⟨p, hrun, hG⟩, hBW⟩ hlt
      have hp := hrun.le
      have h11 : 1 ≤ n - 1 - 1 := by omega
      have hcb := hG.b.boxed
      have hcc := hG.c.boxed
      have hco := hG.o.boxed
      have hcr := hG.r.boxed
      have hcp := hG.p.boxed
      have hck := hG.k.boxed
      have hfo := hG.o.free 0
      have hfp := hG.p.free 0
      have hfk := hG.k.free 0
      have hn1 : ¬ r0 = q0 := by omega
      have hn2 : ¬ r0 = q0 + 1 := by omega
      have hn3 : ¬ w.heap.size + 1 = q0 := by omega
      have hn4 : ¬ w.heap.size + 1 = q0 + 1 := by omega
      have hn3' : ¬ w.heap.size + 1 + 1 = q0 := by omega
      have hn4' : ¬ w.heap.size + 1 + 1 = q0 + 1 := by omega
      have hcut : (if c = p then A else Option.map (fun x => x.add p) A) = cutA A c p := rfl
      have hinW : InB W W.heap.size A c l := (h.below (hB4w.trans (hBW.mono (by omega)))).more (by have := hBW.size; omega)
      have H := refReadNumber_gives W W.heap.size _ _ _ (hinW.drop p hp.2)
      rw [List.length_drop] at H
      have hwr : ∀ u : Nat, u ≤ l.length - p → IntKind.i64.wrap ((p : Int) + (u : Int)) = (p : Int) + (u : Int) := fun u hu => wrap_i64_id' _ (by omega) (by omega)
      have hwk : IntKind.i64.wrap ((pre.length : Int) + 1) = (pre.length : Int) + 1 := wrap_i64_id' _ (by omega) (by omega)
      obtain ⟨x1, x2⟩ := x
      rcases hrd : rd (l.drop p) with _ | ⟨v, u⟩
      · obtain ⟨e, he, hv⟩ := rdV_none' hrd
        rw [hv] at H
        gi_wp2_with (refine ⟨trivial, ?_⟩; gi_at_call 31; refine (CallsIn.inRound l1 (callsIn_wide.2 H)).mono ?_; rintro e w' ⟨rfl, rfl⟩)
        exact ⟨(KeepsOthers.setCell _ _ _).from _, .inl ⟨rfl, fun ⟨q, hq⟩ => by
          obtain ⟨u, _, h2, _⟩ := hrun.next hq
          rw [hrd] at h2
          cases h2⟩⟩
      · have hbd := (rd_bound hrd).2
        rw [List.length_drop] at hbd
        have hcm : cutA A c p = Option.map (fun x => x.add p) A := if_neg (by omega)
        rw [rdV_some' hrd, hcm] at H
        clear hcm hcut
        have hcne : ¬ c = p := by omega
        have hwu := hwr u hbd.2
        clear hwr
        by_cases e1 : x1 = p
        · subst e1
          by_cases e2 : x2 = v
          · subst e2
            by_cases hc : cut ≤ (pre.length : Int) + 1
            · gi_wp2_with (refine ⟨trivial, ?_⟩; gi_at_call 31; refine (CallsIn.inRound l1 (callsIn_wide.2 H)).mono ?_; rintro e w' ⟨rfl, rfl⟩)
              exact ⟨((KeepsOthers.setCell _ _ _).trans (KeepsOthers.setCell _ _ _)).from _, .inr ⟨rfl, ⟨⟨x1 + u, .snoc hrun hrd, by rw [show (((pre ++ [(x1, x2)]).length : Nat) : Int) = (pre.length : Int) + 1 from by simp, show ((x1 + u : Nat) : Int) = (x1 : Int) + (u : Int) from by simp]; exact hG.step (by omega) (by omega) (by omega) _ _⟩, (hBW.setCell (by simp; omega) _).setCell (by simp; omega) _⟩⟩⟩
            · gi_wp2_with (refine ⟨trivial, ?_⟩; gi_at_call 31; refine (CallsIn.inRound l1 (callsIn_wide.2 H)).mono ?_; rintro e w' ⟨rfl, rfl⟩)
              exact ⟨((KeepsOthers.setCell _ _ _).trans (KeepsOthers.setCell _ _ _)).from _, ((Below.refl _ _).setCell (by simp; omega) _).setCell (by simp; omega) _, ⟨⟨x1 + u, .snoc hrun hrd, by rw [show (((pre ++ [(x1, x2)]).length : Nat) : Int) = (pre.length : Int) + 1 from by simp, show ((x1 + u : Nat) : Int) = (x1 : Int) + (u : Int) from by simp]; exact hG.step (by omega) (by omega) (by omega) _ _⟩, (hBW.setCell (by simp; omega) _).setCell (by simp; omega) _⟩⟩
          · have hne : ((x2 : Int) != (v : Int)) = true := by simp; omega
            gi_wp2_with (refine ⟨trivial, ?_⟩; gi_at_call 31; refine (CallsIn.inRound l1 (callsIn_wide.2 H)).mono ?_; rintro e w' ⟨rfl, rfl⟩)
            exact ⟨(KeepsOthers.setCell _ _ _).from _, .inl ⟨rfl, fun ⟨q, hq⟩ => by
              obtain ⟨u, _, h2, _⟩ := hrun.next hq
              rw [hrd] at h2
              injection h2 with h3
              injection h3 with h4 _
              exact e2 h4.symm⟩⟩
        · have hne : ((x1 : Int) != (p : Int)) = true := by simp; omega
          gi_wp2_with (refine ⟨trivial, ?_⟩; gi_at_call 31; refine (CallsIn.inRound l1 (callsIn_wide.2 H)).mono ?_; rintro e w' ⟨rfl, rfl⟩)
          exact ⟨(KeepsOthers.setCell _ _ _).from _, .inl ⟨rfl, fun ⟨q, hq⟩ => by
            obtain ⟨u, h1, _, _⟩ := hrun.next hq
            exact e1 h1⟩⟩
    case done0 =>
      rintro D xs W hD ⟨p, hrun, hend⟩ ⟨⟨p', hrun', hG⟩, hB⟩ hK
      have := hrun.det hrun'
      subst this
      exact hQ _ _ ⟨D, p, xs.length, rfl, hK, hD, hrun.le.2, fun _ => hend, hG, hB⟩
    case stop0 =>
      rintro D cd pre W hD ⟨p, hrun⟩ (⟨rfl, hno⟩ | ⟨rfl, ⟨p', hrun', hG⟩, hB⟩) hK
      · exact absurd ⟨p, hrun⟩ hno
      · exact wpIn_exit (hQ2 _ _ ⟨D, p', pre.length, rfl, hK, hD, hrun'.le.2, (fun e => by cases e), hG, hB⟩)
  rintro a W ⟨D0, p0, k0, rfl, hK0, hD0, hp0, hend0, hG, hBW⟩
  have hcr := hG.r.boxed
  clear hbox0 hB40 hGs0 h4r0 hrq0
  gi_wp2
  have hsW := hBW.size
  have hbox := hbk4.below hBW (by omega)
  have g0 := hG.b.alloc (.cells #[.int .i64 1] 3)
  have g1 := hG.c.alloc (.cells #[.int .i64 1] 3)
  have g2 := hG.o.alloc (.cells #[.int .i64 1] 3)
  have g3 := BlkIs.new W 3 #[.int .i64 1]
  have gB := hBW.alloc (by omega) (.cells #[.int .i64 1] 3)
  have hKD : D0 < W.heap.size := (Array.getElem?_eq_some_iff.1 hK0).1
  have hK0' : (W.alloc (.cells #[.int .i64 1] 3)).heap[D0]? = some (.deferred (some [])) := (Below.heap_alloc _ _ D0 hKD).trans hK0
  generalize hW' : W.alloc (.cells #[.int .i64 1] 3) = W' at *
  clear hW' hK0 hcr hbox hG hBW
  generalize W.heap.size = r1 at *
  clear W
  have hcr1 := g3.boxed
  have hr1 := g3.lt
  rw [roundsIn_succ]
  gi_wp2
  have f0 := (g0.alloc (.cells #[.int .i64 0] 3)).alloc (.cells #[.int .i64 0] 3)
  have f1 := (g1.alloc (.cells #[.int .i64 0] 3)).alloc (.cells #[.int .i64 0] 3)
  have f2 := (g2.alloc (.cells #[.int .i64 0] 3)).alloc (.cells #[.int .i64 0] 3)
  have f3 := (g3.alloc (.cells #[.int .i64 0] 3)).alloc (.cells #[.int .i64 0] 3)
  have f5 := (BlkIs.new W' 3 #[.int .i64 0]).alloc (.cells #[.int .i64 0] 3)
  have f6 := BlkIs.new (W'.alloc (.cells #[.int .i64 0] 3)) 3 #[.int .i64 0]
  rw [World.size_alloc] at f6
  have hB41 := ((gB.alloc (by omega) (.cells #[.int .i64 0] 3)).alloc (by simp; omega) (.cells #[.int .i64 0] 3))
  have hKD' : D0 < W'.heap.size := by omega
  have hK01 : ((W'.alloc (.cells #[.int .i64 0] 3)).alloc (.cells #[.int .i64 0] 3)).heap[D0]? = some (.deferred (some [])) := ((Below.heap_alloc _ _ D0 (by simp; omega)).trans (Below.heap_alloc _ _ D0 hKD')).trans hK0'
  have hsz1' : ((W'.alloc (.cells #[.int .i64 0] 3)).alloc (.cells #[.int .i64 0] 3)).heap.size = W'.heap.size + 1 + 1 := by simp
  generalize hW1 : (W'.alloc (.cells #[.int .i64 0] 3)).alloc (.cells #[.int .i64 0] 3) = W1 at *
  clear hW1
  have hrq1 : r1 + 1 ≤ W'.heap.size := hr1
  clear hcr1 g0 g1 g2 g3 gB hK0'
  generalize W'.heap.size = q1 at *
  clear W'
  have h4r1 : w.heap.size + 1 + 1 + 1 + 1 ≤ r1 := by omega
  have hsz1 : w.heap.size + 1 + 1 + 1 + 1 ≤ W1.heap.size := by omega
  have hbox1 := (hbk4.below hB41 (by omega)).boxed
  have hGs1 : Gs w.heap.size r1 q1 (.slice A l.length c) cut 1 (0 : Nat) ([] : List (Nat × Nat)).length W1 := ⟨f0, f1, f2, f3, f5, f6⟩
  clear f0 f1 f2 f3 f5 f6 hsz1'
  -- ROUND 0 ENDS
  -- ROUND 1 BEGINS
  refine wpIn_by_stopB (fun a0 a W => ∃ (D p k : Nat), a = { a0 with defers := { target := .collected D, args := #[] } :: a0.defers } ∧ W.heap[D]? = some (.deferred (some [])) ∧ W1.heap.size ≤ D ∧ p ≤ l.length ∧ (p < l.length → rd (l.drop p) = none) ∧
    Gs w.heap.size r1 q1 (.slice A l.length c) cut 1 p k W ∧ Below (w.heap.size + 1 + 1 + 1 + 1) W4 W ∧ W.heap[D0]? = some (.deferred (some []))) ?_ ?_
  · intro Q' hQ hQ2
    refine wpIn_rangeFunc_ownG rfl h1 (gf := 101) (lb := #[.pointer (some ⟨w.heap.size + 1 + 1 + 1, 0, none⟩)]) rfl trivial (enters_of Try.func101 (by kernel_rfl) rfl)
      (numbers_stops (w0 := W4) (n₀ := w.heap.size + 1 + 1 + 1 + 1) (n - 1) (by omega) (w.heap.size + 1 + 1 + 1) A c l hin4 W1 hB41 (by omega) hsz1 hbox1) belowK_t (belowK_b hsz1) (Below.refl _ _) (fun _ => rfl)
      (fun pre W => (∃ p : Nat, Run l pre p ∧ Gs w.heap.size r1 q1 (.slice A l.length c) cut 1 p pre.length W) ∧ Below (w.heap.size + 1 + 1 + 1 + 1) W4 W ∧ W.heap[D0]? = some (.deferred (some [])))
      (fun cd pre W => (cd = .ret ∧ ¬ ∃ p, Run l pre p) ∨ (cd = .exit 2 ∧ False ∧ ((∃ p : Nat, Run l pre p ∧ Gs w.heap.size r1 q1 (.slice A l.length c) cut 1 p pre.length W) ∧ Below (w.heap.size + 1 + 1 + 1 + 1) W4 W ∧ W.heap[D0]? = some (.deferred (some [])))))
      ?own1 ?own21 ?start1 ?act1 ?assign1 ?body1 ?done1 ?stop1
    case own1 => exact OwnFrom.and (Own.from (fun s A B row hs hg hr => by obtain ⟨p, h1, h2⟩ := hs; exact ⟨p, h1, h2.kept hg hr⟩) _) (OwnFrom.and (ownFrom_below hs4 (by omega)) (ownFrom_row hK01))
    case own21 =>
      rintro cd s A B row (⟨e, h⟩ | ⟨e, hf, ⟨p, h2, h3⟩, h4⟩) hg hr
      · exact .inl ⟨e, h⟩
      · exact .inr ⟨e, hf, ⟨p, h2, h3.kept hg (fun r e => (hr r e).2)⟩, hf.elim⟩
    case start1 => exact ⟨⟨0, .nil, hGs1⟩, hB41, hK01⟩
    case assign1 =>
      intro l1 x W K hK
      gi_wp2
      exact hK
    case body1 =>
      rintro l1 pre x W ⟨⟨p, hrun, hG⟩, hBW⟩ hlt
      have hp := hrun.le
      have h11 : 1 ≤ n - 1 - 1 := by omega
      have hcb := hG.b.boxed
      have hcc := hG.c.boxed
      have hco := hG.o.boxed
      have hcr := hG.r.boxed
      have hcp := hG.p.boxed
      have hck := hG.k.boxed
      have hfo := hG.o.free 0
      have hfp := hG.p.free 0
      have hfk := hG.k.free 0
      have hn1 : ¬ r1 = q1 := by omega
      have hn2 : ¬ r1 = q1 + 1 := by omega
      have hn3 : ¬ w.heap.size + 1 = q1 := by omega
      have hn4 : ¬ w.heap.size + 1 = q1 + 1 := by omega
      have hn3' : ¬ w.heap.size + 1 + 1 = q1 := by omega
      have hn4' : ¬ w.heap.size + 1 + 1 = q1 + 1 := by omega
      have hcut : (if c = p then A else Option.map (fun x => x.add p) A) = cutA A c p := rfl
      have hinW : InB W W.heap.size A c l := (h.below (hB4w.trans (hBW.1.mono (by omega)))).more (by have := hBW.1.size; omega)
      have H := refReadNumber_gives W W.heap.size _ _ _ (hinW.drop p hp.2)
      rw [List.length_drop] at H
      have hwr : ∀ u : Nat, u ≤ l.length - p → IntKind.i64.wrap ((p : Int) + (u : Int)) = (p : Int) + (u : Int) := fun u hu => wrap_i64_id' _ (by omega) (by omega)
      have hwk : IntKind.i64.wrap ((pre.length : Int) + 1) = (pre.length : Int) + 1 := wrap_i64_id' _ (by omega) (by omega)
      obtain ⟨x1, x2⟩ := x
      rcases hrd : rd (l.drop p) with _ | ⟨v, u⟩
      · obtain ⟨e, he, hv⟩ := rdV_none' hrd
        rw [hv] at H
        gi_wp2_with (refine ⟨trivial, ?_⟩; gi_at_call 31; refine (CallsIn.inRound l1 (callsIn_wide.2 H)).mono ?_; rintro e w' ⟨rfl, rfl⟩)
        exact ⟨(KeepsOthers.setCell _ _ _).from _, .inl ⟨rfl, fun ⟨q, hq⟩ => by
          obtain ⟨u, _, h2, _⟩ := hrun.next hq
          rw [hrd] at h2
          cases h2⟩⟩
      · have hbd := (rd_bound hrd).2
        rw [List.length_drop] at hbd
        have hcm : cutA A c p = Option.map (fun x => x.add p) A := if_neg (by omega)
        rw [rdV_some' hrd, hcm] at H
        clear hcm hcut
        have hcne : ¬ c = p := by omega
        have hwu := hwr u hbd.2
        clear hwr
        by_cases e1 : x1 = p
        · subst e1
          by_cases e2 : x2 = v
          · subst e2
            gi_wp2_with (refine ⟨trivial, ?_⟩; gi_at_call 31; refine (CallsIn.inRound l1 (callsIn_wide.2 H)).mono ?_; rintro e w' ⟨rfl, rfl⟩)
            exact ⟨((KeepsOthers.setCell _ _ _).trans (KeepsOthers.setCell _ _ _)).from _, ((Below.refl _ _).setCell (by simp; omega) _).setCell (by simp; omega) _, ⟨⟨x1 + u, .snoc hrun hrd, by rw [show (((pre ++ [(x1, x2)]).length : Nat) : Int) = (pre.length : Int) + 1 from by simp, show ((x1 + u : Nat) : Int) = (x1 : Int) + (u : Int) from by simp]; exact hG.step (by omega) (by omega) (by omega) _ _⟩, (hBW.1.setCell (by simp; omega) _).setCell (by simp; omega) _, (Below.heap_setCell _ _ _ D0 (by simp; omega)).trans ((Below.heap_setCell _ _ _ D0 (by simp; omega)).trans hBW.2)⟩⟩
          · have hne : ((x2 : Int) != (v : Int)) = true := by simp; omega
            gi_wp2_with (refine ⟨trivial, ?_⟩; gi_at_call 31; refine (CallsIn.inRound l1 (callsIn_wide.2 H)).mono ?_; rintro e w' ⟨rfl, rfl⟩)
            exact ⟨(KeepsOthers.setCell _ _ _).from _, .inl ⟨rfl, fun ⟨q, hq⟩ => by
              obtain ⟨u, _, h2, _⟩ := hrun.next hq
              rw [hrd] at h2
              injection h2 with h3
              injection h3 with h4 _
              exact e2 h4.symm⟩⟩
        · have hne : ((x1 : Int) != (p : Int)) = true := by simp; omega
          gi_wp2_with (refine ⟨trivial, ?_⟩; gi_at_call 31; refine (CallsIn.inRound l1 (callsIn_wide.2 H)).mono ?_; rintro e w' ⟨rfl, rfl⟩)
          exact ⟨(KeepsOthers.setCell _ _ _).from _, .inl ⟨rfl, fun ⟨q, hq⟩ => by
            obtain ⟨u, h1, _, _⟩ := hrun.next hq
            exact e1 h1⟩⟩
    case done1 =>
      rintro D xs W hD ⟨p, hrun, hend⟩ ⟨⟨p', hrun', hG⟩, hB⟩ hK
      have := hrun.det hrun'
      subst this
      exact hQ _ _ ⟨D, p, xs.length, rfl, hK, hD, hrun.le.2, hend, hG, hB⟩
    case stop1 =>
      rintro D cd pre W hD ⟨p, hrun⟩ (⟨rfl, hno⟩ | ⟨rfl, hf, ⟨p', hrun', hG⟩, hB⟩) hK
      · exact absurd ⟨p, hrun⟩ hno
      · exact hf.elim
  rintro a W ⟨D1, p1, k1, rfl, hK1, hD1, hp1, hend1, hG, hBW, hK0⟩
  -- ROUND 1 ENDS
  have hcr := hG.r.boxed
  have hcp := hG.p.boxed
  have hcb := hG.b.boxed
  have hsW := hBW.size
  clear hbox1 hB41 hGs1
  by_cases hlt : p1 < l.length
  · have hend := hend1 hlt
    obtain ⟨e, he, hv⟩ := rdV_none' hend
    have hinW : InB W W.heap.size A c l := (h.below (hB4w.trans (hBW.mono (by omega)))).more (by omega)
    have H := refReadNumber_gives W W.heap.size _ _ _ (hinW.drop p1 hp1)
    have hcm : cutA A c p1 = Option.map (fun x => x.add p1) A := if_neg (by omega)
    rw [hv, hcm, List.length_drop] at H
    clear hcm
    have hcne : ¬ c = p1 := by omega
    gi_wp2_with (refine ⟨trivial, ?_⟩; gi_at_call 31; refine (callsIn_wide.2 H).mono ?_; rintro e w' ⟨rfl, rfl⟩)
    rw [roundsIn_succ]
    have g2 := hG.o.alloc (.cells #[.int .i64 2] 3)
    have gB := hBW.alloc (by omega) (.cells #[.int .i64 2] 3)
    have hz0 := (Below.heap_alloc W (.cells #[.int .i64 2] 3) D0 (Array.getElem?_eq_some_iff.1 hK0).1).trans hK0
    have hz1 := (Below.heap_alloc W (.cells #[.int .i64 2] 3) D1 (Array.getElem?_eq_some_iff.1 hK1).1).trans hK1
    have gs := g2.lt
    gi_wp2_with (refine ⟨trivial, ?_⟩; gi_at_call 27; refine (callsIn_wide.2 (works3_gives _)).mono ?_; rintro e w' ⟨rfl, hB⟩; have b3 := g2.below hB gs; have hco := b3.boxed; have hfo := b3.free 0)
    have hD0' := (hB.block D0 (Array.getElem?_eq_some_iff.1 hz0).1).trans hz0
    have hD1' := (hB.block D1 (Array.getElem?_eq_some_iff.1 hz1).1).trans hz1
    have hlt0 := (Array.getElem?_eq_some_iff.1 hK01).1
    have b4 := b3.set 0 (.bool true)
    have hE0 := (Below.heap_setCell w' ⟨w.heap.size + 1 + 1, 0, none⟩ (.bool true) D0 (by simp; omega)).trans hD0'
    have hE1 := (Below.heap_setCell w' ⟨w.heap.size + 1 + 1, 0, none⟩ (.bool true) D1 (by simp; omega)).trans hD1'
    have hBf : Below w.heap.size w (w'.setCell ⟨w.heap.size + 1 + 1, 0, none⟩ (.bool true)) := ((hB4w.trans (gB.mono (by omega))).trans (hB.mono (by have := gB.size; omega))).setCell (p := ⟨w.heap.size + 1 + 1, 0, none⟩) (by simp; omega) _
    generalize w'.setCell ⟨w.heap.size + 1 + 1, 0, none⟩ (.bool true) = V at *
    refine ⟨by simp, .inl ⟨D1, _, rfl, run_takeDeferred hE1, ?_⟩⟩
    have hE0' := (putObj_other V D1 (.deferred none) (g := D0) (by omega)).trans hE0
    refine ⟨by simp, .inl ⟨D0, _, rfl, run_takeDeferred hE0', ?_⟩⟩
    have b5 : BlkIs ((V.putObj D1 (.deferred none)).putObj D0 (.deferred none)) (w.heap.size + 1 + 1) 4 #[.bool true] := (putObj_other _ D0 (.deferred none) (g := w.heap.size + 1 + 1) (by omega)).trans ((putObj_other V D1 (.deferred none) (g := w.heap.size + 1 + 1) (by omega)).trans b4)
    refine ⟨.bool true, results_cell1 (p := ⟨w.heap.size + 1 + 1, 0, none⟩) 4 rfl rfl (by simp [go_sem]) b5.boxed, rfl, ?_⟩
    exact (hBf.trans (belowK_b (w := w) (Nat.le_refl _) V D1 _ _ (by omega) hE1 rfl rfl)).trans (belowK_b (w := w) (Nat.le_refl _) _ D0 _ _ (by omega) hE0' rfl rfl)
  · gi_wp2
    rw [roundsIn_succ]
    have g2 := hG.o.alloc (.cells #[.int .i64 2] 3)
    have gB := hBW.alloc (by omega) (.cells #[.int .i64 2] 3)
    have hz0 := (Below.heap_alloc W (.cells #[.int .i64 2] 3) D0 (Array.getElem?_eq_some_iff.1 hK0).1).trans hK0
    have hz1 := (Below.heap_alloc W (.cells #[.int .i64 2] 3) D1 (Array.getElem?_eq_some_iff.1 hK1).1).trans hK1
    have gs := g2.lt
    gi_wp2_with (refine ⟨trivial, ?_⟩; gi_at_call 27; refine (callsIn_wide.2 (works3_gives _)).mono ?_; rintro e w' ⟨rfl, hB⟩; have b3 := g2.below hB gs; have hco := b3.boxed; have hfo := b3.free 0)
    have hD0' := (hB.block D0 (Array.getElem?_eq_some_iff.1 hz0).1).trans hz0
    have hD1' := (hB.block D1 (Array.getElem?_eq_some_iff.1 hz1).1).trans hz1
    have hlt0 := (Array.getElem?_eq_some_iff.1 hK01).1
    have b4 := b3.set 0 (.bool true)
    have hE0 := (Below.heap_setCell w' ⟨w.heap.size + 1 + 1, 0, none⟩ (.bool true) D0 (by simp; omega)).trans hD0'
    have hE1 := (Below.heap_setCell w' ⟨w.heap.size + 1 + 1, 0, none⟩ (.bool true) D1 (by simp; omega)).trans hD1'
    have hBf : Below w.heap.size w (w'.setCell ⟨w.heap.size + 1 + 1, 0, none⟩ (.bool true)) := ((hB4w.trans (gB.mono (by omega))).trans (hB.mono (by have := gB.size; omega))).setCell (p := ⟨w.heap.size + 1 + 1, 0, none⟩) (by simp; omega) _
    generalize w'.setCell ⟨w.heap.size + 1 + 1, 0, none⟩ (.bool true) = V at *
    refine ⟨by simp, .inl ⟨D1, _, rfl, run_takeDeferred hE1, ?_⟩⟩
    have hE0' := (putObj_other V D1 (.deferred none) (g := D0) (by omega)).trans hE0
    refine ⟨by simp, .inl ⟨D0, _, rfl, run_takeDeferred hE0', ?_⟩⟩
    have b5 : BlkIs ((V.putObj D1 (.deferred none)).putObj D0 (.deferred none)) (w.heap.size + 1 + 1) 4 #[.bool true] := (putObj_other _ D0 (.deferred none) (g := w.heap.size + 1 + 1) (by omega)).trans ((putObj_other V D1 (.deferred none) (g := w.heap.size + 1 + 1) (by omega)).trans b4)
    refine ⟨.bool true, results_cell1 (p := ⟨w.heap.size + 1 + 1, 0, none⟩) 4 rfl rfl (by simp [go_sem]) b5.boxed, rfl, ?_⟩
    exact (hBf.trans (belowK_b (w := w) (Nat.le_refl _) V D1 _ _ (by omega) hE1 rfl rfl)).trans (belowK_b (w := w) (Nat.le_refl _) _ D0 _ _ (by omega) hE0' rfl rfl)

theorem lawGoes_walk (w : World) (A : Option Addr) (c : Nat) (l : List UInt8) (cut : Int) (h : InB w w.heap.size A c l) :
    Calls Try.prog 5 #[.slice A l.length c, .int .i64 cut] w fun e w' => e = .returned (.bool true) ∧ Below w.heap.size w w' := by
  by_cases hl : l.length ≤ 200
  · exact callsIn_wide.1 (lawGoes_in 6 (Nat.le_refl _) w A c l cut h hl)
  · exact lawGoes_long w A c l cut h (by omega)
end Go.Proofs.Ytlelckdcmlpmdaa
/- frame: Sectors, FrameAt, PageAt; the reference's; Right. -/
namespace Go.Proofs.Ytlelckdcmlpmdaa
open Go Go.RowKit Lou

section
variable (fr pg n : Int)
set_option maxRecDepth 100000 in
set_option maxHeartbeats 1000000 in
theorem sectors1_gives (W : World) (g : Nat) (hb : BlkIs W g 90 #[.int .i64 fr, .int .i64 pg]) (h1 : 1 ≤ fr ∧ fr ≤ 2000) (h2 : 1 ≤ pg ∧ pg ≤ 2000) :
    Calls Try.prog 123 #[.pointer (some ⟨g, 0, none⟩)] W fun e w' => e = .returned (.int .i64 (2 + 9 * fr + 8 * pg)) ∧ W = w' := by
  have hc0 : W.cell? ⟨g, 0, none⟩ = some (.int .i64 fr) := by rw [hb.cell]; rfl
  have hc1 : W.cell? ⟨g, 1, none⟩ = some (.int .i64 pg) := by rw [hb.cell]; rfl
  have e1 : IntKind.i64.wrap (9 * fr) = 9 * fr := wrap_i64_fr _ (by omega) (by omega)
  have e2 : IntKind.i64.wrap (2 + 9 * fr) = 2 + 9 * fr := wrap_i64_fr _ (by omega) (by omega)
  have e3 : IntKind.i64.wrap (8 * pg) = 8 * pg := wrap_i64_fr _ (by omega) (by omega)
  have e4 : IntKind.i64.wrap (2 + 9 * fr + 8 * pg) = 2 + 9 * fr + 8 * pg := wrap_i64_fr _ (by omega) (by omega)
  go_enter Try.func123, Try.ntmps123
  go_wp2
  go_ret
  exact ⟨rfl, rfl⟩
set_option maxRecDepth 100000 in
set_option maxHeartbeats 1000000 in
theorem frameAt1_gives (W : World) (g : Nat) (hb : BlkIs W g 3 #[.int .i64 n]) (h1 : 0 ≤ n ∧ n < 2000) :
    Calls Try.prog 124 #[.pointer (some ⟨g, 0, none⟩)] W fun e w' => e = .returned (.int .i64 (2 + 9 * n)) ∧ W = w' := by
  have hc0 : W.cell? ⟨g, 0, none⟩ = some (.int .i64 n) := by rw [hb.cell]; rfl
  have e1 : IntKind.i64.wrap (9 * n) = 9 * n := wrap_i64_fr _ (by omega) (by omega)
  have e2 : IntKind.i64.wrap (2 + 9 * n) = 2 + 9 * n := wrap_i64_fr _ (by omega) (by omega)
  go_enter Try.func124, Try.ntmps124
  go_wp2
  go_ret
  exact ⟨rfl, rfl⟩
set_option maxRecDepth 100000 in
set_option maxHeartbeats 1000000 in
theorem pageAt1_gives (W : World) (g g2 : Nat) (hb : BlkIs W g 90 #[.int .i64 fr, .int .i64 pg]) (hb2 : BlkIs W g2 3 #[.int .i64 n]) (h1 : 1 ≤ fr ∧ fr ≤ 2000) (h2 : 0 ≤ n ∧ n < 2000) :
    Calls Try.prog 125 #[.pointer (some ⟨g, 0, none⟩), .pointer (some ⟨g2, 0, none⟩)] W fun e w' => e = .returned (.int .i64 (2 + 9 * fr + 8 * n)) ∧ W = w' := by
  have hc0 : W.cell? ⟨g, 0, none⟩ = some (.int .i64 fr) := by rw [hb.cell]; rfl
  have hc1 : W.cell? ⟨g2, 0, none⟩ = some (.int .i64 n) := by rw [hb2.cell]; rfl
  have e1 : IntKind.i64.wrap (9 * fr) = 9 * fr := wrap_i64_fr _ (by omega) (by omega)
  have e2 : IntKind.i64.wrap (2 + 9 * fr) = 2 + 9 * fr := wrap_i64_fr _ (by omega) (by omega)
  have e3 : IntKind.i64.wrap (8 * n) = 8 * n := wrap_i64_fr _ (by omega) (by omega)
  have e4 : IntKind.i64.wrap (2 + 9 * fr + 8 * n) = 2 + 9 * fr + 8 * n := wrap_i64_fr _ (by omega) (by omega)
  go_enter Try.func125, Try.ntmps125
  go_wp2
  go_ret
  exact ⟨rfl, rfl⟩

def atV (r e : Int) : Value := .tuple #[.int .i64 (if e = 0 then r else 0), .int .i64 e]
set_option maxRecDepth 100000 in
set_option maxHeartbeats 1000000 in
theorem sectors_gives (w : World) : Calls Try.prog 56 #[.agg #[.int .i64 fr, .int .i64 pg]] w fun e w' => e = .returned (atV (2 + 9 * fr + 8 * pg) (plE (planOk fr pg) 0 1)) ∧ Below w.heap.size w w' := by
  have hB0 : Below w.heap.size w (w.alloc (.cells #[.int .i64 fr, .int .i64 pg] 90)) := (Below.refl _ w).alloc (Nat.le_refl _) _
  have hb := BlkIs.new w 90 #[.int .i64 fr, .int .i64 pg]
  have H := place_gives fr pg 0 1 (2 + 9 * fr + 8 * pg) 123 #[.pointer (some ⟨w.heap.size, 0, none⟩)] (enters_of Try.func123 (by kernel_rfl) rfl) (w.alloc (.cells #[.int .i64 fr, .int .i64 pg] 90))
    (fun hp _ _ W hW => sectors1_gives fr pg W _ (hb.below hW (by simp)) ((planOk_iff fr pg).1 hp).1 ((planOk_iff fr pg).1 hp).2)
  unfold atV
  generalize plE (planOk fr pg) 0 1 = e at *
  generalize (if e = 0 then 2 + 9 * fr + 8 * pg else 0) = v at *
  go_enter Try.func56, Try.ntmps56
  go_wp2_with fail
  refine H.mono ?_
  rintro e w' ⟨rfl, hB⟩
  go_wp2
  refine bodyPost_ret (results_tmp2 rfl _ _ _) rfl ?_
  exact ⟨rfl, hB0.trans (hB.mono (by simp))⟩
set_option maxRecDepth 100000 in
set_option maxHeartbeats 1000000 in
theorem frameAt_gives (w : World) : Calls Try.prog 57 #[.agg #[.int .i64 fr, .int .i64 pg], .int .i64 n] w fun e w' => e = .returned (atV (2 + 9 * n) (plE (planOk fr pg) n fr)) ∧ Below w.heap.size w w' := by
  have hB0 : Below w.heap.size w ((w.alloc (.cells #[.int .i64 fr, .int .i64 pg] 90)).alloc (.cells #[.int .i64 n] 3)) := ((Below.refl _ w).alloc (Nat.le_refl _) _).alloc (by simp) _
  have hb := BlkIs.new (w.alloc (.cells #[.int .i64 fr, .int .i64 pg] 90)) 3 #[.int .i64 n]
  rw [World.size_alloc] at hb
  have H := place_gives fr pg n fr (2 + 9 * n) 124 #[.pointer (some ⟨w.heap.size + 1, 0, none⟩)] (enters_of Try.func124 (by kernel_rfl) rfl) ((w.alloc (.cells #[.int .i64 fr, .int .i64 pg] 90)).alloc (.cells #[.int .i64 n] 3))
    (fun hp h0 hn W hW => frameAt1_gives n W _ (hb.below hW (by simp)) (by have := (planOk_iff fr pg).1 hp; omega))
  unfold atV
  generalize plE (planOk fr pg) n fr = e at *
  generalize (if e = 0 then 2 + 9 * n else 0) = v at *
  go_enter Try.func57, Try.ntmps57
  go_wp2_with fail
  refine H.mono ?_
  rintro e w' ⟨rfl, hB⟩
  go_wp2
  refine bodyPost_ret (results_tmp2 rfl _ _ _) rfl ?_
  exact ⟨rfl, hB0.trans (hB.mono (by simp; omega))⟩
set_option maxRecDepth 100000 in
set_option maxHeartbeats 1000000 in
theorem pageAt_gives (w : World) : Calls Try.prog 58 #[.agg #[.int .i64 fr, .int .i64 pg], .int .i64 n] w fun e w' => e = .returned (atV (2 + 9 * fr + 8 * n) (plE (planOk fr pg) n pg)) ∧ Below w.heap.size w w' := by
  have hB0 : Below w.heap.size w ((w.alloc (.cells #[.int .i64 fr, .int .i64 pg] 90)).alloc (.cells #[.int .i64 n] 3)) := ((Below.refl _ w).alloc (Nat.le_refl _) _).alloc (by simp) _
  have hb := BlkIs.new (w.alloc (.cells #[.int .i64 fr, .int .i64 pg] 90)) 3 #[.int .i64 n]
  have hb0 := (BlkIs.new w 90 #[.int .i64 fr, .int .i64 pg]).alloc (.cells #[.int .i64 n] 3)
  rw [World.size_alloc] at hb
  have H := place_gives fr pg n pg (2 + 9 * fr + 8 * n) 125 #[.pointer (some ⟨w.heap.size, 0, none⟩), .pointer (some ⟨w.heap.size + 1, 0, none⟩)] (enters_of Try.func125 (by kernel_rfl) rfl) ((w.alloc (.cells #[.int .i64 fr, .int .i64 pg] 90)).alloc (.cells #[.int .i64 n] 3))
    (fun hp h0 hn W hW => pageAt1_gives fr pg n W _ _ (hb0.below hW (by simp; omega)) (hb.below hW (by simp)) (by have := (planOk_iff fr pg).1 hp; omega) (by have := (planOk_iff fr pg).1 hp; omega))
  unfold atV
  generalize plE (planOk fr pg) n pg = e at *
  generalize (if e = 0 then 2 + 9 * fr + 8 * n else 0) = v at *
  go_enter Try.func58, Try.ntmps58
  go_wp2_with fail
  refine H.mono ?_
  rintro e w' ⟨rfl, hB⟩
  go_wp2
  refine bodyPost_ret (results_tmp2 rfl _ _ _) rfl ?_
  exact ⟨rfl, hB0.trans (hB.mono (by simp; omega))⟩
set_option maxRecDepth 100000 in
set_option maxHeartbeats 1000000 in
theorem refRight_gives (w : World) : Calls Try.prog 59 #[.agg #[.int .i64 fr, .int .i64 pg]] w fun e w' => e = .returned (.bool (planOk fr pg)) ∧ Below w.heap.size w w' := by
  have hB0 : Below w.heap.size w (w.alloc (.cells #[.int .i64 fr, .int .i64 pg] 90)) := (Below.refl _ w).alloc (Nat.le_refl _) _
  have hk := planOk_iff fr pg
  generalize planOk fr pg = b at *
  by_cases h1 : 1 ≤ fr
  · by_cases h2 : fr ≤ 2000
    · by_cases h3 : 1 ≤ pg
      · by_cases h4 : pg ≤ 2000
        · have e : b = true := hk.2 ⟨⟨h1, h2⟩, h3, h4⟩
          subst e
          clear hk
          go_enter Try.func59, Try.ntmps59
          go_wp2
          go_ret
          exact ⟨by first | rfl | simp [h4], hB0⟩
        · have e : b = false := by cases b; rfl; exact absurd (hk.1 rfl).2.2 h4
          subst e
          clear hk
          go_enter Try.func59, Try.ntmps59
          go_wp2
          go_ret
          exact ⟨by first | rfl | simp [h4], hB0⟩
      · have e : b = false := by cases b; rfl; exact absurd (hk.1 rfl).2.1 h3
        subst e
        clear hk
        go_enter Try.func59, Try.ntmps59
        go_wp2
        go_ret
        exact ⟨by first | rfl | simp [h3], hB0⟩
    · have e : b = false := by cases b; rfl; exact absurd (hk.1 rfl).1.2 h2
      subst e
      clear hk
      go_enter Try.func59, Try.ntmps59
      go_wp2
      go_ret
      exact ⟨by first | rfl | simp [h2], hB0⟩
  · have e : b = false := by cases b; rfl; exact absurd (hk.1 rfl).1.1 h1
    subst e
    clear hk
    go_enter Try.func59, Try.ntmps59
    go_wp2
    go_ret
    exact ⟨by first | rfl | simp [h1], hB0⟩
end
end Go.Proofs.Ytlelckdcmlpmdaa
/- loupelaw05: num, works. -/
namespace Go.Proofs.Ytlelckdcmlpmdaa
open Go Go.RowKit Lou

theorem rowPlan : RowTy Try.prog 90 2 := ⟨⟨_, Try.underlying90, rfl⟩, by kernel_rfl⟩
theorem num5_gives (e : Int) (w : World) : Calls Try.prog 60 #[.int .i64 e] w fun x w' => x = .returned (.int .i64 e) ∧ w = w' := by
  go_enter Try.func60, Try.ntmps60
  go_wp2
  go_ret
  exact ⟨rfl, rfl⟩
theorem Reg.gives_num5 (m : Int) (w : World) : Calls Try.prog 60 #[.int .i64 m] w fun e w' => ∃ v, e = .returned v ∧ Grow w w' ∧ v = .int .i64 m :=
  (num5_gives m w).mono (by rintro e w' ⟨rfl, rfl⟩; exact ⟨_, rfl, Grow.refl _, rfl⟩)
def head12 : List UInt8 := [0, 0, 0, 0, 0, 0, 0, 1, 0, 0, 0, 0, 0, 0, 0, 2, 0, 0, 0, 0, 0, 0, 0, 0]
theorem headB12 : headB 1 2 0 0 = head12 := by decide +kernel
set_option maxRecDepth 100000 in
set_option maxHeartbeats 4000000 in
theorem works5_gives (w : World) : Calls Try.prog 62 #[] w fun e w' => e = .returned (.bool true) ∧ Below w.heap.size w w' := by
  have H1 : ∀ W, Calls Try.prog 56 #[.agg #[.int .i64 3, .int .i64 4]] W fun e w' => e = .returned (.tuple #[.int .i64 61, .int .i64 0]) ∧ Below W.heap.size W w' := fun W => sectors_gives 3 4 W
  have H2 : ∀ W, Calls Try.prog 57 #[.agg #[.int .i64 3, .int .i64 4], .int .i64 2] W fun e w' => e = .returned (.tuple #[.int .i64 20, .int .i64 0]) ∧ Below W.heap.size W w' := fun W => frameAt_gives 3 4 2 W
  have H3 : ∀ W, Calls Try.prog 58 #[.agg #[.int .i64 3, .int .i64 4], .int .i64 0] W fun e w' => e = .returned (.tuple #[.int .i64 29, .int .i64 0]) ∧ Below W.heap.size W w' := fun W => pageAt_gives 3 4 0 W
  have H4 : ∀ W, Calls Try.prog 58 #[.agg #[.int .i64 3, .int .i64 4], .int .i64 4] W fun e w' => e = .returned (.tuple #[.int .i64 0, .int .i64 4]) ∧ Below W.heap.size W w' := fun W => pageAt_gives 3 4 4 W
  have H5 : ∀ W, Calls Try.prog 70 #[.agg #[.int .u64 1, .int .u64 2, .int .i64 0, .int .i64 0]] W (GivesBE W (twiceB head12) 0) := fun W => by
    have h := encodeHead_gives 1 2 0 0 W
    have e1 : hEnc 1 2 0 0 = twiceB head12 := by
      rw [← headB12]
      rfl
    rw [e1] at h
    exact h
  have hb0 := BlkIs.new w 90 #[.int .i64 3, .int .i64 4]
  go_enter Try.func62, Try.ntmps62
  go_wp2_with fail
  refine (H1 _).mono ?_
  rintro x W1 ⟨rfl, hB⟩
  have hB1 : Below w.heap.size w W1 := ((Below.refl _ w).alloc (Nat.le_refl _) _).trans (hB.mono (by simp))
  have hb1 := hb0.below hB hb0.lt
  clear hB hb0 H1
  go_wp2_with (first
    | (refine wp_loadW rfl 90 (.tmp 1) rfl w.heap.size rfl rowPlan (by assumption) (by rfl) ?_)
    | (go_at_call 57; refine (H2 _).mono ?_; rintro x W2 ⟨rfl, hB⟩; have hB2 := hB1.trans (hB.mono hB1.size); have hb2 := hb1.below hB hb1.lt; clear hB)
    | (go_at_call 58; (with_reducible refine (H3 _).mono ?_); rintro x W3 ⟨rfl, hB⟩; have hB3 := hB2.trans (hB.mono hB2.size); have hb3 := hb2.below hB hb2.lt; clear hB)
    | (go_at_call 58; (with_reducible refine (H4 _).mono ?_); rintro x W4 ⟨rfl, hB⟩; have hB4 := hB3.trans (hB.mono hB3.size); clear hB)
    | (go_at_call 70; (with_reducible refine (H5 _).mono ?_); rintro x W5 ⟨A, c, rfl, hin, hB⟩; have hB5 := hB4.trans (hB.mono hB4.size); clear hB))
  have hle := hin.le
  have hd : (twiceB head12).length = 64 := by rw [twiceB_length]; rfl
  have hd7 : ∀ h, ((twiceB head12)[7]'h) = 1 := by decide +kernel
  have hd15 : ∀ h, ((twiceB head12)[15]'h) = 2 := by decide +kernel
  have hd24 : (twiceB head12).take 24 = head12 := twiceB_take head12
  have hd28 : ((twiceB head12).drop 24).take (28 - 24) = fixL 4 (sumL head12) := by decide +kernel
  clear H2 H3 H4 H5 hb1 hb2 hb3 hB1 hB2 hB3 hB4
  generalize twiceB head12 = D at *
  obtain ⟨g, o, rfl, hg, hc⟩ := hin.lies (by omega)
  have hk7 : 7 < D.length := by omega
  have hk15 : 15 < D.length := by omega
  have hk24 : 24 ≤ D.length := by omega
  have hk28 : 28 ≤ D.length := by omega
  have hc7 : ∀ w', Grow W5 w' → w'.cell? ⟨g, o + 7, none⟩ = some (.int .u8 1) := fun w' hG => (hG.cell (p := ⟨g, o + 7, none⟩) hg).trans (by rw [hc 7 hk7, hd7]; rfl)
  have hc15 : ∀ w', Grow W5 w' → w'.cell? ⟨g, o + 15, none⟩ = some (.int .u8 2) := fun w' hG => (hG.cell (p := ⟨g, o + 15, none⟩) hg).trans (by rw [hc 15 hk15, hd15]; rfl)
  have hS32 := sumL_lt head12
  have hsum : ∀ w', Grow W5 w' → Calls Try.prog 37 #[.slice (some ⟨g, o, none⟩) (D.take 24).length c] w' fun e w2 => e = .returned (.int .u32 (sumL head12 : Int)) ∧ w' = w2 := fun w' hG => by
    have h := refSum_gives w' _ _ _ _ ((hin.below hG).take 24 c hk24 (by omega) (Nat.le_refl _))
    rw [hd24] at h ⊢
    exact h
  have hfix : ∀ w', Calls Try.prog 44 #[.int .u64 (sumL head12 : Int), .int .i64 4] w' (GivesB w' (fixL 4 (sumL head12))) := fun w' => refFixed_gives 4 (sumL head12) (by omega) (by omega) w'
  have hstr : ∀ w', Grow W5 w' → (convert 30 9 (.slice (cutA (some ⟨g, o, none⟩) c 24) ((D.drop 24).take (28 - 24)).length (c - 24))).run Try.prog w' = .ok (.string (str (fixL 4 (sumL head12)))) w' := fun w' hG => by
    have h := (((hin.below hG).drop 24 hk24).take (28 - 24) (c - 24) (by simp; omega) (by omega) (Nat.le_refl _)).string
    rw [hd28] at h ⊢
    exact h
  have hlen64 : ∀ {ρ : Operand → Value} {w : World} {o2 : Oper} {t : Tmp} {gg oo : Nat}, o2.op = .call { callee := .builtin .len, args := #[.tmp t], argTypes := #[30] } → ρ (.tmp t) = .slice (some ⟨gg, oo, none⟩) D.length c → (execOp ρ o2).run Try.prog w = .ok (.value (.int .i64 64)) w := fun ho h => by
    have hT : Try.prog.underlying 30 = some (.slice (Try.prog.elem 30)) := by kernel_rfl
    rw [hd] at h
    simp [execOp, ho, h, go_sem, resolve, invoke, run_len_slice _ _ _ _ _ _ hT]
  generalize sumL head12 = S at *
  clear hd hd7 hd15 hd24 hd28 hc
  open Reg in
  refine region_facts (by kernel_rfl) (by kernel_rfl) 96 rfl (by kernel_rfl)
    [(2, .val (.int .i64 61)), (3, .val (.int .i64 0)), (4, .val (.int .i64 20)), (5, .val (.int .i64 0)), (6, .val (.int .i64 29)), (7, .val (.int .i64 0)), (9, .val (.int .i64 4)), (10, .val (.slice (some ⟨g, o, none⟩) D.length c)), (11, .val (.int .i64 0))]
    [(38, .val (.int .i64 0)), (39, .val (.int .i64 0)), (40, .val (.int .i64 0)), (41, .val (.int .i64 0)), (42, .val (.int .i64 0)), (43, .val (.int .i64 0)), (44, .val (.int .i64 0)), (45, .val (.int .i64 0)), (46, .val (.int .i64 0)), (47, .val (.int .i64 0)), (48, .val (.int .i64 0)), (49, .val (.bool true)), (50, .val (.bool true)), (51, .val (.int .i64 61)), (52, .val (.bool true)), (53, .val (.bool true)), (54, .val (.bool true)), (55, .val (.int .i64 20)), (56, .val (.bool true)), (57, .val (.bool true)), (58, .val (.bool true)), (59, .val (.int .i64 29)), (60, .val (.bool true)), (61, .val (.bool true)), (62, .val (.bool true)), (63, .val (.int .i64 4)), (64, .val (.int .i64 4)), (65, .val (.bool true)), (66, .val (.bool true)), (67, .val (.bool true)), (68, .val (.slice (some ⟨g, o, none⟩) D.length c)), (69, .val (.int .i64 64)), (70, .val (.bool true)), (71, .val (.bool true)), (72, .val (.bool true)), (73, .val (.slice (some ⟨g, o, none⟩) D.length c)), (74, .val (.pointer (some ⟨g, o + 7, none⟩))), (75, .val (.int .u8 1)), (76, .val (.bool true)), (77, .val (.bool true)), (78, .val (.bool true)), (79, .val (.slice (some ⟨g, o, none⟩) D.length c)), (80, .val (.pointer (some ⟨g, o + 15, none⟩))), (81, .val (.int .u8 2)), (82, .val (.bool true)), (83, .val (.bool true)), (84, .val (.bool true)), (85, .val (.slice (some ⟨g, o, none⟩) D.length c)), (86, .val (.slice (cutA (some ⟨g, o, none⟩) c 24) ((D.drop 24).take (28 - 24)).length (c - 24))), (87, .val (.string (str (fixL 4 S)))), (88, .val (.slice (some ⟨g, o, none⟩) D.length c)), (89, .val (.slice (some ⟨g, o, none⟩) (D.take 24).length c)), (90, .val (.int .u32 (S : Int))), (91, .val (.int .u64 (S : Int))), (92, .res (fixL 4 S)), (93, .val (.string (str (fixL 4 S)))), (94, .val (.bool true)), (95, .val (.bool true)), (0, .val (.bool true))]
    ⟨rfl, rfl, rfl, rfl, rfl, rfl, rfl, rfl, rfl, trivial⟩ (by kernel_rfl)
    (allOk_cons (ok_none rfl (l_mvF 3 (.val (.int .i64 0)) (.inl rfl) (by kernel_rfl) (by kernel_rfl) (by kernel_rfl)))
    <| allOk_cons (ok_none rfl (l_call 60 _ _ rfl (enters_of Try.func60 (by kernel_rfl) rfl) #[.int .i64 0] (.val (.int .i64 0)) (args1 (hs 38 (.int .i64 0) (by kernel_rfl) (by kernel_rfl))) (fun w hg => gives_num5 _ w) (by kernel_rfl)))
    <| allOk_cons (ok_none rfl (l_mvF 5 (.val (.int .i64 0)) (.inl rfl) (by kernel_rfl) (by kernel_rfl) (by kernel_rfl)))
    <| allOk_cons (ok_none rfl (l_call 60 _ _ rfl (enters_of Try.func60 (by kernel_rfl) rfl) #[.int .i64 0] (.val (.int .i64 0)) (args1 (hs 40 (.int .i64 0) (by kernel_rfl) (by kernel_rfl))) (fun w hg => gives_num5 _ w) (by kernel_rfl)))
    <| allOk_cons (ok_none rfl (l_add (.tmp 39) (.tmp 41) _ _ .i64 0 0 0 rfl Try.underlying3 (hs 39 (.int .i64 0) (by kernel_rfl) (by kernel_rfl)) (hs 41 (.int .i64 0) (by kernel_rfl) (by kernel_rfl)) (by decide) (by kernel_rfl)))
    <| allOk_cons (ok_none rfl (l_mvF 7 (.val (.int .i64 0)) (.inl rfl) (by kernel_rfl) (by kernel_rfl) (by kernel_rfl)))
    <| allOk_cons (ok_none rfl (l_call 60 _ _ rfl (enters_of Try.func60 (by kernel_rfl) rfl) #[.int .i64 0] (.val (.int .i64 0)) (args1 (hs 43 (.int .i64 0) (by kernel_rfl) (by kernel_rfl))) (fun w hg => gives_num5 _ w) (by kernel_rfl)))
    <| allOk_cons (ok_none rfl (l_add (.tmp 42) (.tmp 44) _ _ .i64 0 0 0 rfl Try.underlying3 (hs 42 (.int .i64 0) (by kernel_rfl) (by kernel_rfl)) (hs 44 (.int .i64 0) (by kernel_rfl) (by kernel_rfl)) (by decide) (by kernel_rfl)))
    <| allOk_cons (ok_none rfl (l_mvF 11 (.val (.int .i64 0)) (.inl rfl) (by kernel_rfl) (by kernel_rfl) (by kernel_rfl)))
    <| allOk_cons (ok_none rfl (l_call 60 _ _ rfl (enters_of Try.func60 (by kernel_rfl) rfl) #[.int .i64 0] (.val (.int .i64 0)) (args1 (hs 46 (.int .i64 0) (by kernel_rfl) (by kernel_rfl))) (fun w hg => gives_num5 _ w) (by kernel_rfl)))
    <| allOk_cons (ok_none rfl (l_add (.tmp 45) (.tmp 47) _ _ .i64 0 0 0 rfl Try.underlying3 (hs 45 (.int .i64 0) (by kernel_rfl) (by kernel_rfl)) (hs 47 (.int .i64 0) (by kernel_rfl) (by kernel_rfl)) (by decide) (by kernel_rfl)))
    <| allOk_cons (ok_none rfl (l_eqi (.tmp 48) (.const (Go.Value.int Go.IntKind.i64 0)) _ _ .i64 (0) rfl Try.underlying3 (hs 48 (.int .i64 0) (by kernel_rfl) (by kernel_rfl)) (hc _) (by kernel_rfl)))
    <| allOk_cons (ok_none rfl (l_mvF 49 (.val (.bool true)) (.inl rfl) (by kernel_rfl) (by kernel_rfl) (by kernel_rfl)))
    <| allOk_cons (okg 12 true 50 rfl (by kernel_rfl) (by kernel_rfl) (by kernel_rfl) (l_mvF 2 (.val (.int .i64 61)) (.inl rfl) (by kernel_rfl) (by kernel_rfl) (by kernel_rfl)))
    <| allOk_cons (okg 12 true 50 rfl (by kernel_rfl) (by kernel_rfl) (by kernel_rfl) (l_eqi (.tmp 51) (.const (Go.Value.int Go.IntKind.i64 61)) _ _ .i64 (61) rfl Try.underlying3 (hs 51 (.int .i64 61) (by kernel_rfl) (by kernel_rfl)) (hc _) (by kernel_rfl)))
    <| allOk_cons (ok_none rfl (l_pick (.tmp 50) (.tmp 52) (.bool true) rfl (hs 50 (.bool true) (by kernel_rfl) (by kernel_rfl)) (hs 52 (.bool true) (by kernel_rfl) (by kernel_rfl)) (by kernel_rfl)))
    <| allOk_cons (ok_none rfl (l_mvF 53 (.val (.bool true)) (.inl rfl) (by kernel_rfl) (by kernel_rfl) (by kernel_rfl)))
    <| allOk_cons (okg 16 true 54 rfl (by kernel_rfl) (by kernel_rfl) (by kernel_rfl) (l_mvF 4 (.val (.int .i64 20)) (.inl rfl) (by kernel_rfl) (by kernel_rfl) (by kernel_rfl)))
    <| allOk_cons (okg 16 true 54 rfl (by kernel_rfl) (by kernel_rfl) (by kernel_rfl) (l_eqi (.tmp 55) (.const (Go.Value.int Go.IntKind.i64 20)) _ _ .i64 (20) rfl Try.underlying3 (hs 55 (.int .i64 20) (by kernel_rfl) (by kernel_rfl)) (hc _) (by kernel_rfl)))
    <| allOk_cons (ok_none rfl (l_pick (.tmp 54) (.tmp 56) (.bool true) rfl (hs 54 (.bool true) (by kernel_rfl) (by kernel_rfl)) (hs 56 (.bool true) (by kernel_rfl) (by kernel_rfl)) (by kernel_rfl)))
    <| allOk_cons (ok_none rfl (l_mvF 57 (.val (.bool true)) (.inl rfl) (by kernel_rfl) (by kernel_rfl) (by kernel_rfl)))
    <| allOk_cons (okg 20 true 58 rfl (by kernel_rfl) (by kernel_rfl) (by kernel_rfl) (l_mvF 6 (.val (.int .i64 29)) (.inl rfl) (by kernel_rfl) (by kernel_rfl) (by kernel_rfl)))
    <| allOk_cons (okg 20 true 58 rfl (by kernel_rfl) (by kernel_rfl) (by kernel_rfl) (l_eqi (.tmp 59) (.const (Go.Value.int Go.IntKind.i64 29)) _ _ .i64 (29) rfl Try.underlying3 (hs 59 (.int .i64 29) (by kernel_rfl) (by kernel_rfl)) (hc _) (by kernel_rfl)))
    <| allOk_cons (ok_none rfl (l_pick (.tmp 58) (.tmp 60) (.bool true) rfl (hs 58 (.bool true) (by kernel_rfl) (by kernel_rfl)) (hs 60 (.bool true) (by kernel_rfl) (by kernel_rfl)) (by kernel_rfl)))
    <| allOk_cons (ok_none rfl (l_mvF 61 (.val (.bool true)) (.inl rfl) (by kernel_rfl) (by kernel_rfl) (by kernel_rfl)))
    <| allOk_cons (okg 24 true 62 rfl (by kernel_rfl) (by kernel_rfl) (by kernel_rfl) (l_mvF 9 (.val (.int .i64 4)) (.inl rfl) (by kernel_rfl) (by kernel_rfl) (by kernel_rfl)))
    <| allOk_cons (okg 24 true 62 rfl (by kernel_rfl) (by kernel_rfl) (by kernel_rfl) (l_call 60 _ _ rfl (enters_of Try.func60 (by kernel_rfl) rfl) #[.int .i64 4] (.val (.int .i64 4)) (args1 (hs 63 (.int .i64 4) (by kernel_rfl) (by kernel_rfl))) (fun w hg => gives_num5 _ w) (by kernel_rfl)))
    <| allOk_cons (okg 24 true 62 rfl (by kernel_rfl) (by kernel_rfl) (by kernel_rfl) (l_eqi (.tmp 64) (.const (Go.Value.int Go.IntKind.i64 4)) _ _ .i64 (4) rfl Try.underlying3 (hs 64 (.int .i64 4) (by kernel_rfl) (by kernel_rfl)) (hc _) (by kernel_rfl)))
    <| allOk_cons (ok_none rfl (l_pick (.tmp 62) (.tmp 65) (.bool true) rfl (hs 62 (.bool true) (by kernel_rfl) (by kernel_rfl)) (hs 65 (.bool true) (by kernel_rfl) (by kernel_rfl)) (by kernel_rfl)))
    <| allOk_cons (ok_none rfl (l_mvF 66 (.val (.bool true)) (.inl rfl) (by kernel_rfl) (by kernel_rfl) (by kernel_rfl)))
    <| allOk_cons (okg 29 true 67 rfl (by kernel_rfl) (by kernel_rfl) (by kernel_rfl) (l_mvF 10 (.val (.slice (some ⟨g, o, none⟩) D.length c)) (.inl rfl) (by kernel_rfl) (by kernel_rfl) (by kernel_rfl)))
    <| allOk_cons (okg 29 true 67 rfl (by kernel_rfl) (by kernel_rfl) (by kernel_rfl) (l_run1W (.tmp 68) (.val (.int .i64 64)) (.slice (some ⟨g, o, none⟩) D.length c) (hs 68 _ (by kernel_rfl) (by kernel_rfl)) (fun ρ w hg h => ⟨_, w, hlen64 rfl h, Grow.refl _, rfl⟩) (by kernel_rfl)))
    <| allOk_cons (okg 29 true 67 rfl (by kernel_rfl) (by kernel_rfl) (by kernel_rfl) (l_eqi (.tmp 69) (.const (Go.Value.int Go.IntKind.i64 64)) _ _ .i64 (64) rfl Try.underlying3 (hs 69 (.int .i64 64) (by kernel_rfl) (by kernel_rfl)) (hc _) (by kernel_rfl)))
    <| allOk_cons (ok_none rfl (l_pick (.tmp 67) (.tmp 70) (.bool true) rfl (hs 67 (.bool true) (by kernel_rfl) (by kernel_rfl)) (hs 70 (.bool true) (by kernel_rfl) (by kernel_rfl)) (by kernel_rfl)))
    <| allOk_cons (ok_none rfl (l_mvF 71 (.val (.bool true)) (.inl rfl) (by kernel_rfl) (by kernel_rfl) (by kernel_rfl)))
    <| allOk_cons (okg 34 true 72 rfl (by kernel_rfl) (by kernel_rfl) (by kernel_rfl) (l_mvF 10 (.val (.slice (some ⟨g, o, none⟩) D.length c)) (.inl rfl) (by kernel_rfl) (by kernel_rfl) (by kernel_rfl)))
    <| allOk_cons (okg 34 true 72 rfl (by kernel_rfl) (by kernel_rfl) (by kernel_rfl) (l_idxS (.tmp 73) (.const (Go.Value.int Go.IntKind.i64 7)) g o D.length c 7 hk7 rfl (hs 73 (.slice (some ⟨g, o, none⟩) D.length c) (by kernel_rfl) (by kernel_rfl)) (hc _) (by kernel_rfl)))
    <| allOk_cons (okg 34 true 72 rfl (by kernel_rfl) (by kernel_rfl) (by kernel_rfl) (l_load (.tmp 74) (⟨g, o + 7, none⟩) _ (.int .u8 1) (by intro w; simp [go_sem, Try.underlying5]) rfl (hs 74 (.pointer (some ⟨g, o + 7, none⟩)) (by kernel_rfl) (by kernel_rfl)) (fun w hg => hc7 w hg) (by kernel_rfl)))
    <| allOk_cons (okg 34 true 72 rfl (by kernel_rfl) (by kernel_rfl) (by kernel_rfl) (l_eqi (.tmp 75) (.const (Go.Value.int Go.IntKind.u8 1)) _ _ .u8 (1) rfl Try.underlying5 (hs 75 (.int .u8 1) (by kernel_rfl) (by kernel_rfl)) (hc _) (by kernel_rfl)))
    <| allOk_cons (ok_none rfl (l_pick (.tmp 72) (.tmp 76) (.bool true) rfl (hs 72 (.bool true) (by kernel_rfl) (by kernel_rfl)) (hs 76 (.bool true) (by kernel_rfl) (by kernel_rfl)) (by kernel_rfl)))
    <| allOk_cons (ok_none rfl (l_mvF 77 (.val (.bool true)) (.inl rfl) (by kernel_rfl) (by kernel_rfl) (by kernel_rfl)))
    <| allOk_cons (okg 40 true 78 rfl (by kernel_rfl) (by kernel_rfl) (by kernel_rfl) (l_mvF 10 (.val (.slice (some ⟨g, o, none⟩) D.length c)) (.inl rfl) (by kernel_rfl) (by kernel_rfl) (by kernel_rfl)))
    <| allOk_cons (okg 40 true 78 rfl (by kernel_rfl) (by kernel_rfl) (by kernel_rfl) (l_idxS (.tmp 79) (.const (Go.Value.int Go.IntKind.i64 15)) g o D.length c 15 hk15 rfl (hs 79 (.slice (some ⟨g, o, none⟩) D.length c) (by kernel_rfl) (by kernel_rfl)) (hc _) (by kernel_rfl)))
    <| allOk_cons (okg 40 true 78 rfl (by kernel_rfl) (by kernel_rfl) (by kernel_rfl) (l_load (.tmp 80) (⟨g, o + 15, none⟩) _ (.int .u8 2) (by intro w; simp [go_sem, Try.underlying5]) rfl (hs 80 (.pointer (some ⟨g, o + 15, none⟩)) (by kernel_rfl) (by kernel_rfl)) (fun w hg => hc15 w hg) (by kernel_rfl)))
    <| allOk_cons (okg 40 true 78 rfl (by kernel_rfl) (by kernel_rfl) (by kernel_rfl) (l_eqi (.tmp 81) (.const (Go.Value.int Go.IntKind.u8 2)) _ _ .u8 (2) rfl Try.underlying5 (hs 81 (.int .u8 2) (by kernel_rfl) (by kernel_rfl)) (hc _) (by kernel_rfl)))
    <| allOk_cons (ok_none rfl (l_pick (.tmp 78) (.tmp 82) (.bool true) rfl (hs 78 (.bool true) (by kernel_rfl) (by kernel_rfl)) (hs 82 (.bool true) (by kernel_rfl) (by kernel_rfl)) (by kernel_rfl)))
    <| allOk_cons (ok_none rfl (l_mvF 83 (.val (.bool true)) (.inl rfl) (by kernel_rfl) (by kernel_rfl) (by kernel_rfl)))
    <| allOk_cons (okg 46 true 84 rfl (by kernel_rfl) (by kernel_rfl) (by kernel_rfl) (l_mvF 10 (.val (.slice (some ⟨g, o, none⟩) D.length c)) (.inl rfl) (by kernel_rfl) (by kernel_rfl) (by kernel_rfl)))
    <| allOk_cons (okg 46 true 84 rfl (by kernel_rfl) (by kernel_rfl) (by kernel_rfl) (l_run3W (.tmp 85) (.const (.int .i64 24)) (.const (.int .i64 28)) (.val (.slice (cutA (some ⟨g, o, none⟩) c 24) ((D.drop 24).take (28 - 24)).length (c - 24))) (.slice (some ⟨g, o, none⟩) D.length c) (.int .i64 ((24 : Nat) : Int)) (.int .i64 ((28 : Nat) : Int)) (hs 85 _ (by kernel_rfl) (by kernel_rfl)) (hc _) (hc _) (fun ρ w hg h1 h2 h3 => ⟨_, w, cut_mid rfl h1 h2 h3 (by decide) hk28 hle, Grow.refl _, rfl⟩) (by kernel_rfl)))
    <| allOk_cons (okg 46 true 84 rfl (by kernel_rfl) (by kernel_rfl) (by kernel_rfl) (l_convS (.tmp 86) _ _ (.slice (cutA (some ⟨g, o, none⟩) c 24) ((D.drop 24).take (28 - 24)).length (c - 24)) (.string (str (fixL 4 S))) rfl (hs 86 (.slice (cutA (some ⟨g, o, none⟩) c 24) ((D.drop 24).take (28 - 24)).length (c - 24)) (by kernel_rfl) (by kernel_rfl)) (fun w hg => hstr w hg) (by kernel_rfl)))
    <| allOk_cons (okg 46 true 84 rfl (by kernel_rfl) (by kernel_rfl) (by kernel_rfl) (l_mvF 10 (.val (.slice (some ⟨g, o, none⟩) D.length c)) (.inl rfl) (by kernel_rfl) (by kernel_rfl) (by kernel_rfl)))
    <| allOk_cons (okg 46 true 84 rfl (by kernel_rfl) (by kernel_rfl) (by kernel_rfl) (l_run2W (.tmp 88) (.const (.int .i64 24)) (.val (.slice (some ⟨g, o, none⟩) (D.take 24).length c)) (.slice (some ⟨g, o, none⟩) D.length c) (.int .i64 ((24 : Nat) : Int)) (hs 88 _ (by kernel_rfl) (by kernel_rfl)) (hc _) (fun ρ w hg h1 h2 => ⟨_, w, cut_take rfl h1 h2 hk24 hle, Grow.refl _, rfl⟩) (by kernel_rfl)))
    <| allOk_cons (okg 46 true 84 rfl (by kernel_rfl) (by kernel_rfl) (by kernel_rfl) (l_call 37 _ _ rfl (enters_of Try.func37 (by kernel_rfl) rfl) #[.slice (some ⟨g, o, none⟩) (D.take 24).length c] (.val (.int .u32 (S : Int))) (args1 (hs 89 (.slice (some ⟨g, o, none⟩) (D.take 24).length c) (by kernel_rfl) (by kernel_rfl))) (fun w hg => gives_same (hsum w hg)) (by kernel_rfl)))
    <| allOk_cons (okg 46 true 84 rfl (by kernel_rfl) (by kernel_rfl) (by kernel_rfl) (l_convS (.tmp 90) _ _ (.int .u32 (S : Int)) (.int .u64 (S : Int)) rfl (hs 90 (.int .u32 (S : Int)) (by kernel_rfl) (by kernel_rfl)) (fun w hg => conv_45_41 S hS32 w) (by kernel_rfl)))
    <| allOk_cons (okg 46 true 84 rfl (by kernel_rfl) (by kernel_rfl) (by kernel_rfl) (l_call 44 _ _ rfl (enters_of Try.func44 (by kernel_rfl) rfl) #[.int .u64 (S : Int), (Go.Value.int Go.IntKind.i64 4)] (.res (fixL 4 S)) (args2 (hs 91 (.int .u64 (S : Int)) (by kernel_rfl) (by kernel_rfl)) (hc _)) (fun w hg => gives_res (hfix w)) (by kernel_rfl)))
    <| allOk_cons (okg 46 true 84 rfl (by kernel_rfl) (by kernel_rfl) (by kernel_rfl) (l_conv 92 (fixL 4 S) rfl (by kernel_rfl) (by kernel_rfl) (by kernel_rfl)))
    <| allOk_cons (okg 46 true 84 rfl (by kernel_rfl) (by kernel_rfl) (by kernel_rfl) (l_eqs (.tmp 87) (.tmp 93) _ _ ((str (fixL 4 S))) rfl Try.underlying9 (hs 87 (.string (str (fixL 4 S))) (by kernel_rfl) (by kernel_rfl)) (hs 93 (.string (str (fixL 4 S))) (by kernel_rfl) (by kernel_rfl)) (by kernel_rfl)))
    <| allOk_cons (ok_none rfl (l_pick (.tmp 84) (.tmp 94) (.bool true) rfl (hs 84 (.bool true) (by kernel_rfl) (by kernel_rfl)) (hs 94 (.bool true) (by kernel_rfl) (by kernel_rfl)) (by kernel_rfl)))
    <| allOk_cons (ok_none rfl (l_mvF 95 (.val (.bool true)) (.inr rfl) (by kernel_rfl) (by kernel_rfl) (by kernel_rfl)))
    <| allOk_nil) ?_
  intro a w6 _ hdef hG hF
  have hr : a.eval (.tmp 0) = .bool true := hF 0
  have hB6 : Below w.heap.size w w6 := hB5.trans (hG.mono hB5.size)
  clear hF
  simp only [Exit.then]
  refine ‹∀ (a : Act) (w : World), Code.wp Try.prog Code.ret _ a w → _› a w6 ?_
  refine Reg.ends1 0 (.bool true) rfl hr hdef ?_
  exact ⟨rfl, hB6⟩
end Go.Proofs.Ytlelckdcmlpmdaa
