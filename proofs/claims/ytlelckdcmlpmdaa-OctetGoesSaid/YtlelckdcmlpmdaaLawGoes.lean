/- loupelaw03.OctetGoes: the walk. -/
import Derived.Test.YtlelckdcmlpmdaaOctGoes
import Derived.Test.YtlelckdcmlpmdaaOctWorks
namespace Go.Proofs.Ytlelckdcmlpmdaa
open Go Go.RowKit Lou Go.Shelf
attribute [local go_sem] Oper.semAt_some

/-- The law's own blocks. -/
structure Gs (s r q : Nat) (vb : Value) (cut : Int) (i p k : Int) (W : World) : Prop where
  b : BlkIs W s 30 #[vb]
  c : BlkIs W (s + 1) 3 #[.int .i64 cut]
  o : BlkIs W (s + 2) 4 #[.bool false]
  r : BlkIs W r 3 #[.int .i64 i]
  p : BlkIs W q 3 #[.int .i64 p]
  k : BlkIs W (q + 1) 3 #[.int .i64 k]
theorem Gs.kept {s r q : Nat} {vb : Value} {cut i p k : Int} {W W' : World} {row : Option Nat} (h : Gs s r q vb cut i p k W) (hg : W.grownBy W' row) (hr : ∀ r, row = some r → ∃ o : Obj, W.heap[r]? = some o ∧ o.isCells = false) : Gs s r q vb cut i p k W' :=
  ⟨h.b.kept hg hr, h.c.kept hg hr, h.o.kept hg hr, h.r.kept hg hr, h.p.kept hg hr, h.k.kept hg hr⟩

theorem run_equalIn_func_nil {P : Program} {ps rs : Array TypeId} {vd : Bool} (d : Nat) (t : TypeId) (w : World) (f : Fn) (xs ys : Array Value) (h : P.underlying t = some (.func ps rs vd)) : (Op.equalIn (d + 1) t (.func f xs ys) .nilFunc).run P w = .ok false w := by
  simp [Op.equalIn, run_underlying h, Result.andThen]
@[local go_sem] theorem run_eql_func_nil (w : World) (f : Fn) (xs ys : Array Value) : (binOp .eql 49 (.func f xs ys) .nilFunc).run Try.prog w = .ok (.bool false) w := by
  have h := run_equalIn_func_nil (P := Try.prog) 9999 49 w f xs ys Try.underlying49
  have e : binOp .eql 49 (.func f xs ys) .nilFunc = (do pure (.bool (← Op.equalIn (9999 + 1) 49 (.func f xs ys) .nilFunc))) := rfl
  rw [e]
  simp only [Sem.run_bind, h, Result.andThen, Sem.run_pure]
theorem wpIn_by_stopB {F : Fence} {n id : Nat} {P : Program} {C : Code} {Q : Exit → Act → World → Prop} {a0 : Act} {w0 : World} (S : Act → Act → World → Prop) (h1 : ∀ Q' : Exit → Act → World → Prop, (∀ a w, S a0 a w → Q' .normal a w) → (∀ a w, S a0 a w → Q' (.exit id) a w) → C.wpIn F n P Q' a0 w0) (h2 : ∀ a w, S a0 a w → Q .normal a w) : C.wpIn F n P (Exit.inBlock id Q) a0 w0 :=
  h1 _ h2 (fun a w h => by
    have := h2 a w h
    simpa [Exit.inBlock] using this)
theorem putObj_other (V : World) (D : Nat) (o : Obj) {g : Nat} (h : D ≠ g) : (V.putObj D o).heap[g]? = V.heap[g]? := by
  simp [World.putObj, Array.getElem?_setIfInBounds, h]
/-- A row that holds no cells, elsewhere, stays as it is. -/
theorem ownFrom_row {β : Type} {D : Nat} {W : World} {o : Obj} (h : W.heap[D]? = some o) : OwnFrom W.heap.size (fun (_ : β) W' => W'.heap[D]? = some o) := by
  intro s A B row hs hg hr
  have hD : D < A.heap.size := (Array.getElem?_eq_some_iff.1 hs).1
  refine (hg.block D hD (fun e => ?_)).trans hs
  have := (hr D e.symm).1
  have := (Array.getElem?_eq_some_iff.1 h).1
  omega
theorem results_cell1 {fn : Func} {P : Program} {a : Act} {w : World} {v : Value} {p : Addr} {t : TypeId} (k : Tmp) (h : fn.results = #[.cell k t]) (hk : a.eval (.tmp k) = .pointer (some p)) (hagg : (isAgg t).run P w = .ok false w) (hv : w.cell? p = some v) : (results fn a.tmps).run P w = .ok v w := by
  have e : a.tmps.getD k undef = .pointer (some p) := hk
  unfold results
  simp only [h]
  simp [← Array.getD_eq_getD_getElem?, e, loadVar, asAddr, hagg, hv, Result.andThen]
theorem Gs.step {s r q : Nat} {vb : Value} {cut i p k : Int} {W : World} (h : Gs s r q vb cut i p k W) (h1 : s + 2 < q) (h2 : r ≠ q) (h3 : r ≠ q + 1) (p' k' : Int) :
    Gs s r q vb cut i p' k' ((W.setCell ⟨q, 0, none⟩ (.int .i64 p')).setCell ⟨q + 1, 0, none⟩ (.int .i64 k')) :=
  ⟨(h.b.other (by simp; omega) _).other (by simp; omega) _, (h.c.other (by simp; omega) _).other (by simp; omega) _, (h.o.other (by simp; omega) _).other (by simp; omega) _,
    (h.r.other (by simpa using h2) _).other (by simpa using h3) _, (h.p.set 0 _).other (by simp) _, (h.k.other (by simp) _).set 0 _⟩
set_option maxRecDepth 100000 in
set_option maxHeartbeats 4000000 in
theorem lawGoes_long (w : World) (A : Option Addr) (c : Nat) (l : List UInt8) (cut : Int) (h : InB w w.heap.size A c l) (hl : 200 < l.length) :
    Calls Try.prog 5 #[.slice A l.length c, .int .i64 cut] w fun e w' => e = .returned (.bool true) ∧ Below w.heap.size w w' := by
  have hle := h.le
  have hmax := h.max
  go_enter Try.func5, Try.ntmps5
  have b2 : BlkIs (((w.alloc (.cells #[.slice A l.length c] 30)).alloc (.cells #[.int .i64 cut] 3)).alloc (.cells #[.bool false] 4)) (w.heap.size + 1 + 1) 4 #[.bool false] := by
    have := BlkIs.new ((w.alloc (.cells #[.slice A l.length c] 30)).alloc (.cells #[.int .i64 cut] 3)) 4 #[.bool false]
    rwa [World.size_alloc, World.size_alloc] at this
  have hB0 : Below w.heap.size w (((w.alloc (.cells #[.slice A l.length c] 30)).alloc (.cells #[.int .i64 cut] 3)).alloc (.cells #[.bool false] 4)) :=
    (((Below.refl _ w).alloc (Nat.le_refl _) _).alloc (by simp) _).alloc (by simp; omega) _
  go_wp2_with (go_at_call 27; refine (works3_gives _).mono ?_; rintro e w' ⟨rfl, hB⟩; have b3 := b2.below hB (by simp); have hcb := b3.boxed; have hfb := b3.free 0)
  refine bodyPost_ret_by (results_cell1 (p := ⟨w.heap.size + 1 + 1, 0, none⟩) (v := .bool true) 4 rfl rfl ?_ ?_) rfl ⟨rfl, ?_⟩
  · simp [go_sem]
  · exact (b3.set 0 (.bool true)).boxed
  · exact (hB0.trans (hB.mono hB0.size)).setCell (p := ⟨w.heap.size + 1 + 1, 0, none⟩) (by simp; omega) _

set_option maxRecDepth 100000 in
set_option maxHeartbeats 4000000 in
theorem lawGoes_in (n : Nat) (hn : 6 ≤ n) (w : World) (A : Option Addr) (c : Nat) (l : List UInt8) (cut : Int) (h : InB w w.heap.size A c l) (hl : l.length ≤ 200) :
    CallsIn Fence.wide n Try.prog 5 #[.slice A l.length c, .int .i64 cut] w fun e w' => e = .returned (.bool true) ∧ Below w.heap.size w w' := by
  have hle := h.le
  have hmax := h.max
  have h1 : 1 ≤ n := by omega
  refine callsIn_of_wp_marks Try.func5 rfl trivial ?_ rfl
  simp only [Try.ntmps5, List.size_toArray, List.length_cons, List.length_nil, Nat.reduceAdd, Nat.reduceSub, Array.replicate_succ, Array.replicate_zero, List.push_toArray, List.append_toArray, List.nil_append, List.cons_append]
  gi_wp2_with (refine ⟨trivial, ?_⟩; gi_at_call 30; refine (numbers_in (n - 1) _ _ _ _).mono ?_; rintro e w' ⟨rfl, rfl⟩)
  refine wpIn_loop_rounds 3 ?_
  rw [roundsIn_succ]
  gi_wp2
  have b0 := ((((((BlkIs.new w 30 #[.slice A l.length c]).alloc (.cells #[.int .i64 cut] 3)).alloc (.cells #[.bool false] 4)).alloc (.cells #[.slice A l.length c] 30)).alloc (.cells #[.int .i64 0] 3)).alloc (.cells #[.int .i64 0] 3)).alloc (.cells #[.int .i64 0] 3)
  have b1 := (((((BlkIs.new (w.alloc (.cells #[.slice A l.length c] 30)) 3 #[.int .i64 cut]).alloc (.cells #[.bool false] 4)).alloc (.cells #[.slice A l.length c] 30)).alloc (.cells #[.int .i64 0] 3)).alloc (.cells #[.int .i64 0] 3)).alloc (.cells #[.int .i64 0] 3)
  have b2 := ((((BlkIs.new ((w.alloc (.cells #[.slice A l.length c] 30)).alloc (.cells #[.int .i64 cut] 3)) 4 #[.bool false]).alloc (.cells #[.slice A l.length c] 30)).alloc (.cells #[.int .i64 0] 3)).alloc (.cells #[.int .i64 0] 3)).alloc (.cells #[.int .i64 0] 3)
  have hB4w : Below w.heap.size w ((((w.alloc (.cells #[.slice A l.length c] 30)).alloc (.cells #[.int .i64 cut] 3)).alloc (.cells #[.bool false] 4)).alloc (.cells #[.slice A l.length c] 30)) :=
    ((((Below.refl _ w).alloc (Nat.le_refl _) _).alloc (by simp) _).alloc (by simp; omega) _).alloc (by simp; omega) _
  have hs4 : ((((w.alloc (.cells #[.slice A l.length c] 30)).alloc (.cells #[.int .i64 cut] 3)).alloc (.cells #[.bool false] 4)).alloc (.cells #[.slice A l.length c] 30)).heap.size = w.heap.size + 1 + 1 + 1 + 1 := by simp
  have hbk4 := BlkIs.new (((w.alloc (.cells #[.slice A l.length c] 30)).alloc (.cells #[.int .i64 cut] 3)).alloc (.cells #[.bool false] 4)) 30 #[.slice A l.length c]
  have hs3 : (((w.alloc (.cells #[.slice A l.length c] 30)).alloc (.cells #[.int .i64 cut] 3)).alloc (.cells #[.bool false] 4)).heap.size = w.heap.size + 1 + 1 + 1 := by simp
  rw [hs3] at hbk4
  rw [World.size_alloc] at b1
  rw [World.size_alloc, World.size_alloc] at b2
  generalize ((((w.alloc (.cells #[.slice A l.length c] 30)).alloc (.cells #[.int .i64 cut] 3)).alloc (.cells #[.bool false] 4)).alloc (.cells #[.slice A l.length c] 30)) = W4 at *
  have hin4 : InB W4 (w.heap.size + 1 + 1 + 1 + 1) A c l := (h.below hB4w).more (by omega)
  have b4 := ((BlkIs.new W4 3 #[.int .i64 0]).alloc (.cells #[.int .i64 0] 3)).alloc (.cells #[.int .i64 0] 3)
  have b5 := (BlkIs.new (W4.alloc (.cells #[.int .i64 0] 3)) 3 #[.int .i64 0]).alloc (.cells #[.int .i64 0] 3)
  have b6 := BlkIs.new ((W4.alloc (.cells #[.int .i64 0] 3)).alloc (.cells #[.int .i64 0] 3)) 3 #[.int .i64 0]
  rw [hs4] at b4
  rw [World.size_alloc, hs4] at b5
  rw [World.size_alloc, World.size_alloc, hs4] at b6
  have hB40 : Below (w.heap.size + 1 + 1 + 1 + 1) W4 (((W4.alloc (.cells #[.int .i64 0] 3)).alloc (.cells #[.int .i64 0] 3)).alloc (.cells #[.int .i64 0] 3)) :=
    (((Below.refl _ _).alloc (by omega) _).alloc (by simp; omega) _).alloc (by simp; omega) _
  have hsz0' : (((W4.alloc (.cells #[.int .i64 0] 3)).alloc (.cells #[.int .i64 0] 3)).alloc (.cells #[.int .i64 0] 3)).heap.size = w.heap.size + 1 + 1 + 1 + 1 + 1 + 1 + 1 := by simp; omega
  generalize (((W4.alloc (.cells #[.int .i64 0] 3)).alloc (.cells #[.int .i64 0] 3)).alloc (.cells #[.int .i64 0] 3)) = W0 at *
  have hsz0 : w.heap.size + 1 + 1 + 1 + 1 ≤ W0.heap.size := by omega
  have hbox0 := (hbk4.below hB40 (by omega)).boxed
  have hGs0 : Gs w.heap.size (w.heap.size + 1 + 1 + 1 + 1) (w.heap.size + 1 + 1 + 1 + 1 + 1) (.slice A l.length c) cut 0 (0 : Nat) ([] : List (Nat × Nat)).length W0 := ⟨b0, b1, b2, b4, b5, b6⟩
  clear b0 b1 b2 b4 b5 b6 hs3 hsz0'
  replace hs4 : w.heap.size + 1 + 1 + 1 + 1 ≤ W4.heap.size := by omega
  obtain ⟨q0, hq0⟩ : ∃ q, q = w.heap.size + 1 + 1 + 1 + 1 + 1 := ⟨_, rfl⟩
  obtain ⟨r0, hr0⟩ : ∃ r, r = w.heap.size + 1 + 1 + 1 + 1 := ⟨_, rfl⟩
  rw [← hq0, ← hr0] at hGs0
  rw [← hq0, ← hr0]
  have h4r0 : w.heap.size + 1 + 1 + 1 + 1 ≤ r0 := by omega
  have hrq0 : r0 + 1 ≤ q0 := by omega
  clear hq0 hr0
  -- ROUND 0 BEGINS
  refine wpIn_by_stopB (fun a0 a W => ∃ (D p k : Nat), a = { a0 with defers := { target := .collected D, args := #[] } :: a0.defers } ∧ W.heap[D]? = some (.deferred (some [])) ∧ W0.heap.size ≤ D ∧ p ≤ l.length ∧ ((0 : Int) = 1 → p < l.length → rd (l.drop p) = none) ∧
    Gs w.heap.size r0 q0 (.slice A l.length c) cut 0 p k W ∧ Below (w.heap.size + 1 + 1 + 1 + 1) W4 W) ?_ ?_
  · intro Q' hQ hQ2
    refine wpIn_rangeFunc_ownG rfl h1 (gf := 101) (lb := #[.pointer (some ⟨w.heap.size + 1 + 1 + 1, 0, none⟩)]) rfl trivial (enters_of Try.func101 (by kernel_rfl) rfl)
      (numbers_stops (w0 := W4) (n₀ := w.heap.size + 1 + 1 + 1 + 1) (n - 1) (by omega) (w.heap.size + 1 + 1 + 1) A c l hin4 W0 hB40 (by omega) hsz0 hbox0) belowK_t (belowK_b hsz0) (Below.refl _ _) (fun _ => rfl)
      (fun pre W => (∃ p : Nat, Run l pre p ∧ Gs w.heap.size r0 q0 (.slice A l.length c) cut 0 p pre.length W) ∧ Below (w.heap.size + 1 + 1 + 1 + 1) W4 W)
      (fun cd pre W => (cd = .ret ∧ ¬ ∃ p, Run l pre p) ∨ (cd = .exit 2 ∧ ((∃ p : Nat, Run l pre p ∧ Gs w.heap.size r0 q0 (.slice A l.length c) cut 0 p pre.length W) ∧ Below (w.heap.size + 1 + 1 + 1 + 1) W4 W)))
      ?own0 ?own20 ?start0 ?act0 ?assign0 ?body0 ?done0 ?stop0
    case own0 => exact OwnFrom.and (Own.from (fun s A B row hs hg hr => by obtain ⟨p, h1, h2⟩ := hs; exact ⟨p, h1, h2.kept hg hr⟩) _) (ownFrom_below hs4 (by omega))
    case own20 =>
      rintro cd s A B row (⟨e, h⟩ | ⟨e, ⟨p, h2, h3⟩, h4⟩) hg hr
      · exact .inl ⟨e, h⟩
      · exact .inr ⟨e, ⟨p, h2, h3.kept hg (fun r e => (hr r e).2)⟩, ownFrom_below (β := Unit) hs4 (by omega) () A B row h4 hg hr⟩
    case start0 => exact ⟨⟨0, .nil, hGs0⟩, hB40⟩
    case assign0 =>
      intro l1 x W K hK
      gi_wp2
      exact hK
    case body0 =>
      rintro l1 pre x W ⟨⟨p, hrun, hG⟩, hBW⟩ hlt
      have hp := hrun.le
      have h11 : 1 ≤ n - 1 - 1 := by omega
      have hcb := hG.b.boxed
      have hcc := hG.c.boxed
      have hco := hG.o.boxed
      have hcr := hG.r.boxed
      have hcp := hG.p.boxed
      have hck := hG.k.boxed
      have hfo := hG.o.free 0
      have hfp := hG.p.free 0
      have hfk := hG.k.free 0
      have hn1 : ¬ r0 = q0 := by omega
      have hn2 : ¬ r0 = q0 + 1 := by omega
      have hn3 : ¬ w.heap.size + 1 = q0 := by omega
      have hn4 : ¬ w.heap.size + 1 = q0 + 1 := by omega
      have hn3' : ¬ w.heap.size + 1 + 1 = q0 := by omega
      have hn4' : ¬ w.heap.size + 1 + 1 = q0 + 1 := by omega
      have hcut : (if c = p then A else Option.map (fun x => x.add p) A) = cutA A c p := rfl
      have hinW : InB W W.heap.size A c l := (h.below (hB4w.trans (hBW.mono (by omega)))).more (by have := hBW.size; omega)
      have H := refReadNumber_gives W W.heap.size _ _ _ (hinW.drop p hp.2)
      rw [List.length_drop] at H
      have hwr : ∀ u : Nat, u ≤ l.length - p → IntKind.i64.wrap ((p : Int) + (u : Int)) = (p : Int) + (u : Int) := fun u hu => wrap_i64_id' _ (by omega) (by omega)
      have hwk : IntKind.i64.wrap ((pre.length : Int) + 1) = (pre.length : Int) + 1 := wrap_i64_id' _ (by omega) (by omega)
      obtain ⟨x1, x2⟩ := x
      rcases hrd : rd (l.drop p) with _ | ⟨v, u⟩
      · obtain ⟨e, he, hv⟩ := rdV_none' hrd
        rw [hv] at H
        gi_wp2_with (refine ⟨trivial, ?_⟩; gi_at_call 31; refine (CallsIn.inRound l1 (callsIn_wide.2 H)).mono ?_; rintro e w' ⟨rfl, rfl⟩)
        exact ⟨(KeepsOthers.setCell _ _ _).from _, .inl ⟨rfl, fun ⟨q, hq⟩ => by
          obtain ⟨u, _, h2, _⟩ := hrun.next hq
          rw [hrd] at h2
          cases h2⟩⟩
      · have hbd := (rd_bound hrd).2
        rw [List.length_drop] at hbd
        have hcm : cutA A c p = Option.map (fun x => x.add p) A := if_neg (by omega)
        rw [rdV_some' hrd, hcm] at H
        clear hcm hcut
        have hcne : ¬ c = p := by omega
        have hwu := hwr u hbd.2
        clear hwr
        by_cases e1 : x1 = p
        · subst e1
          by_cases e2 : x2 = v
          · subst e2
            by_cases hc : cut ≤ (pre.length : Int) + 1
            · gi_wp2_with (refine ⟨trivial, ?_⟩; gi_at_call 31; refine (CallsIn.inRound l1 (callsIn_wide.2 H)).mono ?_; rintro e w' ⟨rfl, rfl⟩)
              exact ⟨((KeepsOthers.setCell _ _ _).trans (KeepsOthers.setCell _ _ _)).from _, .inr ⟨rfl, ⟨⟨x1 + u, .snoc hrun hrd, by rw [show (((pre ++ [(x1, x2)]).length : Nat) : Int) = (pre.length : Int) + 1 from by simp, show ((x1 + u : Nat) : Int) = (x1 : Int) + (u : Int) from by simp]; exact hG.step (by omega) (by omega) (by omega) _ _⟩, (hBW.setCell (by simp; omega) _).setCell (by simp; omega) _⟩⟩⟩
            · gi_wp2_with (refine ⟨trivial, ?_⟩; gi_at_call 31; refine (CallsIn.inRound l1 (callsIn_wide.2 H)).mono ?_; rintro e w' ⟨rfl, rfl⟩)
              exact ⟨((KeepsOthers.setCell _ _ _).trans (KeepsOthers.setCell _ _ _)).from _, ((Below.refl _ _).setCell (by simp; omega) _).setCell (by simp; omega) _, ⟨⟨x1 + u, .snoc hrun hrd, by rw [show (((pre ++ [(x1, x2)]).length : Nat) : Int) = (pre.length : Int) + 1 from by simp, show ((x1 + u : Nat) : Int) = (x1 : Int) + (u : Int) from by simp]; exact hG.step (by omega) (by omega) (by omega) _ _⟩, (hBW.setCell (by simp; omega) _).setCell (by simp; omega) _⟩⟩
          · have hne : ((x2 : Int) != (v : Int)) = true := by simp; omega
            gi_wp2_with (refine ⟨trivial, ?_⟩; gi_at_call 31; refine (CallsIn.inRound l1 (callsIn_wide.2 H)).mono ?_; rintro e w' ⟨rfl, rfl⟩)
            exact ⟨(KeepsOthers.setCell _ _ _).from _, .inl ⟨rfl, fun ⟨q, hq⟩ => by
              obtain ⟨u, _, h2, _⟩ := hrun.next hq
              rw [hrd] at h2
              injection h2 with h3
              injection h3 with h4 _
              exact e2 h4.symm⟩⟩
        · have hne : ((x1 : Int) != (p : Int)) = true := by simp; omega
          gi_wp2_with (refine ⟨trivial, ?_⟩; gi_at_call 31; refine (CallsIn.inRound l1 (callsIn_wide.2 H)).mono ?_; rintro e w' ⟨rfl, rfl⟩)
          exact ⟨(KeepsOthers.setCell _ _ _).from _, .inl ⟨rfl, fun ⟨q, hq⟩ => by
            obtain ⟨u, h1, _, _⟩ := hrun.next hq
            exact e1 h1⟩⟩
    case done0 =>
      rintro D xs W hD ⟨p, hrun, hend⟩ ⟨⟨p', hrun', hG⟩, hB⟩ hK
      have := hrun.det hrun'
      subst this
      exact hQ _ _ ⟨D, p, xs.length, rfl, hK, hD, hrun.le.2, fun _ => hend, hG, hB⟩
    case stop0 =>
      rintro D cd pre W hD ⟨p, hrun⟩ (⟨rfl, hno⟩ | ⟨rfl, ⟨p', hrun', hG⟩, hB⟩) hK
      · exact absurd ⟨p, hrun⟩ hno
      · exact wpIn_exit (hQ2 _ _ ⟨D, p', pre.length, rfl, hK, hD, hrun'.le.2, (fun e => by cases e), hG, hB⟩)
  rintro a W ⟨D0, p0, k0, rfl, hK0, hD0, hp0, hend0, hG, hBW⟩
  have hcr := hG.r.boxed
  clear hbox0 hB40 hGs0 h4r0 hrq0
  gi_wp2
  have hsW := hBW.size
  have hbox := hbk4.below hBW (by omega)
  have g0 := hG.b.alloc (.cells #[.int .i64 1] 3)
  have g1 := hG.c.alloc (.cells #[.int .i64 1] 3)
  have g2 := hG.o.alloc (.cells #[.int .i64 1] 3)
  have g3 := BlkIs.new W 3 #[.int .i64 1]
  have gB := hBW.alloc (by omega) (.cells #[.int .i64 1] 3)
  have hKD : D0 < W.heap.size := (Array.getElem?_eq_some_iff.1 hK0).1
  have hK0' : (W.alloc (.cells #[.int .i64 1] 3)).heap[D0]? = some (.deferred (some [])) := (Below.heap_alloc _ _ D0 hKD).trans hK0
  generalize hW' : W.alloc (.cells #[.int .i64 1] 3) = W' at *
  clear hW' hK0 hcr hbox hG hBW
  generalize W.heap.size = r1 at *
  clear W
  have hcr1 := g3.boxed
  have hr1 := g3.lt
  rw [roundsIn_succ]
  gi_wp2
  have f0 := (g0.alloc (.cells #[.int .i64 0] 3)).alloc (.cells #[.int .i64 0] 3)
  have f1 := (g1.alloc (.cells #[.int .i64 0] 3)).alloc (.cells #[.int .i64 0] 3)
  have f2 := (g2.alloc (.cells #[.int .i64 0] 3)).alloc (.cells #[.int .i64 0] 3)
  have f3 := (g3.alloc (.cells #[.int .i64 0] 3)).alloc (.cells #[.int .i64 0] 3)
  have f5 := (BlkIs.new W' 3 #[.int .i64 0]).alloc (.cells #[.int .i64 0] 3)
  have f6 := BlkIs.new (W'.alloc (.cells #[.int .i64 0] 3)) 3 #[.int .i64 0]
  rw [World.size_alloc] at f6
  have hB41 := ((gB.alloc (by omega) (.cells #[.int .i64 0] 3)).alloc (by simp; omega) (.cells #[.int .i64 0] 3))
  have hKD' : D0 < W'.heap.size := by omega
  have hK01 : ((W'.alloc (.cells #[.int .i64 0] 3)).alloc (.cells #[.int .i64 0] 3)).heap[D0]? = some (.deferred (some [])) := ((Below.heap_alloc _ _ D0 (by simp; omega)).trans (Below.heap_alloc _ _ D0 hKD')).trans hK0'
  have hsz1' : ((W'.alloc (.cells #[.int .i64 0] 3)).alloc (.cells #[.int .i64 0] 3)).heap.size = W'.heap.size + 1 + 1 := by simp
  generalize hW1 : (W'.alloc (.cells #[.int .i64 0] 3)).alloc (.cells #[.int .i64 0] 3) = W1 at *
  clear hW1
  have hrq1 : r1 + 1 ≤ W'.heap.size := hr1
  clear hcr1 g0 g1 g2 g3 gB hK0'
  generalize W'.heap.size = q1 at *
  clear W'
  have h4r1 : w.heap.size + 1 + 1 + 1 + 1 ≤ r1 := by omega
  have hsz1 : w.heap.size + 1 + 1 + 1 + 1 ≤ W1.heap.size := by omega
  have hbox1 := (hbk4.below hB41 (by omega)).boxed
  have hGs1 : Gs w.heap.size r1 q1 (.slice A l.length c) cut 1 (0 : Nat) ([] : List (Nat × Nat)).length W1 := ⟨f0, f1, f2, f3, f5, f6⟩
  clear f0 f1 f2 f3 f5 f6 hsz1'
  -- ROUND 0 ENDS
  -- ROUND 1 BEGINS
  refine wpIn_by_stopB (fun a0 a W => ∃ (D p k : Nat), a = { a0 with defers := { target := .collected D, args := #[] } :: a0.defers } ∧ W.heap[D]? = some (.deferred (some [])) ∧ W1.heap.size ≤ D ∧ p ≤ l.length ∧ (p < l.length → rd (l.drop p) = none) ∧
    Gs w.heap.size r1 q1 (.slice A l.length c) cut 1 p k W ∧ Below (w.heap.size + 1 + 1 + 1 + 1) W4 W ∧ W.heap[D0]? = some (.deferred (some []))) ?_ ?_
  · intro Q' hQ hQ2
    refine wpIn_rangeFunc_ownG rfl h1 (gf := 101) (lb := #[.pointer (some ⟨w.heap.size + 1 + 1 + 1, 0, none⟩)]) rfl trivial (enters_of Try.func101 (by kernel_rfl) rfl)
      (numbers_stops (w0 := W4) (n₀ := w.heap.size + 1 + 1 + 1 + 1) (n - 1) (by omega) (w.heap.size + 1 + 1 + 1) A c l hin4 W1 hB41 (by omega) hsz1 hbox1) belowK_t (belowK_b hsz1) (Below.refl _ _) (fun _ => rfl)
      (fun pre W => (∃ p : Nat, Run l pre p ∧ Gs w.heap.size r1 q1 (.slice A l.length c) cut 1 p pre.length W) ∧ Below (w.heap.size + 1 + 1 + 1 + 1) W4 W ∧ W.heap[D0]? = some (.deferred (some [])))
      (fun cd pre W => (cd = .ret ∧ ¬ ∃ p, Run l pre p) ∨ (cd = .exit 2 ∧ False ∧ ((∃ p : Nat, Run l pre p ∧ Gs w.heap.size r1 q1 (.slice A l.length c) cut 1 p pre.length W) ∧ Below (w.heap.size + 1 + 1 + 1 + 1) W4 W ∧ W.heap[D0]? = some (.deferred (some [])))))
      ?own1 ?own21 ?start1 ?act1 ?assign1 ?body1 ?done1 ?stop1
    case own1 => exact OwnFrom.and (Own.from (fun s A B row hs hg hr => by obtain ⟨p, h1, h2⟩ := hs; exact ⟨p, h1, h2.kept hg hr⟩) _) (OwnFrom.and (ownFrom_below hs4 (by omega)) (ownFrom_row hK01))
    case own21 =>
      rintro cd s A B row (⟨e, h⟩ | ⟨e, hf, ⟨p, h2, h3⟩, h4⟩) hg hr
      · exact .inl ⟨e, h⟩
      · exact .inr ⟨e, hf, ⟨p, h2, h3.kept hg (fun r e => (hr r e).2)⟩, hf.elim⟩
    case start1 => exact ⟨⟨0, .nil, hGs1⟩, hB41, hK01⟩
    case assign1 =>
      intro l1 x W K hK
      gi_wp2
      exact hK
    case body1 =>
      rintro l1 pre x W ⟨⟨p, hrun, hG⟩, hBW⟩ hlt
      have hp := hrun.le
      have h11 : 1 ≤ n - 1 - 1 := by omega
      have hcb := hG.b.boxed
      have hcc := hG.c.boxed
      have hco := hG.o.boxed
      have hcr := hG.r.boxed
      have hcp := hG.p.boxed
      have hck := hG.k.boxed
      have hfo := hG.o.free 0
      have hfp := hG.p.free 0
      have hfk := hG.k.free 0
      have hn1 : ¬ r1 = q1 := by omega
      have hn2 : ¬ r1 = q1 + 1 := by omega
      have hn3 : ¬ w.heap.size + 1 = q1 := by omega
      have hn4 : ¬ w.heap.size + 1 = q1 + 1 := by omega
      have hn3' : ¬ w.heap.size + 1 + 1 = q1 := by omega
      have hn4' : ¬ w.heap.size + 1 + 1 = q1 + 1 := by omega
      have hcut : (if c = p then A else Option.map (fun x => x.add p) A) = cutA A c p := rfl
      have hinW : InB W W.heap.size A c l := (h.below (hB4w.trans (hBW.1.mono (by omega)))).more (by have := hBW.1.size; omega)
      have H := refReadNumber_gives W W.heap.size _ _ _ (hinW.drop p hp.2)
      rw [List.length_drop] at H
      have hwr : ∀ u : Nat, u ≤ l.length - p → IntKind.i64.wrap ((p : Int) + (u : Int)) = (p : Int) + (u : Int) := fun u hu => wrap_i64_id' _ (by omega) (by omega)
      have hwk : IntKind.i64.wrap ((pre.length : Int) + 1) = (pre.length : Int) + 1 := wrap_i64_id' _ (by omega) (by omega)
      obtain ⟨x1, x2⟩ := x
      rcases hrd : rd (l.drop p) with _ | ⟨v, u⟩
      · obtain ⟨e, he, hv⟩ := rdV_none' hrd
        rw [hv] at H
        gi_wp2_with (refine ⟨trivial, ?_⟩; gi_at_call 31; refine (CallsIn.inRound l1 (callsIn_wide.2 H)).mono ?_; rintro e w' ⟨rfl, rfl⟩)
        exact ⟨(KeepsOthers.setCell _ _ _).from _, .inl ⟨rfl, fun ⟨q, hq⟩ => by
          obtain ⟨u, _, h2, _⟩ := hrun.next hq
          rw [hrd] at h2
          cases h2⟩⟩
      · have hbd := (rd_bound hrd).2
        rw [List.length_drop] at hbd
        have hcm : cutA A c p = Option.map (fun x => x.add p) A := if_neg (by omega)
        rw [rdV_some' hrd, hcm] at H
        clear hcm hcut
        have hcne : ¬ c = p := by omega
        have hwu := hwr u hbd.2
        clear hwr
        by_cases e1 : x1 = p
        · subst e1
          by_cases e2 : x2 = v
          · subst e2
            gi_wp2_with (refine ⟨trivial, ?_⟩; gi_at_call 31; refine (CallsIn.inRound l1 (callsIn_wide.2 H)).mono ?_; rintro e w' ⟨rfl, rfl⟩)
            exact ⟨((KeepsOthers.setCell _ _ _).trans (KeepsOthers.setCell _ _ _)).from _, ((Below.refl _ _).setCell (by simp; omega) _).setCell (by simp; omega) _, ⟨⟨x1 + u, .snoc hrun hrd, by rw [show (((pre ++ [(x1, x2)]).length : Nat) : Int) = (pre.length : Int) + 1 from by simp, show ((x1 + u : Nat) : Int) = (x1 : Int) + (u : Int) from by simp]; exact hG.step (by omega) (by omega) (by omega) _ _⟩, (hBW.1.setCell (by simp; omega) _).setCell (by simp; omega) _, (Below.heap_setCell _ _ _ D0 (by simp; omega)).trans ((Below.heap_setCell _ _ _ D0 (by simp; omega)).trans hBW.2)⟩⟩
          · have hne : ((x2 : Int) != (v : Int)) = true := by simp; omega
            gi_wp2_with (refine ⟨trivial, ?_⟩; gi_at_call 31; refine (CallsIn.inRound l1 (callsIn_wide.2 H)).mono ?_; rintro e w' ⟨rfl, rfl⟩)
            exact ⟨(KeepsOthers.setCell _ _ _).from _, .inl ⟨rfl, fun ⟨q, hq⟩ => by
              obtain ⟨u, _, h2, _⟩ := hrun.next hq
              rw [hrd] at h2
              injection h2 with h3
              injection h3 with h4 _
              exact e2 h4.symm⟩⟩
        · have hne : ((x1 : Int) != (p : Int)) = true := by simp; omega
          gi_wp2_with (refine ⟨trivial, ?_⟩; gi_at_call 31; refine (CallsIn.inRound l1 (callsIn_wide.2 H)).mono ?_; rintro e w' ⟨rfl, rfl⟩)
          exact ⟨(KeepsOthers.setCell _ _ _).from _, .inl ⟨rfl, fun ⟨q, hq⟩ => by
            obtain ⟨u, h1, _, _⟩ := hrun.next hq
            exact e1 h1⟩⟩
    case done1 =>
      rintro D xs W hD ⟨p, hrun, hend⟩ ⟨⟨p', hrun', hG⟩, hB⟩ hK
      have := hrun.det hrun'
      subst this
      exact hQ _ _ ⟨D, p, xs.length, rfl, hK, hD, hrun.le.2, hend, hG, hB⟩
    case stop1 =>
      rintro D cd pre W hD ⟨p, hrun⟩ (⟨rfl, hno⟩ | ⟨rfl, hf, ⟨p', hrun', hG⟩, hB⟩) hK
      · exact absurd ⟨p, hrun⟩ hno
      · exact hf.elim
  rintro a W ⟨D1, p1, k1, rfl, hK1, hD1, hp1, hend1, hG, hBW, hK0⟩
  -- ROUND 1 ENDS
  have hcr := hG.r.boxed
  have hcp := hG.p.boxed
  have hcb := hG.b.boxed
  have hsW := hBW.size
  clear hbox1 hB41 hGs1
  by_cases hlt : p1 < l.length
  · have hend := hend1 hlt
    obtain ⟨e, he, hv⟩ := rdV_none' hend
    have hinW : InB W W.heap.size A c l := (h.below (hB4w.trans (hBW.mono (by omega)))).more (by omega)
    have H := refReadNumber_gives W W.heap.size _ _ _ (hinW.drop p1 hp1)
    have hcm : cutA A c p1 = Option.map (fun x => x.add p1) A := if_neg (by omega)
    rw [hv, hcm, List.length_drop] at H
    clear hcm
    have hcne : ¬ c = p1 := by omega
    gi_wp2_with (refine ⟨trivial, ?_⟩; gi_at_call 31; refine (callsIn_wide.2 H).mono ?_; rintro e w' ⟨rfl, rfl⟩)
    rw [roundsIn_succ]
    have g2 := hG.o.alloc (.cells #[.int .i64 2] 3)
    have gB := hBW.alloc (by omega) (.cells #[.int .i64 2] 3)
    have hz0 := (Below.heap_alloc W (.cells #[.int .i64 2] 3) D0 (Array.getElem?_eq_some_iff.1 hK0).1).trans hK0
    have hz1 := (Below.heap_alloc W (.cells #[.int .i64 2] 3) D1 (Array.getElem?_eq_some_iff.1 hK1).1).trans hK1
    have gs := g2.lt
    gi_wp2_with (refine ⟨trivial, ?_⟩; gi_at_call 27; refine (callsIn_wide.2 (works3_gives _)).mono ?_; rintro e w' ⟨rfl, hB⟩; have b3 := g2.below hB gs; have hco := b3.boxed; have hfo := b3.free 0)
    have hD0' := (hB.block D0 (Array.getElem?_eq_some_iff.1 hz0).1).trans hz0
    have hD1' := (hB.block D1 (Array.getElem?_eq_some_iff.1 hz1).1).trans hz1
    have hlt0 := (Array.getElem?_eq_some_iff.1 hK01).1
    have b4 := b3.set 0 (.bool true)
    have hE0 := (Below.heap_setCell w' ⟨w.heap.size + 1 + 1, 0, none⟩ (.bool true) D0 (by simp; omega)).trans hD0'
    have hE1 := (Below.heap_setCell w' ⟨w.heap.size + 1 + 1, 0, none⟩ (.bool true) D1 (by simp; omega)).trans hD1'
    have hBf : Below w.heap.size w (w'.setCell ⟨w.heap.size + 1 + 1, 0, none⟩ (.bool true)) := ((hB4w.trans (gB.mono (by omega))).trans (hB.mono (by have := gB.size; omega))).setCell (p := ⟨w.heap.size + 1 + 1, 0, none⟩) (by simp; omega) _
    generalize w'.setCell ⟨w.heap.size + 1 + 1, 0, none⟩ (.bool true) = V at *
    refine ⟨by simp, .inl ⟨D1, _, rfl, run_takeDeferred hE1, ?_⟩⟩
    have hE0' := (putObj_other V D1 (.deferred none) (g := D0) (by omega)).trans hE0
    refine ⟨by simp, .inl ⟨D0, _, rfl, run_takeDeferred hE0', ?_⟩⟩
    have b5 : BlkIs ((V.putObj D1 (.deferred none)).putObj D0 (.deferred none)) (w.heap.size + 1 + 1) 4 #[.bool true] := (putObj_other _ D0 (.deferred none) (g := w.heap.size + 1 + 1) (by omega)).trans ((putObj_other V D1 (.deferred none) (g := w.heap.size + 1 + 1) (by omega)).trans b4)
    refine ⟨.bool true, results_cell1 (p := ⟨w.heap.size + 1 + 1, 0, none⟩) 4 rfl rfl (by simp [go_sem]) b5.boxed, rfl, ?_⟩
    exact (hBf.trans (belowK_b (w := w) (Nat.le_refl _) V D1 _ _ (by omega) hE1 rfl rfl)).trans (belowK_b (w := w) (Nat.le_refl _) _ D0 _ _ (by omega) hE0' rfl rfl)
  · gi_wp2
    rw [roundsIn_succ]
    have g2 := hG.o.alloc (.cells #[.int .i64 2] 3)
    have gB := hBW.alloc (by omega) (.cells #[.int .i64 2] 3)
    have hz0 := (Below.heap_alloc W (.cells #[.int .i64 2] 3) D0 (Array.getElem?_eq_some_iff.1 hK0).1).trans hK0
    have hz1 := (Below.heap_alloc W (.cells #[.int .i64 2] 3) D1 (Array.getElem?_eq_some_iff.1 hK1).1).trans hK1
    have gs := g2.lt
    gi_wp2_with (refine ⟨trivial, ?_⟩; gi_at_call 27; refine (callsIn_wide.2 (works3_gives _)).mono ?_; rintro e w' ⟨rfl, hB⟩; have b3 := g2.below hB gs; have hco := b3.boxed; have hfo := b3.free 0)
    have hD0' := (hB.block D0 (Array.getElem?_eq_some_iff.1 hz0).1).trans hz0
    have hD1' := (hB.block D1 (Array.getElem?_eq_some_iff.1 hz1).1).trans hz1
    have hlt0 := (Array.getElem?_eq_some_iff.1 hK01).1
    have b4 := b3.set 0 (.bool true)
    have hE0 := (Below.heap_setCell w' ⟨w.heap.size + 1 + 1, 0, none⟩ (.bool true) D0 (by simp; omega)).trans hD0'
    have hE1 := (Below.heap_setCell w' ⟨w.heap.size + 1 + 1, 0, none⟩ (.bool true) D1 (by simp; omega)).trans hD1'
    have hBf : Below w.heap.size w (w'.setCell ⟨w.heap.size + 1 + 1, 0, none⟩ (.bool true)) := ((hB4w.trans (gB.mono (by omega))).trans (hB.mono (by have := gB.size; omega))).setCell (p := ⟨w.heap.size + 1 + 1, 0, none⟩) (by simp; omega) _
    generalize w'.setCell ⟨w.heap.size + 1 + 1, 0, none⟩ (.bool true) = V at *
    refine ⟨by simp, .inl ⟨D1, _, rfl, run_takeDeferred hE1, ?_⟩⟩
    have hE0' := (putObj_other V D1 (.deferred none) (g := D0) (by omega)).trans hE0
    refine ⟨by simp, .inl ⟨D0, _, rfl, run_takeDeferred hE0', ?_⟩⟩
    have b5 : BlkIs ((V.putObj D1 (.deferred none)).putObj D0 (.deferred none)) (w.heap.size + 1 + 1) 4 #[.bool true] := (putObj_other _ D0 (.deferred none) (g := w.heap.size + 1 + 1) (by omega)).trans ((putObj_other V D1 (.deferred none) (g := w.heap.size + 1 + 1) (by omega)).trans b4)
    refine ⟨.bool true, results_cell1 (p := ⟨w.heap.size + 1 + 1, 0, none⟩) 4 rfl rfl (by simp [go_sem]) b5.boxed, rfl, ?_⟩
    exact (hBf.trans (belowK_b (w := w) (Nat.le_refl _) V D1 _ _ (by omega) hE1 rfl rfl)).trans (belowK_b (w := w) (Nat.le_refl _) _ D0 _ _ (by omega) hE0' rfl rfl)

theorem lawGoes_walk (w : World) (A : Option Addr) (c : Nat) (l : List UInt8) (cut : Int) (h : InB w w.heap.size A c l) :
    Calls Try.prog 5 #[.slice A l.length c, .int .i64 cut] w fun e w' => e = .returned (.bool true) ∧ Below w.heap.size w w' := by
  by_cases hl : l.length ≤ 200
  · exact callsIn_wide.1 (lawGoes_in 6 (Nat.le_refl _) w A c l cut h hl)
  · exact lawGoes_long w A c l cut h (by omega)
end Go.Proofs.Ytlelckdcmlpmdaa
