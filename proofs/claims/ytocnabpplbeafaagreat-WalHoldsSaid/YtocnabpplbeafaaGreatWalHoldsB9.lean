/- Texts that the proof of WalHolds leans on, part 9. -/
import Derived.Test.YtocnabpplbeafaaGreatWalHoldsB8
/- Small words for walks of loops over functions. -/
namespace Go.Proofs.YtocnabpplbeafaaGreat
open Go Go.RowKit Lou Go.Shelf
attribute [local go_sem] Oper.semAt_some

theorem BlkIs.abN {B g : Nat} {t : TypeId} {cs : Array Value} (hg : g < B) {W W' : World} {row : Option Nat} (h : BlkIs W g t cs) (hgr : W.grownBy W' row) (hr : ∀ r, row = some r → B ≤ r) : BlkIs W' g t cs :=
  h.grown hgr (fun e => by have := hr g e.symm; omega)
theorem run_eqF_nil {P : Program} {ps rs : Array TypeId} {vd : Bool} (d : Nat) (t : TypeId) (w : World) (f : Fn) (xs ys : Array Value) (h : P.underlying t = some (.func ps rs vd)) : (Op.equalIn (d + 1) t (.func f xs ys) .nilFunc).run P w = .ok false w := by
  simp [Op.equalIn, run_underlying h, Result.andThen]
theorem wpI_stopB {F : Fence} {n id : Nat} {P : Program} {C : Code} {Q : Exit → Act → World → Prop} {a0 : Act} {w0 : World} (S : Act → Act → World → Prop) (h1 : ∀ Q' : Exit → Act → World → Prop, (∀ a w, S a0 a w → Q' .normal a w) → C.wpIn F n P Q' a0 w0) (h2 : ∀ a w, S a0 a w → Q .normal a w) : C.wpIn F n P (Exit.inBlock id Q) a0 w0 :=
  h1 _ h2
theorem putObj_oth (V : World) (D : Nat) (o : Obj) {g : Nat} (h : D ≠ g) : (V.putObj D o).heap[g]? = V.heap[g]? := by
  simp [World.putObj, h]
theorem results_cellQ {fn : Func} {P : Program} {a : Act} {w : World} {v : Value} {p : Addr} {t : TypeId} (k : Tmp) (h : fn.results = #[.cell k t]) (hk : a.eval (.tmp k) = .pointer (some p)) (hagg : (isAgg t).run P w = .ok false w) (hv : w.cell? p = some v) : (results fn a.tmps).run P w = .ok v w := by
  have e : a.tmps.getD k undef = .pointer (some p) := hk
  unfold results
  simp only [h]
  simp [← Array.getD_eq_getD_getElem?, e, loadVar, asAddr, hagg, hv, Result.andThen]
end Go.Proofs.YtocnabpplbeafaaGreat
/- wal: writing sectors to a log's disk (no stop is set). -/
namespace Go.Proofs.YtocnabpplbeafaaGreat
open Go Go.RowKit Lou Go.Shelf
attribute [local go_sem] Oper.semAt_some

theorem DkIs.abSm {B p many : Nat} {g : Nat → List UInt8} {xs : List (Nat × List UInt8)} {left : Int} {stops : Bool} (hp : p < B) {X Y : World} {row : Option Nat} (h : DkIs X p many g xs left stops) (hg : X.grownBy Y row) (hrow : ∀ r, row = some r → B ≤ r ∧ ∃ o : Obj, X.heap[r]? = some o ∧ Small o) : DkIs Y p many g xs left stops := by
  cases row with
  | none => exact h.grow ⟨hg.os, hg.tape, hg.output, hg.size, fun k hk => hg.block k hk (fun e => by cases e)⟩
  | some q =>
    obtain ⟨hq, o, ho, hs⟩ := hrow q rfl
    clear hrow
    cases o with
    | cells cs T fr =>
      obtain ⟨h1, rfl⟩ := hs
      exact h.other (show BlkIs X q T cs from ho) h1 (by omega) hg
    | loop lp =>
      obtain ⟨r, A, c, hb, hm, hw, hx⟩ := h.has
      have hrq : r ≠ q := fun e => by
        subst e
        obtain ⟨es, ck, h1, _⟩ := hm.lies
        have h1' : X.heap[r]? = some (.map es ck) := h1
        rw [h1'] at ho
        cases ho
      refine ⟨r, A, c, hb.grown hg (fun e => by injection e; omega), hm.keep (hg.block r hm.lt (fun e => hrq (by injection e))), hw, ?_⟩
      refine ⟨hx.le, hx.max, hx.nil, hx.len, hx.one, fun h0 => ?_⟩
      obtain ⟨b, o, e, hbl, hr⟩ := hx.lies h0
      subst e
      have hbq : b ≠ q := fun e => by
        subst e
        have h2 := hr 0 ((flC xs)[0]'(by rw [hx.len]; omega)) (List.getElem?_eq_getElem (by rw [hx.len]; omega))
        simp [World.cell?, ho] at h2
      exact ⟨b, o, rfl, Nat.lt_of_lt_of_le hbl hg.size, fun j v hj => (World.cell?_of_block (hg.block b hbl (fun e => hbq (by injection e)))).trans (hr j v hj)⟩
    | deferred dd =>
      obtain ⟨r, A, c, hb, hm, hw, hx⟩ := h.has
      have hrq : r ≠ q := fun e => by
        subst e
        obtain ⟨es, ck, h1, _⟩ := hm.lies
        have h1' : X.heap[r]? = some (.map es ck) := h1
        rw [h1'] at ho
        cases ho
      refine ⟨r, A, c, hb.grown hg (fun e => by injection e; omega), hm.keep (hg.block r hm.lt (fun e => hrq (by injection e))), hw, ?_⟩
      refine ⟨hx.le, hx.max, hx.nil, hx.len, hx.one, fun h0 => ?_⟩
      obtain ⟨b, o, e, hbl, hr⟩ := hx.lies h0
      subst e
      have hbq : b ≠ q := fun e => by
        subst e
        have h2 := hr 0 ((flC xs)[0]'(by rw [hx.len]; omega)) (List.getElem?_eq_getElem (by rw [hx.len]; omega))
        simp [World.cell?, ho] at h2
      exact ⟨b, o, rfl, Nat.lt_of_lt_of_le hbl hg.size, fun j v hj => (World.cell?_of_block (hg.block b hbl (fun e => hbq (by injection e)))).trans (hr j v hj)⟩
    | _ => exact hs.elim
namespace RegF
theorem startR {P : Program} {ops : Array Oper} {Q : Exit → Act → World → Prop} {id l m : Nat} {a : Act} {w : World} (S : World → Prop) (fin : Nat) (hm : P.follows .mixedOrders = true) (hdf : noDefer ops = true) (h : wpAnyF P .any ops (NoOut Q) S fin ops.size (Array.replicate ops.size false) a w.drew) : (Code.region id ops true).wpIn (Fence.wide.inRound l) m P Q a w :=
  wpIn_mono (Q := NoOut Q) (wpIn_region_any hm (wpAny_inRound hdf _ _ _ _ (to_any _ _ _ _ h))) NoOut.imp
end RegF
/-- What is written: a chunk a sector. -/
def wrL (at_ : Nat) (b : List UInt8) (m : Nat) : List (Nat × List UInt8) := (List.range m).map fun i => (at_ + i, chunkB b i)
theorem wrL_next (at_ : Nat) (b : List UInt8) (m : Nat) : wrL at_ b (m + 1) = wrL at_ b m ++ [(at_ + m, chunkB b m)] := by unfold wrL; rw [List.range_succ, List.map_append]; rfl
theorem wrL_length (at_ : Nat) (b : List UInt8) (m : Nat) : (wrL at_ b m).length = m := by unfold wrL; simp
theorem grownBy_rest {a b c : World} {row row2 : Option Nat} {B : Nat} (h : a.grownBy b row) (k : b.grownBy c row2) (hB : a.heap.size ≤ B) (hr : ∀ r, row2 = some r → B ≤ r) : a.grownBy c row :=
  ⟨k.os.trans h.os, k.tape.trans h.tape, k.output.trans h.output, Nat.le_trans h.size k.size, fun i hi hn => (k.block i (Nat.lt_of_lt_of_le hi h.size) (fun e => by have := hr i e.symm; omega)).trans (h.block i hi hn)⟩
theorem cell_grown {X Y : World} {row : Option Nat} {p : Addr} {v : Value} (hc : X.cell? p = some v) (hg : X.grownBy Y row) (hl : p.block < X.heap.size) (hn : some p.block ≠ row) : Y.cell? p = some v := (World.cell?_of_block (hg.block _ hl hn)).trans hc
set_option maxRecDepth 100000 in
set_option maxHeartbeats 8000000 in
theorem wwrite_in (n : Nat) (hn : 8 ≤ n) (w : World) (l d many : Nat) (g : Nat → List UInt8) (xs : List (Nat × List UInt8)) (left : Int) (hD : DkIs w d many g xs left false) (hl : xs.length ≤ 900000) (h1l : -1000000 ≤ left) (h2l : left ≤ 9223372036854775807)
    (hc : w.cell? ⟨l, 0, none⟩ = some (.pointer (some ⟨d, 0, none⟩))) (hld : l ≠ d) (hll : l < w.heap.size) (at_ m : Nat) (A : Option Addr) (c : Nat) (b : List UInt8) (hin : InB w w.heap.size A c b) (hbl : b.length = 64 * m) (hm : m ≤ 16) (ham : at_ + m ≤ many) (hmax : many ≤ 1000000) :
    CallsIn Fence.wide n Tryz.prog 51 #[.pointer (some ⟨l, 0, none⟩), .int .i64 (at_ : Int), .slice A b.length c] w fun e w' => e = .returned (.int .i64 0) ∧ DkIs w' d many g (xs ++ wrL at_ b m) left false ∧ w.grownBy w' (some d) := by
  have h1 : 1 ≤ n := by omega
  have hdl := hD.lt
  have b0 := ((BlkIs.new w 143 #[.pointer (some ⟨l, 0, none⟩)]).alloc (.cells #[.int .i64 (at_ : Int)] 3)).alloc (.cells #[.int .i64 0] 29)
  have b1 := (BlkIs.new (w.alloc (.cells #[.pointer (some ⟨l, 0, none⟩)] 143)) 3 #[.int .i64 (at_ : Int)]).alloc (.cells #[.int .i64 0] 29)
  have b2 := BlkIs.new ((w.alloc (.cells #[.pointer (some ⟨l, 0, none⟩)] 143)).alloc (.cells #[.int .i64 (at_ : Int)] 3)) 29 #[.int .i64 0]
  rw [World.size_alloc] at b1
  rw [World.size_alloc, World.size_alloc] at b2
  have hB0 : Below w.heap.size w (((w.alloc (.cells #[.pointer (some ⟨l, 0, none⟩)] 143)).alloc (.cells #[.int .i64 (at_ : Int)] 3)).alloc (.cells #[.int .i64 0] 29)) :=
    (((Below.refl _ w).alloc (Nat.le_refl _) _).alloc (by simp) _).alloc (by simp; omega) _
  have HC := cut_gives _ A c b ((hin.below hB0).more hB0.size) (by omega)
  have HBL := Lib.hid hbl
  have hb9 : b.length ≤ 1024 := by omega
  clear hbl
  refine callsIn_of_wp_marks Tryz.func51 rfl trivial ?_ rfl
  simp only [Tryz.ntmps51, List.size_toArray, List.length_cons, List.length_nil, Nat.reduceAdd, Nat.reduceSub, Array.replicate_succ, Array.replicate_zero, List.push_toArray, List.append_toArray, List.nil_append, List.cons_append]
  gi_wp2_with (refine ⟨trivial, ?_⟩; gi_at_call 91; refine (callsIn_wide.2 HC).mono ?_; rintro e W4 ⟨gB, A2, c2, rfl, hgb, hin2, hB4⟩)
  obtain ⟨hBw⟩ : Nonempty (Below w.heap.size w W4) := ⟨hB0.trans (hB4.mono hB0.size)⟩
  have hsz0 : w.heap.size + 3 ≤ W4.heap.size := by have := hB4.size; simp at this; omega
  have hD4 := hD.grow hBw
  have c0 := b0.below hB4 b0.lt
  have c1 := b1.below hB4 b1.lt
  have c2' := b2.below hB4 b2.lt
  have hc4 : W4.cell? ⟨l, 0, none⟩ = some (.pointer (some ⟨d, 0, none⟩)) := (hBw.cell (p := ⟨l, 0, none⟩) hll).trans hc
  have hG4 : w.grownBy W4 (some d) := ⟨hBw.os, hBw.tape, hBw.output, hBw.size, fun k hk _ => hBw.block k hk⟩
  have hMu : 0 < b.length → ∀ g o, A2 = some ⟨g, o, none⟩ → ¬ g = d := fun h0 g o e => by
    subst e
    obtain ⟨r, A', c', hb, _⟩ := hD4.has
    exact hin2.notDisk h0 hb
  clear b0 b1 b2 hB0 HC hD hc hin hB4
  refine wpI_stopB (fun a0 a V => ∃ D, a = { a0 with defers := { target := .collected D, args := #[] } :: a0.defers } ∧ V.heap[D]? = some (.deferred (some [])) ∧ W4.heap.size ≤ D ∧ DkIs V d many g (xs ++ wrL at_ b m) left false ∧ BlkIs V (w.heap.size + 1 + 1) 29 #[.int .i64 0] ∧ w.grownBy V (some d)) ?_ ?_
  · intro Q' hQ
    refine wpIn_rangeFunc_S rfl h1 (gf := 120) (lb := #[.pointer (some ⟨gB, 0, none⟩)]) rfl trivial (enters_of Tryz.func120 (by kernel_rfl) rfl)
      (cut1_seqS (n₀ := W4.heap.size) (n - 1) (by omega) gB A2 c2 b (by omega) (fun k => k = d) hMu W4 hgb.lt (Nat.le_refl _) hgb.boxed hin2) (Below.refl _ _) (fun _ => rfl)
      (fun pre V => DkIs V d many g (xs ++ wrL at_ b pre.length) left false ∧ BlkIs V w.heap.size 143 #[.pointer (some ⟨l, 0, none⟩)] ∧ BlkIs V (w.heap.size + 1) 3 #[.int .i64 (at_ : Int)] ∧ BlkIs V (w.heap.size + 1 + 1) 29 #[.int .i64 0] ∧ V.cell? ⟨l, 0, none⟩ = some (.pointer (some ⟨d, 0, none⟩)) ∧ w.grownBy V (some d) ∧ W4.heap.size ≤ V.heap.size)
      (fun _ _ _ => False)
      ?own ?own2 ?ownR ⟨by rw [show wrL at_ b ([] : List (Nat × (Option Addr × Nat))).length = [] from rfl, List.append_nil]; exact hD4, c0, c1, c2', hc4, hG4, Nat.le_refl _⟩ ?act ?assign ?body ?done ?stop
    case own =>
      rintro pre X Y row ⟨i1, i2, i3, i4, i5, i6, i7⟩ hgr hr
      have hr1 : ∀ r, row = some r → W4.heap.size ≤ r := fun r e => (hr r e).1
      exact ⟨i1.abSm (B := W4.heap.size) (by omega) hgr hr, i2.abN (B := W4.heap.size) (by omega) hgr hr1, i3.abN (B := W4.heap.size) (by omega) hgr hr1, i4.abN (B := W4.heap.size) (by omega) hgr hr1, cell_grown i5 hgr (by simp; omega) (fun e => by have := hr1 _ e.symm; simp at this; omega), grownBy_rest i6 hgr (by omega) hr1, Nat.le_trans i7 hgr.size⟩
    case own2 => exact fun c pre X Y row h _ _ => h
    case ownR =>
      rintro pre x _ X Y row ⟨e1, e2, e3⟩ hgr hr
      exact ⟨e1, e2, InB.ownFrom (B := W4.heap.size) _ _ _ () X Y row e3 hgr hr⟩
    case assign =>
      intro l1 x V K hK
      simp only [cutEnc]
      gi_wp2
      exact hK
    case body =>
      rintro l1 pre ⟨x1, A6, c6⟩ V ⟨i1, i2, i3, i4, i5, i6, i7⟩ ⟨hx1, hx2, hx3⟩
      simp only at hx1 hx2 hx3
      subst hx1
      have hbl := HBL.out
      have hk : pre.length < m := by omega
      have hch : chLen b.length pre.length = 64 := by unfold chLen; omega
      have hcl : (chunkB b pre.length).length = 64 := by rw [chunkB_length, hch]
      have hXL : (xs ++ wrL at_ b pre.length).length = xs.length + pre.length := by rw [List.length_append, wrL_length]
      have HW := write_ok V.drew d many g (xs ++ wrL at_ b pre.length) left false (i1.grow (Below.refl _ _).drew) rfl (at_ + pre.length) (by omega) A6 c6 _ hcl (hx3.drew) (by rw [hXL]; omega) h1l h2l
      rw [Int.natCast_add] at HW
      have h11 : 1 ≤ n - 1 - 1 := by omega
      have k0 := i2.boxed
      have k1 := i3.boxed
      have k2 := i4.boxed
      have hwa : IntKind.i64.wrap ((at_ : Int) + (pre.length : Int)) = (at_ : Int) + (pre.length : Int) := by rw [wrap_i64_fr _ (by omega) (by omega)]
      simp only [hch]
      clear hbl hch hcl hXL hx2 hMu
      have hS0 : V.drew.cell? ⟨w.heap.size, 0, none⟩ = some (.pointer (some ⟨l, 0, none⟩)) ∧ V.drew.cell? ⟨l, 0, none⟩ = some (.pointer (some ⟨d, 0, none⟩)) ∧ V.drew.cell? ⟨w.heap.size + 1, 0, none⟩ = some (.int .i64 (at_ : Int)) := ⟨k0, i5, k1⟩
      gi_wp2_with fail
      refine RegF.startR (fun W : World => W.cell? ⟨w.heap.size, 0, none⟩ = some (.pointer (some ⟨l, 0, none⟩)) ∧ W.cell? ⟨l, 0, none⟩ = some (.pointer (some ⟨d, 0, none⟩)) ∧ W.cell? ⟨w.heap.size + 1, 0, none⟩ = some (.int .i64 (at_ : Int))) 9 (by kernel_rfl) (by kernel_rfl) ?_
      refine RegF.take 0 (.pointer (some ⟨l, 0, none⟩)) rfl (by kernel_rfl) (by kernel_rfl) (by kernel_rfl) (by kernel_rfl) (fun _ _ _ h => h) hS0 (RegF.yld rfl (fun W hW => by obtain ⟨e0, e1, e2⟩ := hW; go_simp)) ?_
      simp only [List.getElem_toArray, List.getElem_cons_zero, Act.put, List.setIfInBounds_toArray, List.set_cons_zero, List.set_cons_succ]
      refine RegF.take 1 (.pointer (some ⟨l, 0, none⟩)) rfl (by kernel_rfl) (by kernel_rfl) (by kernel_rfl) (by kernel_rfl) (fun _ _ _ h => h) hS0 (RegF.yld rfl (fun W hW => by obtain ⟨e0, e1, e2⟩ := hW; go_simp)) ?_
      simp only [List.getElem_toArray, List.getElem_cons_succ, List.getElem_cons_zero, Act.put, List.setIfInBounds_toArray, List.set_cons_zero, List.set_cons_succ]
      refine RegF.take 2 (.pointer (some ⟨l, 0, none⟩)) rfl (by kernel_rfl) (by kernel_rfl) (by kernel_rfl) (by kernel_rfl) (fun _ _ _ h => h) hS0 (RegF.yld rfl (fun W hW => by obtain ⟨e0, e1, e2⟩ := hW; go_simp)) ?_
      simp only [List.getElem_toArray, List.getElem_cons_succ, List.getElem_cons_zero, Act.put, List.setIfInBounds_toArray, List.set_cons_zero, List.set_cons_succ]
      refine RegF.take 3 (.pointer (some ⟨d, 0, none⟩)) rfl (by kernel_rfl) (by kernel_rfl) (by kernel_rfl) (by kernel_rfl) (fun _ _ _ h => h) hS0 (RegF.yld rfl (fun W hW => by obtain ⟨e0, e1, e2⟩ := hW; go_simp)) ?_
      simp only [List.getElem_toArray, List.getElem_cons_succ, List.getElem_cons_zero, Act.put, List.setIfInBounds_toArray, List.set_cons_zero, List.set_cons_succ]
      refine RegF.take 4 (.int .i64 (at_ : Int)) rfl (by kernel_rfl) (by kernel_rfl) (by kernel_rfl) (by kernel_rfl) (fun _ _ _ h => h) hS0 (RegF.yld rfl (fun W hW => by obtain ⟨e0, e1, e2⟩ := hW; go_simp)) ?_
      simp only [List.getElem_toArray, List.getElem_cons_succ, List.getElem_cons_zero, Act.put, List.setIfInBounds_toArray, List.set_cons_zero, List.set_cons_succ]
      refine RegF.take 5 (.int .i64 (pre.length : Int)) rfl (by kernel_rfl) (by kernel_rfl) (by kernel_rfl) (by kernel_rfl) (fun _ _ _ h => h) hS0 (RegF.yld rfl (fun W hW => by obtain ⟨e0, e1, e2⟩ := hW; go_simp)) ?_
      simp only [List.getElem_toArray, List.getElem_cons_succ, List.getElem_cons_zero, Act.put, List.setIfInBounds_toArray, List.set_cons_zero, List.set_cons_succ]
      refine RegF.take 6 (.int .i64 ((at_ : Int) + (pre.length : Int))) rfl (by kernel_rfl) (by kernel_rfl) (by kernel_rfl) (by kernel_rfl) (fun _ _ _ h => h) hS0 (RegF.yld rfl (fun W hW => by obtain ⟨e0, e1, e2⟩ := hW; go_simp)) ?_
      simp only [List.getElem_toArray, List.getElem_cons_succ, List.getElem_cons_zero, Act.put, List.setIfInBounds_toArray, List.set_cons_zero, List.set_cons_succ]
      refine RegF.take 7 (.slice A6 64 c6) rfl (by kernel_rfl) (by kernel_rfl) (by kernel_rfl) (by kernel_rfl) (fun _ _ _ h => h) hS0 (RegF.yld rfl (fun W hW => by obtain ⟨e0, e1, e2⟩ := hW; go_simp)) ?_
      simp only [List.getElem_toArray, List.getElem_cons_succ, List.getElem_cons_zero, Act.put, List.setIfInBounds_toArray, List.set_cons_zero, List.set_cons_succ]
      refine RegF.one 8 (by kernel_rfl) ?_
      refine RegF.opC 92 #[.tmp 17, .tmp 20, .tmp 21] #[28, 3, 38] rfl rfl rfl (enters_of Tryz.func92 (by kernel_rfl) rfl) #[.pointer (some ⟨d, 0, none⟩), .int .i64 ((at_ : Int) + (pre.length : Int)), .slice A6 64 c6] (by simp only [List.map_toArray, List.map_cons, List.map_nil]; rfl) (HW.mono ?_)
      rintro e W6 ⟨rfl, hD6, hg6, _⟩
      have gV6 : V.grownBy W6 (some d) := (grownBy_drew V (some d)).trans hg6
      have q0 := i2.grown gV6 (fun e => by injection e with e; omega)
      have q1 := i3.grown gV6 (fun e => by injection e with e; omega)
      have q2 := i4.grown gV6 (fun e => by injection e with e; omega)
      have q3 : W6.cell? ⟨l, 0, none⟩ = some (.pointer (some ⟨d, 0, none⟩)) := cell_grown i5 gV6 (by show l < V.heap.size; omega) (fun e => by injection e with e; exact hld e)
      have q6 := gV6.size
      refine ⟨_, rfl, fun _ => ⟨q0.boxed, q3, q1.boxed⟩, ?_⟩
      simp only [List.getElem_toArray, List.getElem_cons_succ, List.getElem_cons_zero, Act.put, List.setIfInBounds_toArray, List.set_cons_zero, List.set_cons_succ]
      refine RegF.one 9 (by kernel_rfl) (RegF.opV (w' := W6) (.int .i64 0) rfl rfl (by go_simp) ⟨fun h => absurd rfl h, RegF.done (by kernel_rfl) ?_⟩)
      simp only [List.getElem_toArray, List.getElem_cons_succ, List.getElem_cons_zero, Act.put, List.setIfInBounds_toArray, List.set_cons_zero, List.set_cons_succ]
      have hIn : DkIs W6 d many g (xs ++ wrL at_ b (pre ++ [(pre.length, A6, c6)]).length) left false := by
        rw [show (pre ++ [(pre.length, A6, c6)]).length = pre.length + 1 by simp, wrL_next, ← List.append_assoc]
        exact hD6
      have hKO : KeepOut (fun k => k = d) W4.heap.size V W6 := ⟨q6, fun k o hk hm => (gV6.block k (Array.getElem?_eq_some_iff.1 hk).1 (fun e => by injection e with e; exact hm (by omega) e)).trans hk⟩
      have hGW := i6.trans gV6
      clear HW hS0 hD6 hg6 k0 k1 k2 hwa hx3
      dsimp only [NoOut]
      gi_wp2
      exact ⟨hKO, hIn, q0, q1, q2, q3, hGW, by omega⟩
    case done =>
      rintro D ys V hD hS ⟨i1, i2, i3, i4, i5, i6, i7⟩ hK
      have hbl := HBL.out
      have hm3 : ys.length = m := by rw [hS]; unfold chAll; omega
      rw [hm3] at i1
      exact hQ _ _ ⟨D, rfl, hK, hD, i1, i4, i6⟩
    case stop =>
      rintro D c pre V hD hS h
      exact h.elim
  rintro a V ⟨D, rfl, hK, hD, i1, i2, i3⟩
  have k3 := i2.boxed
  have f3 := i2.free 0
  gi_wp2
  have b6 := i2.set 0 (.int .i64 0)
  have hE1 : (V.setCell ⟨w.heap.size + 1 + 1, 0, none⟩ (.int .i64 0)).heap[D]? = some (.deferred (some [])) := (Below.heap_setCell V ⟨w.heap.size + 1 + 1, 0, none⟩ (.int .i64 0) D (by simp; omega)).trans hK
  have g1 : V.grownBy (V.setCell ⟨w.heap.size + 1 + 1, 0, none⟩ (.int .i64 0)) (some (w.heap.size + 1 + 1)) := ⟨rfl, rfl, rfl, by simp, fun k _ hk => Below.heap_setCell V _ _ k (fun e => hk (by rw [e]))⟩
  have hD1 := i1.abSm (B := w.heap.size) hdl g1 (fun r e => by cases e; exact ⟨by omega, _, i2, by decide, rfl⟩)
  have hG1 := grownBy_rest i3 g1 (Nat.le_refl _) (fun r e => by cases e; omega)
  clear k3 f3 g1 i1 i2 i3 hK
  generalize V.setCell ⟨w.heap.size + 1 + 1, 0, none⟩ (.int .i64 0) = Z at *
  have g2 := grownBy_putObj' Z D (.deferred none)
  have hD2 := hD1.abSm (B := w.heap.size) hdl g2 (fun r e => by cases e; exact ⟨by omega, _, hE1, trivial⟩)
  have hG2 := grownBy_rest hG1 g2 (Nat.le_refl _) (fun r e => by cases e; omega)
  refine ⟨by simp, .inl ⟨D, _, rfl, run_takeDeferred hE1, ?_⟩⟩
  have b7 : BlkIs (Z.putObj D (.deferred none)) (w.heap.size + 1 + 1) 29 #[.int .i64 0] := (putObj_oth Z D (.deferred none) (g := w.heap.size + 1 + 1) (by omega)).trans b6
  exact ⟨.int .i64 0, results_cellQ (p := ⟨w.heap.size + 1 + 1, 0, none⟩) 6 rfl rfl (by simp [go_sem]) b7.boxed, rfl, hD2, hG2⟩
theorem wwrite_gives (w : World) (l d many : Nat) (g : Nat → List UInt8) (xs : List (Nat × List UInt8)) (left : Int) (hD : DkIs w d many g xs left false) (hl : xs.length ≤ 900000) (h1l : -1000000 ≤ left) (h2l : left ≤ 9223372036854775807)
    (hc : w.cell? ⟨l, 0, none⟩ = some (.pointer (some ⟨d, 0, none⟩))) (hld : l ≠ d) (hll : l < w.heap.size) (at_ m : Nat) (A : Option Addr) (c : Nat) (b : List UInt8) (hin : InB w w.heap.size A c b) (hbl : b.length = 64 * m) (hm : m ≤ 16) (ham : at_ + m ≤ many) (hmax : many ≤ 1000000) :
    Calls Tryz.prog 51 #[.pointer (some ⟨l, 0, none⟩), .int .i64 (at_ : Int), .slice A b.length c] w fun e w' => e = .returned (.int .i64 0) ∧ DkIs w' d many g (xs ++ wrL at_ b m) left false ∧ w.grownBy w' (some d) :=
  callsIn_wide.1 (wwrite_in 8 (Nat.le_refl _) w l d many g xs left hD hl h1l h2l hc hld hll at_ m A c b hin hbl hm ham hmax)
end Go.Proofs.YtocnabpplbeafaaGreat
/- wal: a head is laid. -/
namespace Go.Proofs.YtocnabpplbeafaaGreat
open Go Go.RowKit Lou

/-- All but some blocks stands as it did. -/
structure GrowBut (Mu : Nat → Prop) (w w' : World) : Prop where
  os : w'.os = w.os
  tape : w'.tape = w.tape
  output : w'.output = w.output
  size : w.heap.size ≤ w'.heap.size
  block : ∀ k, k < w.heap.size → ¬ Mu k → w'.heap[k]? = w.heap[k]?
namespace GrowBut
variable {Mu : Nat → Prop} {a b c : World}
theorem refl (Mu : Nat → Prop) (a : World) : GrowBut Mu a a := ⟨rfl, rfl, rfl, Nat.le_refl _, fun _ _ _ => rfl⟩
theorem trans (h : GrowBut Mu a b) (k : GrowBut Mu b c) : GrowBut Mu a c := ⟨k.os.trans h.os, k.tape.trans h.tape, k.output.trans h.output, Nat.le_trans h.size k.size, fun i hi hn => (k.block i (Nat.lt_of_lt_of_le hi h.size) hn).trans (h.block i hi hn)⟩
theorem below (h : Below a.heap.size a b) : GrowBut Mu a b := ⟨h.os, h.tape, h.output, h.size, fun k hk _ => h.block k hk⟩
theorem grown {row : Option Nat} (h : a.grownBy b row) (hr : ∀ r, row = some r → Mu r ∨ a.heap.size ≤ r) : GrowBut Mu a b := ⟨h.os, h.tape, h.output, h.size, fun k hk hn => h.block k hk (fun e => by rcases hr k e.symm with h | h; exact hn h; omega)⟩
theorem blk (h : GrowBut Mu a b) {g : Nat} {t : TypeId} {cs : Array Value} (hb : BlkIs a g t cs) (hn : ¬ Mu g) : BlkIs b g t cs := (h.block g hb.lt hn).trans hb
theorem cell (h : GrowBut Mu a b) {p : Addr} {v : Value} (hc : a.cell? p = some v) (hl : p.block < a.heap.size) (hn : ¬ Mu p.block) : b.cell? p = some v := (World.cell?_of_block (h.block _ hl hn)).trans hc
theorem toBelow (h : GrowBut Mu a b) {B : Nat} (hB : B ≤ a.heap.size) (hm : ∀ k, Mu k → B ≤ k) : Below B a b := ⟨h.os, h.tape, h.output, h.size, fun k hk => h.block k (by omega) (fun hn => by have := hm k hn; omega)⟩
theorem more {Nu : Nat → Prop} (h : GrowBut Mu a b) (hm : ∀ k, Mu k → k < a.heap.size → Nu k) : GrowBut Nu a b := ⟨h.os, h.tape, h.output, h.size, fun k hk hn => h.block k hk (fun hx => hn (hm k hx hk))⟩
theorem setCell (w : World) (p : Addr) (v : Value) (hm : Mu p.block) : GrowBut Mu w (w.setCell p v) := ⟨rfl, rfl, rfl, by simp, fun k _ hn => Below.heap_setCell w p v k (fun e => hn (by rw [e]; exact hm))⟩
theorem inB (h : GrowBut Mu a b) {A : Option Addr} {k : Nat} {x : List UInt8} (hi : InB a a.heap.size A k x) (hn : ∀ g o, A = some ⟨g, o, none⟩ → 0 < x.length → ¬ Mu g) : InB b b.heap.size A k x := by
  refine ⟨hi.le, hi.max, hi.nil, fun h0 => ?_⟩
  obtain ⟨g, o, e, hg, hc⟩ := hi.lies h0
  exact ⟨g, o, e, Nat.lt_of_lt_of_le hg h.size, fun j hj => (World.cell?_of_block (h.block g hg (hn g o e h0))).trans (hc j hj)⟩
end GrowBut
theorem DkIs.setOther {w : World} {p many : Nat} {g : Nat → List UInt8} {xs : List (Nat × List UInt8)} {left : Int} {stops : Bool} {q : Nat} {t : TypeId} {cs : Array Value} (h : DkIs w p many g xs left stops) (hq : BlkIs w q t cs) (h64 : cs.size ≤ 64) (hpq : p ≠ q) (a : Addr) (v : Value) (ha : a.block = q) : DkIs (w.setCell a v) p many g xs left stops := by
  subst ha
  exact h.other hq h64 hpq ⟨rfl, rfl, rfl, by simp, fun k _ hk => Below.heap_setCell w _ _ k (fun e => hk (by rw [e]))⟩
section
variable (w : World) (l d many lb hb : Nat) (g : Nat → List UInt8) (xs : List (Nat × List UInt8)) (left : Int) (hs he : Nat) (hz hc : Int)
set_option maxRecDepth 100000 in
set_option maxHeartbeats 8000000 in
theorem lay1_gives (hD : DkIs w d many g xs left false) (hl : xs.length ≤ 900000) (h1l : -1000000 ≤ left) (h2l : left ≤ 9223372036854775807) (hlb : BlkIs w lb 33 #[.pointer (some ⟨l, 0, none⟩)]) (hhb : BlkIs w hb 89 #[.int .u64 (hs : Int), .int .u64 (he : Int), .int .i64 hz, .int .i64 hc])
    (hcl : w.cell? ⟨l, 0, none⟩ = some (.pointer (some ⟨d, 0, none⟩))) (hld : l ≠ d) (hlbd : lb ≠ d) (hhbd : hb ≠ d) (hll : l < w.heap.size) (hok : headOk hz hc = true) (hm2 : 2 ≤ many) (hmax : many ≤ 1000000) :
    Calls Tryz.prog 79 #[.pointer (some ⟨hb, 0, none⟩), .pointer (some ⟨lb, 0, none⟩)] w fun e w' => e = .returned (.int .i64 0) ∧ DkIs w' d many g (xs ++ wrL (hs % 2) (hEnc hs he hz hc) 1) left false ∧ w.grownBy w' (some d) := by
  have hlen : (hEnc hs he hz hc).length = 64 := by
    unfold hEnc
    rw [if_pos hok]
    exact headW_length _ _ _ _
  have hE0 : hErr hz hc = 0 := by unfold hErr; rw [if_pos hok]
  have HE := encodeHead_gives hs he hz hc w
  rw [hE0] at HE
  unfold GivesBE at HE
  rw [hlen] at HE
  have HLEN := Lib.hid hlen
  have hdl := hD.lt
  obtain ⟨r, hr⟩ : ∃ r, r = hs % 2 := ⟨_, rfl⟩
  have HMOD := Lib.hid (show Int.tmod (hs : Int) 2 = (r : Int) by rw [hr]; exact (Int.ofNat_tmod hs 2).symm)
  have HWR := Lib.hid (show IntKind.i64.wrap (r : Int) = (r : Int) from wrap_i64_fr _ (by omega) (by omega))
  have hr2 : r < 2 := by omega
  rw [← hr]
  clear hr
  clear hlen hE0
  go_enter Tryz.func79, Tryz.ntmps79
  go_wp2_with (first
    | (refine wp_loadW rfl 89 (.tmp 0) rfl hb rfl rowHead hhb rfl ?_)
    | (go_at_call 80; refine HE.mono ?_; rintro e w1 ⟨A, c, rfl, hin, hB1⟩))
  have hD1 := hD.grow hB1
  have hlb1 := hlb.below hB1 hlb.lt
  have hhb1 := hhb.below hB1 hhb.lt
  have hcl1 : w1.cell? ⟨l, 0, none⟩ = some (.pointer (some ⟨d, 0, none⟩)) := (hB1.cell (p := ⟨l, 0, none⟩) hll).trans hcl
  have hs1 := hB1.size
  have c1 : w1.cell? ⟨hb, 0, none⟩ = some (.int .u64 (hs : Int)) := by rw [hhb1.cell]; rfl
  have hS0 : w1.drew.cell? ⟨lb, 0, none⟩ = some (.pointer (some ⟨l, 0, none⟩)) ∧ w1.drew.cell? ⟨hb, 0, none⟩ = some (.int .u64 (hs : Int)) := ⟨hlb1.boxed, c1⟩
  have HW := wwrite_gives w1.drew l d many g xs left (hD1.grow (Below.refl _ _).drew) hl h1l h2l hcl1 hld (by show l < w1.heap.size; omega) r 1 A c _ hin.drew (by rw [HLEN.out]) (by omega) (by omega) hmax
  rw [HLEN.out] at HW
  clear HE hD hlb hhb hcl
  refine RegF.start (fun W : World => W.cell? ⟨lb, 0, none⟩ = some (.pointer (some ⟨l, 0, none⟩)) ∧ W.cell? ⟨hb, 0, none⟩ = some (.int .u64 (hs : Int))) 9 (by kernel_rfl) ?_
  refine RegF.take 0 (.pointer (some ⟨l, 0, none⟩)) rfl (by kernel_rfl) (by kernel_rfl) (by kernel_rfl) (by kernel_rfl) (fun _ _ _ h => h) hS0 (RegF.yld rfl (fun W hW => by obtain ⟨e0, e1⟩ := hW; go_simp)) ?_
  simp only [List.getElem_toArray, List.getElem_cons_zero, Act.put, List.setIfInBounds_toArray, List.set_cons_zero, List.set_cons_succ]
  refine RegF.take 1 (.pointer (some ⟨l, 0, none⟩)) rfl (by kernel_rfl) (by kernel_rfl) (by kernel_rfl) (by kernel_rfl) (fun _ _ _ h => h) hS0 (RegF.yld rfl (fun W hW => by obtain ⟨e0, e1⟩ := hW; go_simp)) ?_
  simp only [List.getElem_toArray, List.getElem_cons_succ, List.getElem_cons_zero, Act.put, List.setIfInBounds_toArray, List.set_cons_zero, List.set_cons_succ]
  refine RegF.take 2 (.pointer (some ⟨l, 0, none⟩)) rfl (by kernel_rfl) (by kernel_rfl) (by kernel_rfl) (by kernel_rfl) (fun _ _ _ h => h) hS0 (RegF.yld rfl (fun W hW => by obtain ⟨e0, e1⟩ := hW; go_simp)) ?_
  simp only [List.getElem_toArray, List.getElem_cons_succ, List.getElem_cons_zero, Act.put, List.setIfInBounds_toArray, List.set_cons_zero, List.set_cons_succ]
  refine RegF.take 3 (.pointer (some ⟨hb, 0, none⟩)) rfl (by kernel_rfl) (by kernel_rfl) (by kernel_rfl) (by kernel_rfl) (fun _ _ _ h => h) hS0 (RegF.yld rfl (fun W hW => by obtain ⟨e0, e1⟩ := hW; go_simp)) ?_
  simp only [List.getElem_toArray, List.getElem_cons_succ, List.getElem_cons_zero, Act.put, List.setIfInBounds_toArray, List.set_cons_zero, List.set_cons_succ]
  refine RegF.take 4 (.int .u64 (hs : Int)) rfl (by kernel_rfl) (by kernel_rfl) (by kernel_rfl) (by kernel_rfl) (fun _ _ _ h => h) hS0 (RegF.yld rfl (fun W hW => by obtain ⟨e0, e1⟩ := hW; go_simp)) ?_
  simp only [List.getElem_toArray, List.getElem_cons_succ, List.getElem_cons_zero, Act.put, List.setIfInBounds_toArray, List.set_cons_zero, List.set_cons_succ]
  refine RegF.take 5 (.int .u64 (r : Int)) rfl (by kernel_rfl) (by kernel_rfl) (by kernel_rfl) (by kernel_rfl) (fun _ _ _ h => h) hS0 (RegF.yld rfl (fun W hW => by obtain ⟨e0, e1⟩ := hW; have e9 := HMOD.out; go_simp)) ?_
  simp only [List.getElem_toArray, List.getElem_cons_succ, List.getElem_cons_zero, Act.put, List.setIfInBounds_toArray, List.set_cons_zero, List.set_cons_succ]
  refine RegF.take 6 (.int .i64 (r : Int)) rfl (by kernel_rfl) (by kernel_rfl) (by kernel_rfl) (by kernel_rfl) (fun _ _ _ h => h) hS0 (RegF.yld rfl (fun W hW => by obtain ⟨e0, e1⟩ := hW; have e9 := HWR.out; go_simp)) ?_
  simp only [List.getElem_toArray, List.getElem_cons_succ, List.getElem_cons_zero, Act.put, List.setIfInBounds_toArray, List.set_cons_zero, List.set_cons_succ]
  refine RegF.take 7 (.slice A 64 c) rfl (by kernel_rfl) (by kernel_rfl) (by kernel_rfl) (by kernel_rfl) (fun _ _ _ h => h) hS0 (RegF.yld rfl (fun W hW => by obtain ⟨e0, e1⟩ := hW; go_simp)) ?_
  simp only [List.getElem_toArray, List.getElem_cons_succ, List.getElem_cons_zero, Act.put, List.setIfInBounds_toArray, List.set_cons_zero, List.set_cons_succ]
  refine RegF.one 8 (by kernel_rfl) ?_
  refine RegF.opC 51 #[.tmp 12, .tmp 16, .tmp 17] #[53, 3, 38] rfl rfl rfl (enters_of Tryz.func51 (by kernel_rfl) rfl) #[.pointer (some ⟨l, 0, none⟩), .int .i64 (r : Int), .slice A 64 c] (by simp only [List.map_toArray, List.map_cons, List.map_nil]; rfl) (HW.mono ?_)
  rintro e w2 ⟨rfl, hD2, hg2⟩
  have g12 : w1.grownBy w2 (some d) := (grownBy_drew w1 (some d)).trans hg2
  have q0 := hlb1.grown g12 (fun e => by injection e with e; omega)
  have q1 := hhb1.grown g12 (fun e => by injection e with e; omega)
  have q1c : w2.cell? ⟨hb, 0, none⟩ = some (.int .u64 (hs : Int)) := by rw [q1.cell]; rfl
  refine ⟨_, rfl, fun _ => ⟨q0.boxed, q1c⟩, ?_⟩
  simp only [List.getElem_toArray, List.getElem_cons_succ, List.getElem_cons_zero, Act.put, List.setIfInBounds_toArray, List.set_cons_zero, List.set_cons_succ]
  refine RegF.one 9 (by kernel_rfl) (RegF.opV (w' := w2) (.int .i64 0) rfl rfl (by go_simp) ⟨fun h => absurd rfl h, RegF.done (by kernel_rfl) ?_⟩)
  simp only [List.getElem_toArray, List.getElem_cons_succ, List.getElem_cons_zero, Act.put, List.setIfInBounds_toArray, List.set_cons_zero, List.set_cons_succ]
  clear HW hS0
  go_wp2
  go_ret
  exact ⟨rfl, hD2, (below_grownBy hB1 d).trans g12⟩
set_option maxRecDepth 100000 in
set_option maxHeartbeats 8000000 in
theorem lay2_gives (D : Option Addr) (fr pg : Int) (sr ep : Nat) (sz : Int) (A : Option Addr) (n c : Nat) (hlb : BlkIs w lb 33 #[.pointer (some ⟨l, 0, none⟩)]) (hhb : BlkIs w hb 89 #[.int .u64 (hs : Int), .int .u64 (he : Int), .int .i64 hz, .int .i64 hc]) (hlg : BlkIs w l 57 (lgC D fr pg sr ep sz A n c)) (hll : l ≠ lb) (hlh : l ≠ hb) :
    Calls Tryz.prog 81 #[.pointer (some ⟨hb, 0, none⟩), .pointer (some ⟨lb, 0, none⟩)] w fun e w' => e = .returned (.int .i64 0) ∧ w' = (w.drew.setCell ⟨l, 3, none⟩ (.int .u64 (hs : Int))).setCell ⟨l, 4, none⟩ (.int .u64 (he : Int)) ∧ BlkIs w' l 57 (lgC D fr pg hs he sz A n c) := by
  have c0 := hlb.boxed
  have c1 : w.cell? ⟨hb, 0, none⟩ = some (.int .u64 (hs : Int)) := by rw [hhb.cell]; rfl
  have c2 : w.cell? ⟨hb, 1, none⟩ = some (.int .u64 (he : Int)) := by rw [hhb.cell]; rfl
  have g3 : w.cell? ⟨l, 3, none⟩ = some (.int .u64 (sr : Int)) := by rw [hlg.cell]; rfl
  have g4 : w.cell? ⟨l, 4, none⟩ = some (.int .u64 (ep : Int)) := by rw [hlg.cell]; rfl
  have f1 := hlg.free 3
  have f2 := hlg.free 4
  go_enter Tryz.func81, Tryz.ntmps81
  go_wp2_with fail
  have hS0 : (w.drew.cell? ⟨lb, 0, none⟩ = some (.pointer (some ⟨l, 0, none⟩)) ∧ w.drew.cell? ⟨hb, 0, none⟩ = some (.int .u64 (hs : Int)) ∧ w.drew.cell? ⟨hb, 1, none⟩ = some (.int .u64 (he : Int))) ∧ w.drew.frozen? ⟨l, 3, none⟩ = false ∧ w.drew.frozen? ⟨l, 4, none⟩ = false := ⟨⟨c0, c1, c2⟩, f1, f2⟩
  refine RegF.start (fun W : World => (W.cell? ⟨lb, 0, none⟩ = some (.pointer (some ⟨l, 0, none⟩)) ∧ W.cell? ⟨hb, 0, none⟩ = some (.int .u64 (hs : Int)) ∧ W.cell? ⟨hb, 1, none⟩ = some (.int .u64 (he : Int))) ∧ W.frozen? ⟨l, 3, none⟩ = false ∧ W.frozen? ⟨l, 4, none⟩ = false) 11 (by kernel_rfl) ?_
  refine RegF.take 0 (.pointer (some ⟨l, 0, none⟩)) rfl (by kernel_rfl) (by kernel_rfl) (by kernel_rfl) (by kernel_rfl) (fun _ _ _ h => h) hS0 (RegF.yld rfl (fun W hW => by obtain ⟨⟨e0, e1, e2⟩, e3, e4⟩ := hW; go_simp)) ?_
  simp only [List.getElem_toArray, List.getElem_cons_zero, Act.put, List.setIfInBounds_toArray, List.set_cons_zero, List.set_cons_succ]
  refine RegF.take 1 (.pointer (some ⟨l, 0, none⟩)) rfl (by kernel_rfl) (by kernel_rfl) (by kernel_rfl) (by kernel_rfl) (fun _ _ _ h => h) hS0 (RegF.yld rfl (fun W hW => by obtain ⟨⟨e0, e1, e2⟩, e3, e4⟩ := hW; go_simp)) ?_
  simp only [List.getElem_toArray, List.getElem_cons_succ, List.getElem_cons_zero, Act.put, List.setIfInBounds_toArray, List.set_cons_zero, List.set_cons_succ]
  refine RegF.take 2 (.pointer (some ⟨hb, 0, none⟩)) rfl (by kernel_rfl) (by kernel_rfl) (by kernel_rfl) (by kernel_rfl) (fun _ _ _ h => h) hS0 (RegF.yld rfl (fun W hW => by obtain ⟨⟨e0, e1, e2⟩, e3, e4⟩ := hW; go_simp)) ?_
  simp only [List.getElem_toArray, List.getElem_cons_succ, List.getElem_cons_zero, Act.put, List.setIfInBounds_toArray, List.set_cons_zero, List.set_cons_succ]
  refine RegF.take 3 (.int .u64 (hs : Int)) rfl (by kernel_rfl) (by kernel_rfl) (by kernel_rfl) (by kernel_rfl) (fun _ _ _ h => h) hS0 (RegF.yld rfl (fun W hW => by obtain ⟨⟨e0, e1, e2⟩, e3, e4⟩ := hW; go_simp)) ?_
  simp only [List.getElem_toArray, List.getElem_cons_succ, List.getElem_cons_zero, Act.put, List.setIfInBounds_toArray, List.set_cons_zero, List.set_cons_succ]
  refine RegF.take 4 (.pointer (some ⟨hb, 1, none⟩)) rfl (by kernel_rfl) (by kernel_rfl) (by kernel_rfl) (by kernel_rfl) (fun _ _ _ h => h) hS0 (RegF.yld rfl (fun W hW => by obtain ⟨⟨e0, e1, e2⟩, e3, e4⟩ := hW; go_simp)) ?_
  simp only [List.getElem_toArray, List.getElem_cons_succ, List.getElem_cons_zero, Act.put, List.setIfInBounds_toArray, List.set_cons_zero, List.set_cons_succ]
  refine RegF.take 5 (.int .u64 (he : Int)) rfl (by kernel_rfl) (by kernel_rfl) (by kernel_rfl) (by kernel_rfl) (fun _ _ _ h => h) hS0 (RegF.yld rfl (fun W hW => by obtain ⟨⟨e0, e1, e2⟩, e3, e4⟩ := hW; go_simp)) ?_
  simp only [List.getElem_toArray, List.getElem_cons_succ, List.getElem_cons_zero, Act.put, List.setIfInBounds_toArray, List.set_cons_zero, List.set_cons_succ]
  refine RegF.take 6 (.pointer (some ⟨l, 0, none⟩)) rfl (by kernel_rfl) (by kernel_rfl) (by kernel_rfl) (by kernel_rfl) (fun _ _ _ h => h) hS0 (RegF.yld rfl (fun W hW => by obtain ⟨⟨e0, e1, e2⟩, e3, e4⟩ := hW; go_simp)) ?_
  simp only [List.getElem_toArray, List.getElem_cons_succ, List.getElem_cons_zero, Act.put, List.setIfInBounds_toArray, List.set_cons_zero, List.set_cons_succ]
  refine RegF.take 7 (.pointer (some ⟨l, 3, none⟩)) rfl (by kernel_rfl) (by kernel_rfl) (by kernel_rfl) (by kernel_rfl) (fun _ _ _ h => h) hS0 (RegF.yld rfl (fun W hW => by obtain ⟨⟨e0, e1, e2⟩, e3, e4⟩ := hW; go_simp)) ?_
  simp only [List.getElem_toArray, List.getElem_cons_succ, List.getElem_cons_zero, Act.put, List.setIfInBounds_toArray, List.set_cons_zero, List.set_cons_succ]
  have hl1 := hlg.drew.set 3 (.int .u64 (hs : Int))
  have g4' : (w.drew.setCell ⟨l, 3, none⟩ (.int .u64 (hs : Int))).cell? ⟨l, 4, none⟩ = some (.int .u64 (ep : Int)) := by rw [hl1.cell]; rfl
  have n1 : ¬ l = lb := hll
  have n2 : ¬ l = hb := hlh
  have hS1 : ((w.drew.setCell ⟨l, 3, none⟩ (.int .u64 (hs : Int))).cell? ⟨lb, 0, none⟩ = some (.pointer (some ⟨l, 0, none⟩)) ∧ (w.drew.setCell ⟨l, 3, none⟩ (.int .u64 (hs : Int))).cell? ⟨hb, 0, none⟩ = some (.int .u64 (hs : Int)) ∧ (w.drew.setCell ⟨l, 3, none⟩ (.int .u64 (hs : Int))).cell? ⟨hb, 1, none⟩ = some (.int .u64 (he : Int))) ∧ (w.drew.setCell ⟨l, 3, none⟩ (.int .u64 (hs : Int))).frozen? ⟨l, 3, none⟩ = false ∧ (w.drew.setCell ⟨l, 3, none⟩ (.int .u64 (hs : Int))).frozen? ⟨l, 4, none⟩ = false :=
    ⟨⟨(World.cell?_setCell_other _ _ _ _ (fun e => n1 (congrArg Addr.block e))).trans c0, (World.cell?_setCell_other _ _ _ _ (fun e => n2 (congrArg Addr.block e))).trans c1, (World.cell?_setCell_other _ _ _ _ (fun e => n2 (congrArg Addr.block e))).trans c2⟩, hl1.free 3, hl1.free 4⟩
  refine RegF.one 8 (by kernel_rfl) (RegF.opS (w' := w.drew.setCell ⟨l, 3, none⟩ (.int .u64 (hs : Int))) rfl rfl (by go_simp) ⟨fun _ => hS1, ?_⟩)
  simp only [List.getElem_toArray, List.getElem_cons_succ, List.getElem_cons_zero, Act.put]
  refine RegF.one 9 (by kernel_rfl) (RegF.opV (w' := w.drew.setCell ⟨l, 3, none⟩ (.int .u64 (hs : Int))) (.pointer (some ⟨l, 0, none⟩)) rfl rfl (by obtain ⟨⟨e0, e1, e2⟩, e3, e4⟩ := hS1; go_simp) ⟨fun _ => hS1, ?_⟩)
  simp only [List.getElem_toArray, List.getElem_cons_succ, List.getElem_cons_zero, Act.put, List.setIfInBounds_toArray, List.set_cons_zero, List.set_cons_succ]
  refine RegF.one 10 (by kernel_rfl) (RegF.opV (w' := w.drew.setCell ⟨l, 3, none⟩ (.int .u64 (hs : Int))) (.pointer (some ⟨l, 4, none⟩)) rfl rfl (by obtain ⟨⟨e0, e1, e2⟩, e3, e4⟩ := hS1; go_simp) ⟨fun _ => hS1, ?_⟩)
  simp only [List.getElem_toArray, List.getElem_cons_succ, List.getElem_cons_zero, Act.put, List.setIfInBounds_toArray, List.set_cons_zero, List.set_cons_succ]
  obtain ⟨_, _, f5⟩ := hS1
  refine RegF.one 11 (by kernel_rfl) (RegF.opS (w' := (w.drew.setCell ⟨l, 3, none⟩ (.int .u64 (hs : Int))).setCell ⟨l, 4, none⟩ (.int .u64 (he : Int))) rfl rfl (by go_simp) ⟨fun h => absurd rfl h, RegF.done (by kernel_rfl) ?_⟩)
  simp only [List.getElem_toArray, List.getElem_cons_succ, List.getElem_cons_zero, Act.put]
  clear hS0
  go_wp2
  go_ret
  exact ⟨rfl, rfl, hl1.set 4 (.int .u64 (he : Int))⟩
set_option maxRecDepth 100000 in
set_option maxHeartbeats 8000000 in
theorem lay_gives (fr pg : Int) (sr ep : Nat) (sz : Int) (A : Option Addr) (n c : Nat) (hD : DkIs w d many g xs left false) (hl : xs.length ≤ 900000) (h1l : -1000000 ≤ left) (h2l : left ≤ 9223372036854775807) (hlg : BlkIs w l 57 (lgC (some ⟨d, 0, none⟩) fr pg sr ep sz A n c)) (hld : l ≠ d) (hok : headOk hz hc = true) (hm2 : 2 ≤ many) (hmax : many ≤ 1000000) :
    Calls Tryz.prog 40 #[.pointer (some ⟨l, 0, none⟩), .agg #[.int .u64 (hs : Int), .int .u64 (he : Int), .int .i64 hz, .int .i64 hc]] w fun e w' => e = .returned (.int .i64 0) ∧ DkIs w' d many (laid g (xs ++ wrL (hs % 2) (hEnc hs he hz hc) 1)) [] left false ∧ BlkIs w' l 57 (lgC (some ⟨d, 0, none⟩) fr pg hs he sz A n c) ∧ GrowBut (fun k => k = d ∨ k = l) w w' := by
  have hdl := hD.lt
  have hll := hlg.lt
  have k0 : w.cell? ⟨l, 0, none⟩ = some (.pointer (some ⟨d, 0, none⟩)) := by rw [hlg.cell]; rfl
  obtain ⟨W1, hW1⟩ : ∃ W1, W1 = (((w.alloc (.cells #[.pointer (some ⟨l, 0, none⟩)] 33)).alloc (.cells #[.int .u64 (hs : Int), .int .u64 (he : Int), .int .i64 hz, .int .i64 hc] 89)).alloc (.cells #[.func (.func 79) #[] #[.pointer (some ⟨w.heap.size + 1, 0, none⟩), .pointer (some ⟨w.heap.size, 0, none⟩)], .func (.func 52) #[.pointer (some ⟨d, 0, none⟩)] #[], .func (.func 81) #[] #[.pointer (some ⟨w.heap.size + 1, 0, none⟩), .pointer (some ⟨w.heap.size, 0, none⟩)]] 42)) := ⟨_, rfl⟩
  have hB1 : Below w.heap.size w W1 := by rw [hW1]; exact (((Below.refl _ w).alloc (Nat.le_refl _) _).alloc (by simp) _).alloc (by simp; omega) _
  have b0 : BlkIs W1 w.heap.size 33 #[.pointer (some ⟨l, 0, none⟩)] := by rw [hW1]; exact ((BlkIs.new w _ _).alloc _).alloc _
  have b1 : BlkIs W1 (w.heap.size + 1) 89 #[.int .u64 (hs : Int), .int .u64 (he : Int), .int .i64 hz, .int .i64 hc] := by
    have := (BlkIs.new (w.alloc (.cells #[.pointer (some ⟨l, 0, none⟩)] 33)) 89 #[.int .u64 (hs : Int), .int .u64 (he : Int), .int .i64 hz, .int .i64 hc])
    rw [World.size_alloc] at this
    rw [hW1]
    exact this.alloc _
  have b2 : BlkIs W1 (w.heap.size + 1 + 1) 42 #[.func (.func 79) #[] #[.pointer (some ⟨w.heap.size + 1, 0, none⟩), .pointer (some ⟨w.heap.size, 0, none⟩)], .func (.func 52) #[.pointer (some ⟨d, 0, none⟩)] #[], .func (.func 81) #[] #[.pointer (some ⟨w.heap.size + 1, 0, none⟩), .pointer (some ⟨w.heap.size, 0, none⟩)]] := by
    have := BlkIs.new ((w.alloc (.cells #[.pointer (some ⟨l, 0, none⟩)] 33)).alloc (.cells #[.int .u64 (hs : Int), .int .u64 (he : Int), .int .i64 hz, .int .i64 hc] 89)) 42 #[.func (.func 79) #[] #[.pointer (some ⟨w.heap.size + 1, 0, none⟩), .pointer (some ⟨w.heap.size, 0, none⟩)], .func (.func 52) #[.pointer (some ⟨d, 0, none⟩)] #[], .func (.func 81) #[] #[.pointer (some ⟨w.heap.size + 1, 0, none⟩), .pointer (some ⟨w.heap.size, 0, none⟩)]]
    rw [World.size_alloc, World.size_alloc] at this
    rw [hW1]
    exact this
  obtain ⟨fs, hfs⟩ : ∃ fs : List FnV, fs = [⟨79, #[], #[.pointer (some ⟨w.heap.size + 1, 0, none⟩), .pointer (some ⟨w.heap.size, 0, none⟩)]⟩, ⟨52, #[.pointer (some ⟨d, 0, none⟩)], #[]⟩, ⟨81, #[], #[.pointer (some ⟨w.heap.size + 1, 0, none⟩), .pointer (some ⟨w.heap.size, 0, none⟩)]⟩] := ⟨_, rfl⟩
  have HX : (wrL (hs % 2) (hEnc hs he hz hc) 1).length = 1 := wrL_length _ _ _
  have HS := steps_gives W1 (w.heap.size + 1 + 1) 3 fs
    (fun k V => (BlkIs V w.heap.size 33 #[.pointer (some ⟨l, 0, none⟩)] ∧ BlkIs V (w.heap.size + 1) 89 #[.int .u64 (hs : Int), .int .u64 (he : Int), .int .i64 hz, .int .i64 hc] ∧ BlkIs V (w.heap.size + 1 + 1) 42 #[.func (.func 79) #[] #[.pointer (some ⟨w.heap.size + 1, 0, none⟩), .pointer (some ⟨w.heap.size, 0, none⟩)], .func (.func 52) #[.pointer (some ⟨d, 0, none⟩)] #[], .func (.func 81) #[] #[.pointer (some ⟨w.heap.size + 1, 0, none⟩), .pointer (some ⟨w.heap.size, 0, none⟩)]] ∧ GrowBut (fun k => k = d ∨ k = l) w V) ∧
      (k = 0 → DkIs V d many g xs left false ∧ BlkIs V l 57 (lgC (some ⟨d, 0, none⟩) fr pg sr ep sz A n c)) ∧
      (k = 1 → DkIs V d many g (xs ++ wrL (hs % 2) (hEnc hs he hz hc) 1) left false ∧ BlkIs V l 57 (lgC (some ⟨d, 0, none⟩) fr pg sr ep sz A n c)) ∧
      (k = 2 → DkIs V d many (laid g (xs ++ wrL (hs % 2) (hEnc hs he hz hc) 1)) [] left false ∧ BlkIs V l 57 (lgC (some ⟨d, 0, none⟩) fr pg sr ep sz A n c)) ∧
      (k = 3 → DkIs V d many (laid g (xs ++ wrL (hs % 2) (hEnc hs he hz hc) 1)) [] left false ∧ BlkIs V l 57 (lgC (some ⟨d, 0, none⟩) fr pg hs he sz A n c)))
    (fun _ _ => False) (by rw [hfs]; simp)
    (by
      rintro k hk W ⟨⟨_, _, h3, _⟩, _⟩
      rw [h3.cell]
      subst hfs
      match k, hk with
      | 0, _ => rfl
      | 1, _ => rfl
      | 2, _ => rfl
      | k + 3, h => exact absurd h (by simp))
    (by
      rintro k hk W ⟨⟨h1, h2, h3, h4⟩, q0, q1, q2, q3⟩
      have hsz := h4.size
      subst hfs
      match k, hk with
      | 0, _ =>
        obtain ⟨hDw, hlw⟩ := q0 rfl
        have k0' : W.cell? ⟨l, 0, none⟩ = some (.pointer (some ⟨d, 0, none⟩)) := by rw [hlw.cell]; rfl
        refine ⟨enters_of Tryz.func79 (by kernel_rfl) rfl, (lay1_gives W l d many w.heap.size (w.heap.size + 1) g xs left hs he hz hc hDw hl h1l h2l h1 h2 k0' hld (by omega) (by omega) (by omega) hok hm2 hmax).mono ?_⟩
        rintro e w2 ⟨rfl, hD2, hg2⟩
        have n0 : some w.heap.size ≠ some d := fun e => by injection e with e; omega
        have n1 : some (w.heap.size + 1) ≠ some d := fun e => by injection e with e; omega
        have n2 : some (w.heap.size + 1 + 1) ≠ some d := fun e => by injection e with e; omega
        exact .inl ⟨rfl, ⟨h1.grown hg2 n0, h2.grown hg2 n1, h3.grown hg2 n2, h4.trans (GrowBut.grown hg2 (fun r e => by cases e; exact .inl (.inl rfl)))⟩, (fun e => by cases e), (fun _ => ⟨hD2, hlw.grown hg2 (fun e => by injection e with e; exact hld e)⟩), (fun e => by cases e), (fun e => by cases e)⟩
      | 1, _ =>
        obtain ⟨hDw, hlw⟩ := q1 rfl
        refine ⟨enters_of Tryz.func52 (by kernel_rfl) rfl, (sync_gives W d many g _ left false hDw rfl (by rw [List.length_append, HX]; omega) h1l h2l).mono ?_⟩
        rintro e w2 ⟨rfl, hD2, hg2⟩
        have n0 : some w.heap.size ≠ some d := fun e => by injection e with e; omega
        have n1 : some (w.heap.size + 1) ≠ some d := fun e => by injection e with e; omega
        have n2 : some (w.heap.size + 1 + 1) ≠ some d := fun e => by injection e with e; omega
        exact .inl ⟨rfl, ⟨h1.grown hg2 n0, h2.grown hg2 n1, h3.grown hg2 n2, h4.trans (GrowBut.grown hg2 (fun r e => by cases e; exact .inl (.inl rfl)))⟩, (fun e => by cases e), (fun e => by cases e), (fun _ => ⟨hD2, hlw.grown hg2 (fun e => by injection e with e; exact hld e)⟩), (fun e => by cases e)⟩
      | 2, _ =>
        obtain ⟨hDw, hlw⟩ := q2 rfl
        refine ⟨enters_of Tryz.func81 (by kernel_rfl) rfl, (lay2_gives W l w.heap.size (w.heap.size + 1) hs he hz hc (some ⟨d, 0, none⟩) fr pg sr ep sz A n c h1 h2 hlw (by omega) (by omega)).mono ?_⟩
        rintro e w2 ⟨rfl, rfl, hl2⟩
        have hld' : d ≠ l := fun e => hld e.symm
        have hl1 := hlw.drew.set 3 (.int .u64 (hs : Int))
        exact .inl ⟨rfl, ⟨(h1.drew.other (by show ¬ _ = l; omega) _).other (by show ¬ _ = l; omega) _, (h2.drew.other (by show ¬ _ = l; omega) _).other (by show ¬ _ = l; omega) _, (h3.drew.other (by show ¬ _ = l; omega) _).other (by show ¬ _ = l; omega) _,
          ((h4.trans (GrowBut.grown (grownBy_drew W none) (fun r e => by cases e))).trans (GrowBut.setCell _ _ _ (.inr rfl))).trans (GrowBut.setCell _ _ _ (.inr rfl))⟩, (fun e => by cases e), (fun e => by cases e), (fun e => by cases e), (fun _ => ⟨((hDw.grow (Below.refl _ _).drew).setOther hlw.drew (by show 7 ≤ 64; decide) hld' _ _ rfl).setOther hl1 (by simp; show 7 ≤ 64; decide) hld' _ _ rfl, hl2⟩)⟩
      | k + 3, h => exact absurd h (by simp))
    ⟨⟨b0, b1, b2, GrowBut.below hB1⟩, (fun _ => ⟨hD.grow hB1, hlg.below hB1 hll⟩), (fun e => by cases e), (fun e => by cases e), (fun e => by cases e)⟩
  have hfl : fs.length = 3 := by rw [hfs]; rfl
  rw [hfl, hW1] at HS
  clear hW1 b0 b1 b2 hB1 hfs hD
  go_enter Tryz.func40, Tryz.ntmps40
  go_wp2_with (go_at_call 47; refine HS.mono ?_; rintro e w2 (⟨rfl, ⟨_, _, _, h4⟩, _, _, _, q3⟩ | ⟨x, _, _, hx⟩))
  obtain ⟨q4, q5⟩ := q3 (by first | rfl | trivial)
  go_ret
  exact ⟨rfl, q4, q5, h4⟩
end
end Go.Proofs.YtocnabpplbeafaaGreat
/- Regions that draw their order, walked by hand, where no operation writes what is looked at: fin is no operation's number. -/
namespace Go.Proofs.YtocnabpplbeafaaGreat
open Go Go.RowKit Lou
namespace RegF
section
variable {P : Program} {ops : Array Oper} {Q : Exit → Act → World → Prop} {md : Region.Mode} {S : World → Prop} {fin : Nat}
theorem first0 {i : Nat} {oi : Oper} {v : Value} (hi : ops[i]? = some oi) (hsel : ∀ (j : Nat) (o : Oper) cs b, ops[j]? = some o → o.op ≠ .select cs b)
    (hQ : ∀ c a w, Q (.panic c) (a.put oi.dst v) w → Q (.panic c) a w) (hfin : ops[fin]? = none) :
    ∀ (fuel : Nat) (listed : Array Bool) (a : Act) (w : World),
      (∀ j oj, ops[j]? = some oj → j ≠ i → listed.getD j true = false → (∀ e ∈ oj.after, Region.binds md e = true → e.on ≠ i) → oi.apart ops oj = true) →
      i ∈ Region.ready md ops listed → YieldsIf P ops S oi v a → S w →
      wpAnyF P md ops Q S fin fuel (listed.setIfInBounds i true) (a.put oi.dst v) w → wpAnyF P md ops Q S fin (fuel + 1) listed a w := by
  intro fuel
  induction fuel with
  | zero =>
    intro listed a w _ hr hy hS H
    refine ⟨fun h => (by rw [h] at hr; cases hr), fun j hj => ?_⟩
    by_cases hji : j = i
    · subst hji; exact hy.wpOp hi hS ⟨fun _ => hS, H⟩
    · have := ready_mono hj hji
      rw [H.1] at this
      cases this
  | succ fuel ih =>
    intro listed a w hfree hr hy hS H
    refine ⟨fun h => (by rw [h] at hr; cases hr), fun j hj => ?_⟩
    by_cases hji : j = i
    · subst hji; exact hy.wpOp hi hS ⟨fun _ => hS, H⟩
    · have h1 := H.2 j (ready_mono hj hji)
      obtain ⟨hjun, oj, hoj, hall⟩ := mem_ready.1 hj
      have hnot : ∀ e ∈ oj.after, Region.binds md e = true → e.on ≠ i := fun e he hb heq => by
        have h1 := hall e he hb
        have h0 := (mem_ready.1 hr).1
        rw [heq] at h1
        rcases Nat.lt_or_ge i listed.size with h' | h'
        · simp [h'] at h0 h1; rw [h0] at h1; cases h1
        · simp [Array.getElem?_eq_none h'] at h1
      have hjf : j ≠ fin := fun e => by subst e; rw [hoj] at hfin; cases hfin
      have h2 := wpOp_putIf hoj (hfree j oj hoj hji hjun hnot) (fun cs b => hsel i oi cs b hi) (fun cs b => hsel j oj cs b hoj) hQ hy h1
      have hfree' : ∀ k ok, ops[k]? = some ok → k ≠ i → (listed.setIfInBounds j true).getD k true = false →
          (∀ e ∈ ok.after, Region.binds md e = true → e.on ≠ i) → oi.apart ops ok = true := fun k ok hk hki hun hno => by
        refine hfree k ok hk hki ?_ hno
        by_cases hjk : j = k
        · subst hjk; exact hjun
        · rw [getD_set_ne true hjk] at hun; exact hun
      refine wpOp_mono (fun a' w' h3 => ⟨h3.2.1, ih (listed.setIfInBounds j true) a' w' hfree' (ready_mono hr (Ne.symm hji)) h3.1 (h3.2.1 hjf) ?_⟩) h2
      rw [Array.setIfInBounds_comm _ _ hji]
      exact h3.2.2
theorem take0 {fuel : Nat} {listed : Array Bool} {a : Act} {w : World} (i : Nat) {oi : Oper} (v : Value) (hi : ops[i]? = some oi)
    (hs : Region.noSelect ops = true) (hf : Region.free md ops listed i = true) (hr : (Region.ready md ops listed).contains i = true) (hfin : ops[fin]? = none)
    (hQ : ∀ c a w, Q (.panic c) (a.put oi.dst v) w → Q (.panic c) a w) (hS : S w) (hy : YieldsIf P ops S oi v a)
    (h : wpAnyF P md ops Q S fin fuel (listed.setIfInBounds i true) (a.put oi.dst v) w) : wpAnyF P md ops Q S fin (fuel + 1) listed a w :=
  first0 hi (Region.noSelect_spec hs) hQ hfin fuel listed a w (Region.free_spec hi hf) (by simpa using hr) hy hS h
end
end RegF
end Go.Proofs.YtocnabpplbeafaaGreat
/- wal: the head of a new disk. -/
namespace Go.Proofs.YtocnabpplbeafaaGreat
open Go Go.RowKit Lou

namespace RegF
theorem opCT {P : Program} {ops : Array Oper} {Q : Exit → Act → World → Prop} {i : Nat} {o : Oper} {K : Act → World → Prop} {a : Act} {w : World} (f : FuncId) (x : Operand) (xs : Array Operand) (ts : Array TypeId) (ho : ops[i]? = some o) (hg : o.guard = none) (hc : o.op = .call { callee := .value x, args := xs, argTypes := ts })
    (hx : a.eval x = .func (.func f) #[] #[]) (hent : ∀ args w, (callFunc f args).run P w = .ok (.enter f args) w) (args : Array Value) (ha : xs.map a.eval = args) (h : Calls P f args w fun e w' => ∃ v, e = .returned v ∧ K (a.put o.dst v) w') : wpOp P ops Q i K a w := by
  unfold wpOp
  simp only [ho]
  rw [if_pos (by simp [Region.wanted, hg])]
  left
  have hr : (execOp a.eval o).run P w = .ok (.enter f args) w := by
    simp [execOp, hc, resolve, ha, hx, Deferred.ofValue, invoke, hent args w]
  unfold Oper.wp
  rw [hr, Oper.upon_enter]
  refine h.mono ?_
  rintro e w' ⟨v, rfl, hK⟩
  exact hK
end RegF
theorem isNaN64_gives (w : World) (x : Nat) : Calls Tryz.prog 110 #[.int .u64 (x : Int)] w fun e w' => e = .returned (.bool false) ∧ w = w' := by
  go_enter Tryz.func110, Tryz.ntmps110
  go_wp2
  go_ret
  exact ⟨rfl, rfl⟩
theorem compare64_gives (w : World) (x : Nat) : Calls Tryz.prog 77 #[.int .u64 (x : Int), .int .u64 (x : Int)] w fun e w' => e = .returned (.int .i64 0) ∧ w = w' := by
  have h0 : ¬ (x : Int) < (x : Int) := by omega
  go_enter Tryz.func77, Tryz.ntmps77
  go_wp2_with (go_at_call 110; refine (isNaN64_gives w x).mono ?_; rintro e w' ⟨rfl, rfl⟩)
  go_ret
  exact ⟨rfl, rfl⟩
theorem head1_gives (w : World) (x a b : Nat) (p q p' q' : Int) : Calls Tryz.prog 76 #[.agg #[.int .u64 (x : Int), .int .u64 (a : Int), .int .i64 p, .int .i64 q], .agg #[.int .u64 (x : Int), .int .u64 (b : Int), .int .i64 p', .int .i64 q']] w fun e w' => e = .returned (.int .i64 0) ∧ Below w.heap.size w w' := by
  have hB : Below w.heap.size w ((w.alloc (.cells #[.int .u64 (x : Int), .int .u64 (a : Int), .int .i64 p, .int .i64 q] 89)).alloc (.cells #[.int .u64 (x : Int), .int .u64 (b : Int), .int .i64 p', .int .i64 q'] 89)) := ((Below.refl _ w).alloc (Nat.le_refl _) _).alloc (by simp) _
  go_enter Tryz.func76, Tryz.ntmps76
  go_wp2_with (go_at_call 77; refine (compare64_gives _ x).mono ?_; rintro e w' ⟨rfl, rfl⟩)
  go_ret
  exact ⟨rfl, hB⟩
def zhd : List Value := [.int .u64 0, .int .u64 0, .int .i64 0, .int .i64 0]
set_option maxRecDepth 100000 in
set_option maxHeartbeats 8000000 in
theorem maxz_gives (w : World) (q : Nat) (T : TypeId) (hq : BlkIs w q T (zhd ++ zhd).toArray) : Calls Tryz.prog 78 #[.slice (some ⟨q, 0, none⟩) 2 2, .func (.func 76) #[] #[]] w fun e w' => e = .returned (.agg #[.int .u64 0, .int .u64 0, .int .i64 0, .int .i64 0]) ∧ Below w.heap.size w w' := by
  have hql := hq.lt
  have hr : w.rangeAt q 0 (zhd ++ zhd) := by
    have := hq.rangeOf 0 (n := 8)
    exact this
  have hr4 : w.rangeAt q 4 zhd := fun j v hj => by
    have := hr (4 + j) v (by rw [List.getElem?_append_right (by simp [zhd]), show 4 + j - zhd.length = j by simp [zhd]]; exact hj)
    simpa using this
  have hr0 : w.rangeAt q 0 zhd := fun j v hj => hr j v (by rw [List.getElem?_append_left (List.getElem?_eq_some_iff.1 hj).1]; exact hj)
  have hz1 : ∀ v ∈ (#[.int .u64 0, .int .u64 0, .int .i64 0, .int .i64 0] : Array Value).toList, v.oneCell' = true := by
    intro v hv
    simp at hv
    rcases hv with rfl | rfl <;> rfl
  have hBa : Below w.heap.size w (w.alloc (.cells #[.int .u64 0, .int .u64 0, .int .i64 0, .int .i64 0] 89)) := (Below.refl _ w).alloc (Nat.le_refl _) _
  have hr0a : (w.alloc (.cells #[.int .u64 0, .int .u64 0, .int .i64 0, .int .i64 0] 89)).rangeAt q 0 zhd := fun j v hj => (hBa.cell (p := ⟨q, 0 + j, none⟩) hql).trans (hr0 j v hj)
  have b1 := BlkIs.new (w.alloc (.cells #[.int .u64 0, .int .u64 0, .int .i64 0, .int .i64 0] 89)) 89 #[.int .u64 0, .int .u64 0, .int .i64 0, .int .i64 0]
  have b0 := (BlkIs.new w 89 #[.int .u64 0, .int .u64 0, .int .i64 0, .int .i64 0]).alloc (.cells #[.int .u64 0, .int .u64 0, .int .i64 0, .int .i64 0] 89)
  rw [World.size_alloc] at b1
  have hBb : Below w.heap.size w ((w.alloc (.cells #[.int .u64 0, .int .u64 0, .int .i64 0, .int .i64 0] 89)).alloc (.cells #[.int .u64 0, .int .u64 0, .int .i64 0, .int .i64 0] 89)) := hBa.alloc (by simp) _
  go_enter Tryz.func78, Tryz.ntmps78
  go_wp2_with (first
    | (refine wp_exec rfl (x_loadM rowHead hr0a rfl rfl rfl) ?_)
    | (refine wp_storeW rfl 89 (.tmp 5) (.tmp 13) rfl (w.heap.size + 1) rfl rfl rowHead b1 rfl rfl hz1 ?_))
  have bS := b1.setRow zhd.toArray
  have bS0 := b0.setRow_ne (k := w.heap.size + 1) (by omega) zhd.toArray
  have hBs : Below w.heap.size w (((w.alloc (.cells #[.int .u64 0, .int .u64 0, .int .i64 0, .int .i64 0] 89)).alloc (.cells #[.int .u64 0, .int .u64 0, .int .i64 0, .int .i64 0] 89)).setRow (w.heap.size + 1) zhd.toArray) := below_setRow hBb (by omega) _
  generalize ((w.alloc (.cells #[.int .u64 0, .int .u64 0, .int .i64 0, .int .i64 0] 89)).alloc (.cells #[.int .u64 0, .int .u64 0, .int .i64 0, .int .i64 0] 89)).setRow (w.heap.size + 1) zhd.toArray = W1 at *
  clear hr0a b1 b0 hBa hBb hr0 hr hq
  go_loopw [6] (fun i wr => (i = .int .i64 1 ∨ i = .int .i64 2) ∧ BlkIs wr w.heap.size 89 zhd.toArray ∧ BlkIs wr (w.heap.size + 1) 89 zhd.toArray ∧ Below w.heap.size w wr) (fun i _ => 2 - (intOf i).toNat)
  case atStart => exact ⟨.inl rfl, bS0, bS, hBs⟩
  case round =>
    obtain ⟨hi, c0, c1, hB⟩ := hrel
    rcases hi with rfl | rfl
    · have hr4' : ∀ W, Below wr.heap.size wr W → W.rangeAt q 4 zhd := fun W hW j v hj => ((hB.trans (hW.mono hB.size)).cell (p := ⟨q, 4 + j, none⟩) hql).trans (hr4 j v hj)
      go_wp2_with fail
      have hS0 : Below wr.heap.size wr wr.drew := (Below.refl _ _).drew
      refine RegF.start (fun W : World => Below wr.heap.size wr W) 99 (by kernel_rfl) ?_
      refine RegF.take0 0 (.func (.func 76) #[] #[]) rfl (by kernel_rfl) (by kernel_rfl) (by kernel_rfl) rfl (fun _ _ _ h => h) hS0 (RegF.yld rfl (fun W hW => by go_simp)) ?_
      simp only [List.getElem_toArray, List.getElem_cons_zero, Act.put, List.setIfInBounds_toArray, List.set_cons_zero, List.set_cons_succ]
      refine RegF.take0 1 (.slice (some ⟨q, 0, none⟩) 2 2) rfl (by kernel_rfl) (by kernel_rfl) (by kernel_rfl) rfl (fun _ _ _ h => h) hS0 (RegF.yld rfl (fun W hW => by go_simp)) ?_
      simp only [List.getElem_toArray, List.getElem_cons_succ, List.getElem_cons_zero, Act.put, List.setIfInBounds_toArray, List.set_cons_zero, List.set_cons_succ]
      refine RegF.take0 2 (.int .i64 1) rfl (by kernel_rfl) (by kernel_rfl) (by kernel_rfl) rfl (fun _ _ _ h => h) hS0 (RegF.yld rfl (fun W hW => by go_simp)) ?_
      simp only [List.getElem_toArray, List.getElem_cons_succ, List.getElem_cons_zero, Act.put, List.setIfInBounds_toArray, List.set_cons_zero, List.set_cons_succ]
      refine RegF.take0 3 (.pointer (some ⟨q, 4, none⟩)) rfl (by kernel_rfl) (by kernel_rfl) (by kernel_rfl) rfl (fun _ _ _ h => h) hS0 (RegF.yld rfl (fun W hW => by simp [execOp, go_sem, Act.eval])) ?_
      simp only [List.getElem_toArray, List.getElem_cons_succ, List.getElem_cons_zero, Act.put, List.setIfInBounds_toArray, List.set_cons_zero, List.set_cons_succ]
      refine RegF.take0 4 (.agg zhd.toArray) rfl (by kernel_rfl) (by kernel_rfl) (by kernel_rfl) rfl (fun _ _ _ h => h) hS0 (RegF.yld rfl (fun W hW => by exact x_loadM rowHead (hr4' W hW) rfl rfl rfl)) ?_
      simp only [List.getElem_toArray, List.getElem_cons_succ, List.getElem_cons_zero, Act.put, List.setIfInBounds_toArray, List.set_cons_zero, List.set_cons_succ]
      refine RegF.take0 5 (.agg zhd.toArray) rfl (by kernel_rfl) (by kernel_rfl) (by kernel_rfl) rfl (fun _ _ _ h => h) hS0 (RegF.yld rfl (fun W hW => by exact x_loadM rowHead (c1.below hW c1.lt).range rfl rfl rfl)) ?_
      simp only [List.getElem_toArray, List.getElem_cons_succ, List.getElem_cons_zero, Act.put, List.setIfInBounds_toArray, List.set_cons_zero, List.set_cons_succ]
      refine RegF.one 6 (by kernel_rfl) ?_
      refine RegF.opCT 76 (.tmp 20) #[.tmp 24, .tmp 25] #[89, 89] rfl rfl rfl rfl (enters_of Tryz.func76 (by kernel_rfl) rfl) #[.agg zhd.toArray, .agg zhd.toArray] (by simp only [List.map_toArray, List.map_cons, List.map_nil]; rfl) ((head1_gives wr.drew 0 0 0 0 0 0 0).mono ?_)
      rintro e w2 ⟨rfl, hB2⟩
      have hB02 : Below wr.heap.size wr w2 := hS0.trans (hB2.mono (Nat.le_refl _))
      refine ⟨_, rfl, fun _ => hB02, ?_⟩
      simp only [List.getElem_toArray, List.getElem_cons_succ, List.getElem_cons_zero, Act.put, List.setIfInBounds_toArray, List.set_cons_zero, List.set_cons_succ]
      refine RegF.one 7 (by kernel_rfl) (RegF.opV (w' := w2) (.bool false) rfl rfl (by go_simp) ⟨fun _ => hB02, RegF.done (by kernel_rfl) ?_⟩)
      simp only [List.getElem_toArray, List.getElem_cons_succ, List.getElem_cons_zero, Act.put, List.setIfInBounds_toArray, List.set_cons_zero, List.set_cons_succ]
      clear hr4 hr4'
      have d0 := c0.below hB02 c0.lt
      have d1 := c1.below hB02 c1.lt
      go_wp2
      go_roundw
      case rel => exact ⟨.inr rfl, d0, d1, hB.trans (hB02.mono hB.size)⟩
      case measure => simp [intOf]
    · clear hr4
      have hz2 : ∀ v ∈ zhd.toArray.toList, v.oneCell' = true := hz1
      go_wp2_with (first
        | (refine wp_loadW rfl 89 (.tmp 5) rfl (w.heap.size + 1) rfl rowHead c1 rfl ?_)
        | (refine wp_storeW rfl 89 (.tmp 4) (.tmp 32) rfl w.heap.size rfl rfl rowHead c0 rfl rfl hz2 ?_))
      refine bodyPost_ret_by (results_cellW 4 rfl rfl rowHead (c0.setRow _) (by rfl)) rfl ⟨rfl, below_setRow hB (Nat.le_refl _) _⟩
theorem isHead_zer : isHead zer64 = false := by decide +kernel
theorem decHV_zer : decHV zer64 = .tuple #[.agg zhd.toArray, .int .i64 150] := decHV_no isHead_zer
theorem results_cellW_tmp2 {fn : Func} {P : Program} {a : Act} {w : World} {g : Nat} {T t : TypeId} {cs : Array Value} {v v' : Value} (k m m' : Tmp) (h : fn.results = #[.cell k T, .tmp m, .tmp m']) (hk : a.eval (.tmp k) = .pointer (some ⟨g, 0, none⟩)) (hm : a.eval (.tmp m) = v) (hm' : a.eval (.tmp m') = v') {n : Nat} (hT : RowTy P T n) (hb : BlkIs w g t cs) (hn : cs.size = n) :
    (results fn a.tmps).run P w = .ok (.tuple #[.agg cs, v, v']) w := by
  have e : a.tmps.getD k undef = .pointer (some ⟨g, 0, none⟩) := hk
  have e2 : a.tmps.getD m undef = v := hm
  have e3 : a.tmps.getD m' undef = v' := hm'
  unfold results
  simp only [h]
  simp [← Array.getD_eq_getD_getElem?, e, e2, e3, asAddr, run_loadW (hn ▸ hT) hb, Result.andThen]
set_option maxRecDepth 100000 in
set_option maxHeartbeats 8000000 in
theorem head_new (w : World) (l d many : Nat) (left : Int) (hD : DkIs w d many (fun _ => zer64) [] left false) (hc : w.cell? ⟨l, 0, none⟩ = some (.pointer (some ⟨d, 0, none⟩))) (hll : l < w.heap.size) (hm2 : 2 ≤ many) (hmax : many ≤ 1000000) :
    Calls Tryz.prog 39 #[.pointer (some ⟨l, 0, none⟩)] w fun e w' => e = .returned (.tuple #[.agg zhd.toArray, .bool false, .int .i64 0]) ∧ Below w.heap.size w w' := by
  have HR : ∀ (i : Nat) (W : World), i < 2 → Below w.heap.size w W → Calls Tryz.prog 74 #[.pointer (some ⟨l, 0, none⟩), .int .i64 (i : Int), .int .i64 1] W fun e w' => ∃ A c, e = .returned (.tuple #[.slice A 64 c, .int .i64 0]) ∧ InB w' w'.heap.size A c zer64 ∧ Below W.heap.size W w' := fun i W hi hB =>
    wread_gives W l d many _ [] left false (hD.grow hB) rfl (by decide) ((hB.cell (p := ⟨l, 0, none⟩) hll).trans hc) (Nat.lt_of_lt_of_le hll hB.size) i 1 (by omega) hmax
  have hz1 : ∀ v ∈ zhd.toArray.toList, v.oneCell' = true := by
    intro v hv
    simp [zhd] at hv
    rcases hv with rfl | rfl <;> rfl
  have b0 := (BlkIs.new w 89 #[.int .u64 0, .int .u64 0, .int .i64 0, .int .i64 0]).alloc (.cells #[.int .u64 0, .int .u64 0, .int .i64 0, .int .i64 0, .int .u64 0, .int .u64 0, .int .i64 0, .int .i64 0] 123)
  have b1 := BlkIs.new (w.alloc (.cells #[.int .u64 0, .int .u64 0, .int .i64 0, .int .i64 0] 89)) 123 #[.int .u64 0, .int .u64 0, .int .i64 0, .int .i64 0, .int .u64 0, .int .u64 0, .int .i64 0, .int .i64 0]
  rw [World.size_alloc] at b1
  have hBb : Below w.heap.size w ((w.alloc (.cells #[.int .u64 0, .int .u64 0, .int .i64 0, .int .i64 0] 89)).alloc (.cells #[.int .u64 0, .int .u64 0, .int .i64 0, .int .i64 0, .int .u64 0, .int .u64 0, .int .i64 0, .int .i64 0] 123)) := ((Below.refl _ w).alloc (Nat.le_refl _) _).alloc (by simp) _
  clear hD
  go_enter Tryz.func39, Tryz.ntmps39
  go_wp2
  go_loopw [13, 6] (fun i v wr => ∃ k : Nat, k ≤ 2 ∧ i = .int .i64 (k : Int) ∧ v = .bool false ∧ BlkIs wr w.heap.size 89 zhd.toArray ∧ BlkIs wr (w.heap.size + 1) 123 (zhd ++ zhd).toArray ∧ Below w.heap.size w wr) (fun i _ _ => 2 - (intOf i).toNat)
  case atStart => exact ⟨0, by omega, rfl, rfl, b0, b1, hBb⟩
  case round =>
    obtain ⟨k, hk, rfl, rfl, c0, c1, hB⟩ := hrel
    by_cases hlt : k < 2
    · have HRk := HR k wr hlt hB
      have hwk : IntKind.i64.wrap ((k : Int) + 1) = (k : Int) + 1 := wrap_i64_fr _ (by omega) (by omega)
      clear HR b0 b1 hBb
      go_wp2_with (first
        | (go_at_call 74; refine HRk.mono ?_; rintro e w2 ⟨A, c, rfl, hin, hB2⟩)
        | (go_at_call 75; have HDD := decodeHead_gives w2 A c zer64 hin; rw [decHV_zer] at HDD; refine HDD.mono ?_; rintro e w3 ⟨rfl, hB3⟩; have b4 := BlkIs.new w3 89 #[.int .u64 0, .int .u64 0, .int .i64 0, .int .i64 0])
        | (refine wp_storeW rfl 89 (.tmp 10) (.tmp 31) rfl w3.heap.size rfl rfl rowHead b4 rfl rfl hz1 ?_))
      have hB4 : Below wr.heap.size wr ((w3.alloc (.cells #[.int .u64 0, .int .u64 0, .int .i64 0, .int .i64 0] 89)).setRow w3.heap.size zhd.toArray) := below_setRow ((hB2.trans (hB3.mono hB2.size)).alloc (Nat.le_trans hB2.size hB3.size) _) (Nat.le_trans hB2.size hB3.size) _
      go_roundw
      case rel => exact ⟨k + 1, by omega, by simp, rfl, c0.below hB4 c0.lt, c1.below hB4 c1.lt, hB.trans (hB4.mono hB.size)⟩
      case measure => simp [intOf]; omega
    · obtain rfl : k = 2 := by omega
      have HM := maxz_gives wr (w.heap.size + 1) _ c1
      clear HR b0 b1 hBb
      go_wp2_with (first
        | (go_at_call 78; refine HM.mono ?_; rintro e w5 ⟨rfl, hB5⟩; have d0 := c0.below hB5 c0.lt)
        | (refine wp_storeW rfl 89 (.tmp 2) (.tmp 49) rfl w.heap.size rfl rfl rowHead d0 rfl rfl hz1 ?_))
      refine bodyPost_ret_by (results_cellW_tmp2 2 3 4 rfl rfl rfl rfl rowHead (d0.setRow _) (by rfl)) rfl ⟨rfl, below_setRow (hB.trans (hB5.mono hB.size)) (Nat.le_refl _) _⟩
end Go.Proofs.YtocnabpplbeafaaGreat
/- wal: Open. -/
namespace Go.Proofs.YtocnabpplbeafaaGreat
open Go Go.RowKit Lou

set_option maxRecDepth 100000 in
theorem count_zero (w : World) (l : Nat) (fr : Int) (h1 : 0 ≤ fr) (hc : w.cell? ⟨l, 1, none⟩ = some (.int .i64 fr)) : Calls Tryz.prog 41 #[.pointer (some ⟨l, 0, none⟩), .int .i64 0] w fun e w' => e = .returned (.int .i64 0) ∧ w = w' := by
  have hmin : (if fr < 0 then fr else 0) = 0 := by rw [if_neg (by omega)]
  go_enter Tryz.func41, Tryz.ntmps41
  go_wp2
  go_loopw [20] (fun i wr => i = .int .i64 0 ∧ wr = w) (fun _ _ => 0)
  case atStart => exact ⟨rfl, rfl⟩
  case round =>
    obtain ⟨rfl, rfl⟩ := hrel
    go_wp2
    go_ret
    exact ⟨rfl, rfl⟩
/-- What stands at Open's label. -/
def OpNone (v : Int) (a : Act) : Prop := ∃ u0 u1 u2 u3 u4 u5 u6 u8 u9 u10 u11 u12 u13 u14 u15 u16 u17 u18 u19 u20 u21 u22 u23 u24 u25 u26 u27 u28 u29 u30 u31 u32 u33 u34 u35 u36 u37 u38 u39 u40 u41 u42 u43 u44 u45 u46 u47 u48 u49 u50 u51 u52 u53 u54 u55 u56 u57 u58 u59 u60 u61 u62 u63 u64 u65 u66 u67 u68 u69 u70, a = { tmps := #[u0, u1, u2, u3, u4, u5, u6, .int .i64 v, u8, u9, u10, u11, u12, u13, u14, u15, u16, u17, u18, u19, u20, u21, u22, u23, u24, u25, u26, u27, u28, u29, u30, u31, u32, u33, u34, u35, u36, u37, u38, u39, u40, u41, u42, u43, u44, u45, u46, u47, u48, u49, u50, u51, u52, u53, u54, u55, u56, u57, u58, u59, u60, u61, u62, u63, u64, u65, u66, u67, u68, u69, u70], defers := [] }
end Go.Proofs.YtocnabpplbeafaaGreat
/- wal: Open of a new disk. -/
namespace Go.Proofs.YtocnabpplbeafaaGreat
open Go Go.RowKit Lou

theorem setCell_grown (w : World) (p : Addr) (v : Value) : w.grownBy (w.setCell p v) (some p.block) := ⟨rfl, rfl, rfl, by simp, fun k _ hk => Below.heap_setCell _ _ _ k (fun e => hk (by rw [e]))⟩
theorem setRow_grown (w : World) (q : Nat) (cs : Array Value) : w.grownBy (w.setRow q cs) (some q) := ⟨by simp [World.setRow], by simp [World.setRow], by simp [World.setRow], by simp [World.setRow], fun k _ hk => setRow_other w q k cs (fun e => hk (by rw [e]))⟩
theorem DkIs.setRowO {w : World} {p many : Nat} {g : Nat → List UInt8} {xs : List (Nat × List UInt8)} {left : Int} {stops : Bool} {q : Nat} {t : TypeId} {cs : Array Value} (h : DkIs w p many g xs left stops) (hq : BlkIs w q t cs) (h64 : cs.size ≤ 64) (hpq : p ≠ q) (cs' : Array Value) : DkIs (w.setRow q cs') p many g xs left stops :=
  h.other hq h64 hpq (setRow_grown w q cs')
set_option maxRecDepth 100000 in
set_option maxHeartbeats 16000000 in
theorem open_new (w : World) (fr pg : Int) (d many : Nat) (left : Int) (hD : DkIs w d many (fun _ => zer64) [] left false) (hok : planOk fr pg = true) (hm : (many : Int) = 2 + 9 * fr + 8 * pg) (hmax : many ≤ 1000000) (h1l : -1000000 ≤ left) (h2l : left ≤ 9223372036854775807) :
    Calls Tryz.prog 11 #[.pointer (some ⟨d, 0, none⟩), .agg #[.int .i64 fr, .int .i64 pg]] w fun e w' => ∃ l g, e = .returned (.tuple #[.pointer (some ⟨l, 0, none⟩), .int .i64 0]) ∧ w.heap.size ≤ l ∧ DkIs w' d many g [] left false ∧ BlkIs w' l 57 (lgC (some ⟨d, 0, none⟩) fr pg 1 1 0 none 0 0) ∧ w.grownBy w' (some d) := by
  have hpl := (planOk_iff fr pg).1 hok
  have hB0 : Below w.heap.size w (w.alloc (.cells #[.int .i64 fr, .int .i64 pg] 23)) := (Below.refl _ w).alloc (Nat.le_refl _) _
  have b0 := BlkIs.new w 23 #[.int .i64 fr, .int .i64 pg]
  have HS := sectors_gives fr pg (w.alloc (.cells #[.int .i64 fr, .int .i64 pg] 23))
  have hp0 : plE (planOk fr pg) 0 1 = 0 := by rw [hok]; rfl
  unfold atV at HS
  rw [hp0, if_pos rfl, ← hm] at HS
  have hm0 : ¬ (many : Int) = 0 := by omega
  have hdl := hD.lt
  have hz1 : ∀ v ∈ zhd.toArray.toList, v.oneCell' = true := by
    intro v hv
    simp [zhd] at hv
    rcases hv with rfl | rfl <;> rfl
  have hz2 : ∀ v ∈ (#[.int .u64 1, .int .u64 1, .int .i64 0, .int .i64 0] : Array Value).toList, v.oneCell' = true := by
    intro v hv
    simp at hv
    rcases hv with rfl | rfl <;> rfl
  have hm2 : 2 ≤ many := by omega
  clear hm hok
  go_enter Tryz.func11, Tryz.ntmps11
  go_wp2_with fail
  refine wp_scope_straight ?_
  go_wp2_with (first
    | (refine wp_loadW rfl 23 (.tmp 3) rfl w.heap.size rfl rowPlan b0 rfl ?_)
    | (go_at_call 37; refine HS.mono ?_; rintro e w1 ⟨rfl, hB1⟩; have b1 := b0.below hB1 b0.lt; have k0 : w1.cell? ⟨w.heap.size, 0, none⟩ = some (.int .i64 fr) := (by rw [b1.cell]; rfl); have k1 : w1.cell? ⟨w.heap.size, 1, none⟩ = some (.int .i64 pg) := (by rw [b1.cell]; rfl); have hB01 := hB0.trans (hB1.mono hB0.size); have hs1 := hB01.size; have hB03 : Below w.heap.size w ((w1.alloc (.cells #[.pointer (some ⟨d, 0, none⟩), .int .i64 fr, .int .i64 pg, .int .u64 0, .int .u64 0, .int .i64 0, .slice none 0 0] 57)).alloc (.cells #[.int .u64 0, .int .u64 0, .int .i64 0, .int .i64 0] 89)) := (hB01.alloc hB01.size _).alloc (by have := hB01.size; simp; omega) _; have hD3 := hD.grow hB03; have HL := len_gives _ d many _ [] left false hD3; have bl : BlkIs ((w1.alloc (.cells #[.pointer (some ⟨d, 0, none⟩), .int .i64 fr, .int .i64 pg, .int .u64 0, .int .u64 0, .int .i64 0, .slice none 0 0] 57)).alloc (.cells #[.int .u64 0, .int .u64 0, .int .i64 0, .int .i64 0] 89)) w1.heap.size 57 (lgC (some ⟨d, 0, none⟩) fr pg 0 0 0 none 0 0) := (BlkIs.new w1 _ _).alloc _; have bh : BlkIs ((w1.alloc (.cells #[.pointer (some ⟨d, 0, none⟩), .int .i64 fr, .int .i64 pg, .int .u64 0, .int .u64 0, .int .i64 0, .slice none 0 0] 57)).alloc (.cells #[.int .u64 0, .int .u64 0, .int .i64 0, .int .i64 0] 89)) (w1.heap.size + 1) 89 #[.int .u64 0, .int .u64 0, .int .i64 0, .int .i64 0] := (by have := BlkIs.new (w1.alloc (.cells #[.pointer (some ⟨d, 0, none⟩), .int .i64 fr, .int .i64 pg, .int .u64 0, .int .u64 0, .int .i64 0, .slice none 0 0] 57)) 89 #[.int .u64 0, .int .u64 0, .int .i64 0, .int .i64 0]; rw [World.size_alloc] at this; exact this); have kl : World.cell? ((w1.alloc (.cells #[.pointer (some ⟨d, 0, none⟩), .int .i64 fr, .int .i64 pg, .int .u64 0, .int .u64 0, .int .i64 0, .slice none 0 0] 57)).alloc (.cells #[.int .u64 0, .int .u64 0, .int .i64 0, .int .i64 0] 89)) ⟨w1.heap.size, 0, none⟩ = some (.pointer (some ⟨d, 0, none⟩)) := (by rw [bl.cell]; rfl))
    | (go_at_call 38; refine HL.mono ?_; rintro e w' ⟨rfl, rfl⟩)
    | (go_at_call 39; refine (head_new _ w1.heap.size d many left hD3 kl bl.lt hm2 hmax).mono ?_; rintro e w4 ⟨rfl, hB4⟩; have bl4 := bl.below hB4 bl.lt; have bh4 := bh.below hB4 bh.lt; have hD4 := hD3.grow hB4)
    | (refine wp_storeW rfl 89 (.tmp 9) (.tmp 35) rfl (w1.heap.size + 1) rfl rfl rowHead bh4 rfl rfl hz1 ?_; have bh5 := bh4.setRow zhd.toArray; have bl5 := bl4.setRow_ne (k := w1.heap.size + 1) (by omega) zhd.toArray; have hD5 := hD4.setRowO bh4 (by decide) (by omega) zhd.toArray; have hG5 : w.grownBy (w4.setRow (w1.heap.size + 1) zhd.toArray) (some d) := grownBy_rest (below_grownBy (hB03.trans (hB4.mono hB03.size)) d) (setRow_grown _ _ _) (Nat.le_refl _) (fun r e => by cases e; omega))
    | (refine wp_storeW rfl 89 (.tmp 9) (.tmp 42) rfl (w1.heap.size + 1) rfl rfl rowHead bh5 rfl rfl hz2 ?_; have bh6 := bh5.setRow #[.int .u64 1, .int .u64 1, .int .i64 0, .int .i64 0]; have bl6 := bl5.setRow_ne (k := w1.heap.size + 1) (by omega) #[.int .u64 1, .int .u64 1, .int .i64 0, .int .i64 0]; have hD6 := hD5.setRowO bh5 (by decide) (by omega) #[.int .u64 1, .int .u64 1, .int .i64 0, .int .i64 0]; have hG6 := grownBy_rest hG5 (setRow_grown _ (w1.heap.size + 1) #[.int .u64 1, .int .u64 1, .int .i64 0, .int .i64 0]) (Nat.le_refl _) (fun r e => by cases e; omega))
    | (refine wp_loadW rfl 89 (.tmp 9) rfl (w1.heap.size + 1) rfl rowHead bh6 rfl ?_)
    | (go_at_call 40; refine (lay_gives _ w1.heap.size d many _ [] left 1 1 0 0 fr pg 0 0 0 none 0 0 hD6 (by decide) h1l h2l bl6 (by omega) (by decide) hm2 hmax).mono ?_; rintro e w7 ⟨rfl, hD7, bl7, hG7⟩; have bh7 := hG7.blk bh6 (by omega)))
  have hG8 : w.grownBy w7 (some d) := ⟨hG7.os.trans hG6.os, hG7.tape.trans hG6.tape, hG7.output.trans hG6.output, Nat.le_trans hG6.size hG7.size, fun k hk hn => (hG7.block k (Nat.lt_of_lt_of_le hk hG6.size) (fun e => by rcases e with e | e; exact hn (by rw [e]); omega)).trans (hG6.block k hk hn)⟩
  have hsl : d < w1.heap.size := by omega
  have hsl2 : w.heap.size ≤ w1.heap.size := by omega
  clear HS HL hD hD3 hD4 hD5 hD6 bl bl4 bl5 bl6 bh bh4 bh5 bh6 kl hB4 hB03 hG5 hG6 hG7 b0 b1 k0 k1 hB0 hB01 hB1 hs1 hz1 hz2
  generalize w1.heap.size = l at *
  have hlh : ¬ l = l + 1 := by omega
  have j0 : w7.drew.cell? ⟨l + 1, 0, none⟩ = some (.int .u64 1) := by rw [bh7.drew.cell]; rfl
  have bA := bl7.drew.set 3 (.int .u64 1)
  have bB := bA.set 4 (.int .u64 1)
  have bC := bB.set 5 (.int .i64 0)
  have hA := bh7.drew.other (p := ⟨l, 3, none⟩) (by show ¬ l + 1 = l; omega) (.int .u64 1)
  have hB := hA.other (p := ⟨l, 4, none⟩) (by show ¬ l + 1 = l; omega) (.int .u64 1)
  have hC := hB.other (p := ⟨l, 5, none⟩) (by show ¬ l + 1 = l; omega) (.int .i64 0)
  have dA := (hD7.grow (Below.refl _ _).drew).setOther bl7.drew (by show 7 ≤ 64; decide) (show d ≠ l by omega) ⟨l, 3, none⟩ (.int .u64 1) rfl
  have dB := dA.setOther bA (by simp; show 7 ≤ 64; decide) (show d ≠ l by omega) ⟨l, 4, none⟩ (.int .u64 1) rfl
  have dC := dB.setOther bB (by simp; show 7 ≤ 64; decide) (show d ≠ l by omega) ⟨l, 5, none⟩ (.int .i64 0) rfl
  have gC : w.grownBy (((w7.drew.setCell ⟨l, 3, none⟩ (.int .u64 1)).setCell ⟨l, 4, none⟩ (.int .u64 1)).setCell ⟨l, 5, none⟩ (.int .i64 0)) (some d) :=
    grownBy_rest (grownBy_rest (grownBy_rest (grownBy_rest hG8 (grownBy_drew w7 none) (Nat.le_refl _) (fun r e => by cases e)) (setCell_grown _ ⟨l, 3, none⟩ (.int .u64 1)) (Nat.le_refl _) (fun r e => by injection e with e; subst e; exact hsl2)) (setCell_grown _ ⟨l, 4, none⟩ (.int .u64 1)) (Nat.le_refl _) (fun r e => by injection e with e; subst e; exact hsl2)) (setCell_grown _ ⟨l, 5, none⟩ (.int .i64 0)) (Nat.le_refl _) (fun r e => by injection e with e; subst e; exact hsl2)
  have a3 : w7.drew.cell? ⟨l, 3, none⟩ = some (.int .u64 1) := by rw [bl7.drew.cell]; rfl
  have a4 : (w7.drew.setCell ⟨l, 3, none⟩ (.int .u64 1)).cell? ⟨l, 4, none⟩ = some (.int .u64 1) := by rw [bA.cell]; rfl
  have a5 : ((w7.drew.setCell ⟨l, 3, none⟩ (.int .u64 1)).setCell ⟨l, 4, none⟩ (.int .u64 1)).cell? ⟨l, 5, none⟩ = some (.int .i64 0) := by rw [bB.cell]; rfl
  have x3 : w7.cell? ⟨l, 3, none⟩ = some (.int .u64 1) := by rw [bl7.cell]; rfl
  have x4 : w7.cell? ⟨l, 4, none⟩ = some (.int .u64 1) := by rw [bl7.cell]; rfl
  have x5 : w7.cell? ⟨l, 5, none⟩ = some (.int .i64 0) := by rw [bl7.cell]; rfl
  have y3 := bl7.free 3
  have y4 := bl7.free 4
  have y5 := bl7.free 5
  have f3 := bl7.drew.free 3
  have f4 := bA.free 4
  have f5 := bB.free 5
  have e1 : (((w7.drew.setCell ⟨l, 3, none⟩ (.int .u64 1)).setCell ⟨l, 4, none⟩ (.int .u64 1)).setCell ⟨l, 5, none⟩ (.int .i64 0)).cell? ⟨l, 1, none⟩ = some (.int .i64 fr) := by rw [bC.cell]; rfl
  have e3 : (((w7.drew.setCell ⟨l, 3, none⟩ (.int .u64 1)).setCell ⟨l, 4, none⟩ (.int .u64 1)).setCell ⟨l, 5, none⟩ (.int .i64 0)).cell? ⟨l + 1, 3, none⟩ = some (.int .i64 0) := by rw [hC.cell]; rfl
  have hS0 := bh7.drew
  refine RegF.start (fun W : World => BlkIs W (l + 1) 89 #[.int .u64 1, .int .u64 1, .int .i64 0, .int .i64 0]) 17 (by kernel_rfl) ?_
  refine RegF.take 0 (.pointer (some ⟨l, 0, none⟩)) rfl (by kernel_rfl) (by kernel_rfl) (by kernel_rfl) (by kernel_rfl) (fun _ _ _ h => h) hS0 (RegF.yld rfl (fun W hW => by go_simp)) ?_
  simp only [List.getElem_toArray, List.getElem_cons_zero, Act.put, List.setIfInBounds_toArray, List.set_cons_zero, List.set_cons_succ]
  refine RegF.take 1 (.pointer (some ⟨l, 0, none⟩)) rfl (by kernel_rfl) (by kernel_rfl) (by kernel_rfl) (by kernel_rfl) (fun _ _ _ h => h) hS0 (RegF.yld rfl (fun W hW => by go_simp)) ?_
  simp only [List.getElem_toArray, List.getElem_cons_succ, List.getElem_cons_zero, Act.put, List.setIfInBounds_toArray, List.set_cons_zero, List.set_cons_succ]
  refine RegF.take 2 (.pointer (some ⟨l, 0, none⟩)) rfl (by kernel_rfl) (by kernel_rfl) (by kernel_rfl) (by kernel_rfl) (fun _ _ _ h => h) hS0 (RegF.yld rfl (fun W hW => by go_simp)) ?_
  simp only [List.getElem_toArray, List.getElem_cons_succ, List.getElem_cons_zero, Act.put, List.setIfInBounds_toArray, List.set_cons_zero, List.set_cons_succ]
  refine RegF.take 3 (.pointer (some ⟨l + 1, 0, none⟩)) rfl (by kernel_rfl) (by kernel_rfl) (by kernel_rfl) (by kernel_rfl) (fun _ _ _ h => h) hS0 (RegF.yld rfl (fun W hW => by go_simp)) ?_
  simp only [List.getElem_toArray, List.getElem_cons_succ, List.getElem_cons_zero, Act.put, List.setIfInBounds_toArray, List.set_cons_zero, List.set_cons_succ]
  refine RegF.take 4 (.int .u64 1) rfl (by kernel_rfl) (by kernel_rfl) (by kernel_rfl) (by kernel_rfl) (fun _ _ _ h => h) hS0 (RegF.yld rfl (fun W hW => by have q : W.cell? ⟨l + 1, 0, none⟩ = some (.int .u64 1) := (by rw [hW.cell]; rfl); go_simp)) ?_
  simp only [List.getElem_toArray, List.getElem_cons_succ, List.getElem_cons_zero, Act.put, List.setIfInBounds_toArray, List.set_cons_zero, List.set_cons_succ]
  refine RegF.take 5 (.pointer (some ⟨l + 1, 1, none⟩)) rfl (by kernel_rfl) (by kernel_rfl) (by kernel_rfl) (by kernel_rfl) (fun _ _ _ h => h) hS0 (RegF.yld rfl (fun W hW => by go_simp)) ?_
  simp only [List.getElem_toArray, List.getElem_cons_succ, List.getElem_cons_zero, Act.put, List.setIfInBounds_toArray, List.set_cons_zero, List.set_cons_succ]
  refine RegF.take 6 (.int .u64 1) rfl (by kernel_rfl) (by kernel_rfl) (by kernel_rfl) (by kernel_rfl) (fun _ _ _ h => h) hS0 (RegF.yld rfl (fun W hW => by have q : W.cell? ⟨l + 1, 1, none⟩ = some (.int .u64 1) := (by rw [hW.cell]; rfl); go_simp)) ?_
  simp only [List.getElem_toArray, List.getElem_cons_succ, List.getElem_cons_zero, Act.put, List.setIfInBounds_toArray, List.set_cons_zero, List.set_cons_succ]
  refine RegF.take 7 (.pointer (some ⟨l + 1, 2, none⟩)) rfl (by kernel_rfl) (by kernel_rfl) (by kernel_rfl) (by kernel_rfl) (fun _ _ _ h => h) hS0 (RegF.yld rfl (fun W hW => by go_simp)) ?_
  simp only [List.getElem_toArray, List.getElem_cons_succ, List.getElem_cons_zero, Act.put, List.setIfInBounds_toArray, List.set_cons_zero, List.set_cons_succ]
  refine RegF.take 8 (.int .i64 0) rfl (by kernel_rfl) (by kernel_rfl) (by kernel_rfl) (by kernel_rfl) (fun _ _ _ h => h) hS0 (RegF.yld rfl (fun W hW => by have q : W.cell? ⟨l + 1, 2, none⟩ = some (.int .i64 0) := (by rw [hW.cell]; rfl); go_simp)) ?_
  simp only [List.getElem_toArray, List.getElem_cons_succ, List.getElem_cons_zero, Act.put, List.setIfInBounds_toArray, List.set_cons_zero, List.set_cons_succ]
  refine RegF.one 9 (by kernel_rfl) (RegF.opV (w' := w7.drew) (.pointer (some ⟨l, 0, none⟩)) rfl rfl (by go_simp) ⟨fun _ => hS0, ?_⟩)
  simp only [List.getElem_toArray, List.getElem_cons_succ, List.getElem_cons_zero, Act.put, List.setIfInBounds_toArray, List.set_cons_zero, List.set_cons_succ]
  refine RegF.one 10 (by kernel_rfl) (RegF.opV (w' := w7.drew) (.pointer (some ⟨l, 3, none⟩)) rfl rfl (by go_simp) ⟨fun _ => hS0, ?_⟩)
  simp only [List.getElem_toArray, List.getElem_cons_succ, List.getElem_cons_zero, Act.put, List.setIfInBounds_toArray, List.set_cons_zero, List.set_cons_succ]
  refine RegF.one 11 (by kernel_rfl) (RegF.opS (w' := w7.drew.setCell ⟨l, 3, none⟩ (.int .u64 1)) rfl rfl (by go_simp) ⟨fun _ => hA, ?_⟩)
  simp only [List.getElem_toArray, List.getElem_cons_succ, List.getElem_cons_zero, Act.put]
  refine RegF.one 12 (by kernel_rfl) (RegF.opV (w' := w7.drew.setCell ⟨l, 3, none⟩ (.int .u64 1)) (.pointer (some ⟨l, 0, none⟩)) rfl rfl (by go_simp) ⟨fun _ => hA, ?_⟩)
  simp only [List.getElem_toArray, List.getElem_cons_succ, List.getElem_cons_zero, Act.put, List.setIfInBounds_toArray, List.set_cons_zero, List.set_cons_succ]
  refine RegF.one 13 (by kernel_rfl) (RegF.opV (w' := w7.drew.setCell ⟨l, 3, none⟩ (.int .u64 1)) (.pointer (some ⟨l, 4, none⟩)) rfl rfl (by go_simp) ⟨fun _ => hA, ?_⟩)
  simp only [List.getElem_toArray, List.getElem_cons_succ, List.getElem_cons_zero, Act.put, List.setIfInBounds_toArray, List.set_cons_zero, List.set_cons_succ]
  refine RegF.one 14 (by kernel_rfl) (RegF.opS (w' := (w7.drew.setCell ⟨l, 3, none⟩ (.int .u64 1)).setCell ⟨l, 4, none⟩ (.int .u64 1)) rfl rfl (by go_simp) ⟨fun _ => hB, ?_⟩)
  simp only [List.getElem_toArray, List.getElem_cons_succ, List.getElem_cons_zero, Act.put]
  refine RegF.one 15 (by kernel_rfl) (RegF.opV (w' := (w7.drew.setCell ⟨l, 3, none⟩ (.int .u64 1)).setCell ⟨l, 4, none⟩ (.int .u64 1)) (.pointer (some ⟨l, 0, none⟩)) rfl rfl (by go_simp) ⟨fun _ => hB, ?_⟩)
  simp only [List.getElem_toArray, List.getElem_cons_succ, List.getElem_cons_zero, Act.put, List.setIfInBounds_toArray, List.set_cons_zero, List.set_cons_succ]
  refine RegF.one 16 (by kernel_rfl) (RegF.opV (w' := (w7.drew.setCell ⟨l, 3, none⟩ (.int .u64 1)).setCell ⟨l, 4, none⟩ (.int .u64 1)) (.pointer (some ⟨l, 5, none⟩)) rfl rfl (by go_simp) ⟨fun _ => hB, ?_⟩)
  simp only [List.getElem_toArray, List.getElem_cons_succ, List.getElem_cons_zero, Act.put, List.setIfInBounds_toArray, List.set_cons_zero, List.set_cons_succ]
  refine RegF.one 17 (by kernel_rfl) (RegF.opS (w' := ((w7.drew.setCell ⟨l, 3, none⟩ (.int .u64 1)).setCell ⟨l, 4, none⟩ (.int .u64 1)).setCell ⟨l, 5, none⟩ (.int .i64 0)) rfl rfl (by go_simp) ⟨fun h => absurd rfl h, RegF.done (by kernel_rfl) ?_⟩)
  simp only [List.getElem_toArray, List.getElem_cons_succ, List.getElem_cons_zero, Act.put]
  have HC := count_zero _ l fr (by omega) e1
  have bC2 : BlkIs (((w7.drew.setCell ⟨l, 3, none⟩ (.int .u64 1)).setCell ⟨l, 4, none⟩ (.int .u64 1)).setCell ⟨l, 5, none⟩ (.int .i64 0)) l 57 (lgC (some ⟨d, 0, none⟩) fr pg 1 1 0 none 0 0) := bC
  clear x3 x4 x5 y3 y4 y5 a3 a4 a5 f3 f4 f5 hS0 hA hB bA bB bC hC dA dB bl7 bh7 hD7 j0 hG8
  generalize ((w7.drew.setCell ⟨l, 3, none⟩ (.int .u64 1)).setCell ⟨l, 4, none⟩ (.int .u64 1)).setCell ⟨l, 5, none⟩ (.int .i64 0) = w8 at *
  go_wp2_with (go_at_call 41; refine HC.mono ?_; rintro e w' ⟨rfl, rfl⟩)
  simp only [Exit.noGoto]
  exact ⟨by simp, _, results_tmp2 rfl _ _ _, ⟨l, _, rfl, hsl2, dC, bC2, gC⟩⟩
end Go.Proofs.YtocnabpplbeafaaGreat
