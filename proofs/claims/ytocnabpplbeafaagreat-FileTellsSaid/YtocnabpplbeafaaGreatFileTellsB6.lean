/- Texts that the proof of FileTells leans on, part 6. -/
import Derived.OrdersHeld
import Derived.Deep.OwnRows
import Derived.Deep.DeepCutAuto
import Derived.Deep.CutBlock
import Derived.Test.YtocnabpplbeafaaGreatFileTellsB5
/- disk: Write. -/
namespace Go.Proofs.YtocnabpplbeafaaGreat
open Go Go.RowKit Lou

theorem below_grownBy {w w' : World} (h : Below w.heap.size w w') (p : Nat) : w.grownBy w' (some p) := ⟨h.os, h.tape, h.output, h.size, fun j hj _ => h.block j hj⟩
def lft (stops : Bool) (left : Int) : Int := if stops then left - 1 else left
theorem InB.notDisk {w : World} {B q b o c : Nat} {l : List UInt8} (h : InB w B (some ⟨b, o, none⟩) c l) (h0 : 0 < l.length) {r many n c' : Nat} {A : Option Addr} {left : Int} {stops : Bool} {T : TypeId} (hb : BlkIs w q T (dkC r many A n c' left stops)) : b ≠ q := by
  intro e
  subst e
  obtain ⟨b', o', e, _, hc⟩ := h.lies h0
  injection e with e
  injection e with e1 e2
  subst e1 e2
  have h1 := hc 0 h0
  rw [hb.cell] at h1
  have hm := Array.mem_of_getElem? h1
  simp [dkC] at hm

section
variable (w : World) (p many : Nat) (g : Nat → List UInt8) (xs : List (Nat × List UInt8)) (left : Int) (stops : Bool)
/-- The last questions' answers, as one. -/
theorem asked3_gives (hD : DkIs w p many g xs left stops) (a b c : Ask) (ha : Answer w a) (hb : Answer w b) (hc : Answer w c) :
    Calls Tryz.prog 58 #[.pointer (some ⟨p, 0, none⟩), .slice (some ⟨w.heap.size, 0, none⟩) 3 3] (w.alloc (.cells #[a.fn, .int .i64 a.e, b.fn, .int .i64 b.e, c.fn, .int .i64 c.e] 113)) fun e w' => e = .returned (.int .i64 (firstE [a, b, c])) ∧ Below w.heap.size w w' := by
  have hB : Below w.heap.size w (w.alloc (.cells (askC [a, b, c]).toArray 113)) := (Below.refl _ w).alloc (Nat.le_refl _) _
  have h := asked_gives _ p many g xs left stops (hD.grow hB) [a, b, c] _ _ (asks_new w [a, b, c] (by simp)) (by simp) (fun x hx => by
    simp at hx
    rcases hx with rfl | rfl | rfl
    · exact ha.grow hB
    · exact hb.grow hB
    · exact hc.grow hB)
  exact h.mono fun e w' ⟨h1, h2⟩ => ⟨h1, hB.trans (h2.mono hB.size)⟩
theorem asked2_gives (hD : DkIs w p many g xs left stops) (a b : Ask) (ha : Answer w a) (hb : Answer w b) :
    Calls Tryz.prog 58 #[.pointer (some ⟨p, 0, none⟩), .slice (some ⟨w.heap.size, 0, none⟩) 2 2] (w.alloc (.cells #[a.fn, .int .i64 a.e, b.fn, .int .i64 b.e] 113)) fun e w' => e = .returned (.int .i64 (firstE [a, b])) ∧ Below w.heap.size w w' := by
  have hB : Below w.heap.size w (w.alloc (.cells (askC [a, b]).toArray 113)) := (Below.refl _ w).alloc (Nat.le_refl _) _
  have h := asked_gives _ p many g xs left stops (hD.grow hB) [a, b] _ _ (asks_new w [a, b] (by simp)) (by simp) (fun x hx => by
    simp at hx
    rcases hx with rfl | rfl
    · exact ha.grow hB
    · exact hb.grow hB)
  exact h.mono fun e w' ⟨h1, h2⟩ => ⟨h1, hB.trans (h2.mono hB.size)⟩
theorem asked1_gives (hD : DkIs w p many g xs left stops) (a : Ask) (ha : Answer w a) :
    Calls Tryz.prog 58 #[.pointer (some ⟨p, 0, none⟩), .slice (some ⟨w.heap.size, 0, none⟩) 1 1] (w.alloc (.cells #[a.fn, .int .i64 a.e] 113)) fun e w' => e = .returned (.int .i64 (firstE [a])) ∧ Below w.heap.size w w' := by
  have hB : Below w.heap.size w (w.alloc (.cells (askC [a]).toArray 113)) := (Below.refl _ w).alloc (Nat.le_refl _) _
  have h := asked_gives _ p many g xs left stops (hD.grow hB) [a] _ _ (asks_new w [a] (by simp)) (by simp) (fun x hx => by
    simp at hx
    rcases hx with rfl
    exact ha.grow hB)
  exact h.mono fun e w' ⟨h1, h2⟩ => ⟨h1, hB.trans (h2.mono hB.size)⟩

set_option maxRecDepth 100000 in
set_option maxHeartbeats 4000000 in
theorem sync_gives (hD : DkIs w p many g xs left stops) (hs : (stops && left == 0) = false) (hl : xs.length ≤ 1000000) (h1 : -1000000 ≤ left) (h2 : left ≤ 9223372036854775807) :
    Calls Tryz.prog 52 #[.pointer (some ⟨p, 0, none⟩)] w fun e w' => e = .returned (.int .i64 0) ∧ DkIs w' p many (laid g xs) [] (lft stops left) stops ∧ w.grownBy w' (some p) := by
  have HG := goes_gives w p
  have HA : ∀ W, Below w.heap.size w W → Calls Tryz.prog 58 #[.pointer (some ⟨p, 0, none⟩), .slice (some ⟨W.heap.size, 0, none⟩) 1 1] (W.alloc (.cells #[.func (.func 124) #[.pointer (some ⟨p, 0, none⟩)] #[], .int .i64 140] 113)) fun e w' => e = .returned (.int .i64 0) ∧ Below W.heap.size W w' := by
    intro W hB
    have := asked1_gives W p many g xs left stops (hD.grow hB) (askGoes p left stops) (ans_goes W p many g xs left stops (hD.grow hB))
    have hf : firstE [askGoes p left stops] = 0 := firstE_none _ (fun j h => by
      have : j = 0 := by simp at h; omega
      subst this
      exact hs)
    rw [hf] at this
    exact this
  clear hs
  go_enter Tryz.func52, Tryz.ntmps52
  go_wp2_with (first
    | (go_at_call 93; refine HG.mono ?_; rintro e w1 ⟨rfl, hB1⟩)
    | (go_at_call 58; refine (HA _ hB1).mono ?_; rintro e w2 ⟨rfl, hB2⟩))
  have hB3 : Below w.heap.size w w2 := hB1.trans (hB2.mono hB1.size)
  have hD2 := hD.grow hB3
  obtain ⟨r, A, c, hb, hm, hx⟩ := hD2.has
  have c0 : w2.drew.cell? ⟨p, 0, none⟩ = some (.map (some r)) := by rw [show w2.drew.cell? ⟨p, 0, none⟩ = w2.cell? ⟨p, 0, none⟩ from rfl, hb.cell]; rfl
  have c2 : w2.drew.cell? ⟨p, 2, none⟩ = some (.slice A xs.length c) := by rw [show w2.drew.cell? ⟨p, 2, none⟩ = w2.cell? ⟨p, 2, none⟩ from rfl, hb.cell]; rfl
  have hBd : Below w2.heap.size w2 w2.drew := (Below.refl _ w2).drew
  have HN := now_gives w2.drew r g A c xs (hm.grow hBd) (hx.grow hBd) hl
  clear HA HG hB1 hB2
  go_region_with (go_at_call 61; refine HN.mono ?_; rintro e w4 ⟨rfl, hm4, hB4⟩; have hb4 : BlkIs w4 p _ _ := hb.below (hBd.trans (hB4.mono hBd.size)) hb.lt; have f0 := hb4.free 0; have f2 := hb4.free 2; have k0 : w4.cell? ⟨p, 0, none⟩ = some (.map (some r)) := (by rw [hb4.cell]; rfl); have k2 : w4.cell? ⟨p, 2, none⟩ = some (.slice A xs.length c) := (by rw [hb4.cell]; rfl))
  all_goals
    have hD5 : DkIs ((w4.setCell ⟨p, 0, none⟩ (.map (some w2.heap.size))).setCell ⟨p, 2, none⟩ (.slice none 0 0)) p many (laid g xs) [] left stops := ⟨w2.heap.size, none, 0, (hb4.set 0 _).set 2 _, (hm4.setCell _ _).setCell _ _, InW.mt _ _⟩
    have hg5 : w.grownBy ((w4.setCell ⟨p, 0, none⟩ (.map (some w2.heap.size))).setCell ⟨p, 2, none⟩ (.slice none 0 0)) (some p) := grownBy_trans (below_grownBy (hB3.trans ((hBd.trans (hB4.mono hBd.size)).mono hB3.size)) p) (grownBy_trans (setCell_grownBy w4 ⟨p, 0, none⟩ _) (setCell_grownBy _ ⟨p, 2, none⟩ _))
    generalize (w4.setCell ⟨p, 0, none⟩ (.map (some w2.heap.size))).setCell ⟨p, 2, none⟩ (.slice none 0 0) = w5 at *
    go_wp2_with (go_at_call 94; refine (done_gives _ p many _ [] left stops hD5 h1 h2).mono ?_; rintro e w6 ⟨⟨v, rfl⟩, hD6, hg6, -⟩)
    go_ret
    exact ⟨rfl, hD6, grownBy_trans hg5 hg6⟩
end
end Go.Proofs.YtocnabpplbeafaaGreat
/- Regions that draw their order, walked by hand: loads may be taken first of cells that only the last operation (number fin), which waits for them, writes. -/
namespace Go.Proofs.YtocnabpplbeafaaGreat
open Go Go.RowKit Lou
namespace RegF
section
variable {P : Program} {ops : Array Oper} {Q : Exit → Act → World → Prop} {md : Region.Mode} {S : World → Prop} {fin : Nat}

def wpAnyF (P : Program) (md : Region.Mode) (ops : Array Oper) (Q : Exit → Act → World → Prop) (S : World → Prop) (fin : Nat) : Nat → Array Bool → Act → World → Prop
  | 0, listed, a, w => Region.ready md ops listed = [] ∧ Q .normal a w
  | fuel + 1, listed, a, w =>
    (Region.ready md ops listed = [] → Q .normal a w) ∧
    ∀ i ∈ Region.ready md ops listed, wpOp P ops Q i (fun a' w' => (i ≠ fin → S w') ∧ wpAnyF P md ops Q S fin fuel (listed.setIfInBounds i true) a' w') a w
theorem to_any : ∀ (fuel : Nat) (listed : Array Bool) (a : Act) (w : World), wpAnyF P md ops Q S fin fuel listed a w → wpAny P md ops Q fuel listed a w
  | 0, _, _, _, h => h
  | fuel + 1, _, _, _, h => ⟨h.1, fun i hi => wpOp_mono (fun a' w' h' => to_any fuel _ a' w' h'.2) (h.2 i hi)⟩
/-- i waits for j. -/
def waitsFor (md : Region.Mode) (ops : Array Oper) (i j : Nat) : Bool := match ops[i]? with | some o => o.after.toList.any fun e => Region.binds md e && e.on == j | none => false
theorem waits_spec {i j : Nat} {o : Oper} (h : waitsFor md ops i j = true) (ho : ops[i]? = some o) : ∃ e ∈ o.after, Region.binds md e = true ∧ e.on = j := by
  simp only [waitsFor, ho, List.any_eq_true, Bool.and_eq_true, beq_iff_eq] at h
  obtain ⟨e, hm, hb, he⟩ := h
  exact ⟨e, Array.mem_toList_iff.1 hm, hb, he⟩
theorem first {i : Nat} {oi : Oper} {v : Value} (hi : ops[i]? = some oi) (hsel : ∀ (j : Nat) (o : Oper) cs b, ops[j]? = some o → o.op ≠ .select cs b)
    (hQ : ∀ c a w, Q (.panic c) (a.put oi.dst v) w → Q (.panic c) a w) (hfin : waitsFor md ops fin i = true) :
    ∀ (fuel : Nat) (listed : Array Bool) (a : Act) (w : World),
      (∀ j oj, ops[j]? = some oj → j ≠ i → listed.getD j true = false → (∀ e ∈ oj.after, Region.binds md e = true → e.on ≠ i) → oi.apart ops oj = true) →
      i ∈ Region.ready md ops listed → YieldsIf P ops S oi v a → S w →
      wpAnyF P md ops Q S fin fuel (listed.setIfInBounds i true) (a.put oi.dst v) w → wpAnyF P md ops Q S fin (fuel + 1) listed a w := by
  intro fuel
  induction fuel with
  | zero =>
    intro listed a w _ hr hy hS H
    refine ⟨fun h => (by rw [h] at hr; cases hr), fun j hj => ?_⟩
    by_cases hji : j = i
    · subst hji; exact hy.wpOp hi hS ⟨fun _ => hS, H⟩
    · have := ready_mono hj hji
      rw [H.1] at this
      cases this
  | succ fuel ih =>
    intro listed a w hfree hr hy hS H
    refine ⟨fun h => (by rw [h] at hr; cases hr), fun j hj => ?_⟩
    by_cases hji : j = i
    · subst hji; exact hy.wpOp hi hS ⟨fun _ => hS, H⟩
    · have h1 := H.2 j (ready_mono hj hji)
      obtain ⟨hjun, oj, hoj, hall⟩ := mem_ready.1 hj
      have hnot : ∀ e ∈ oj.after, Region.binds md e = true → e.on ≠ i := fun e he hb heq => by
        have h1 := hall e he hb
        have h0 := (mem_ready.1 hr).1
        rw [heq] at h1
        rcases Nat.lt_or_ge i listed.size with h' | h'
        · simp [h'] at h0 h1; rw [h0] at h1; cases h1
        · simp [Array.getElem?_eq_none h'] at h1
      have hjf : j ≠ fin := fun e => by
        subst e
        obtain ⟨e, he, hb, hon⟩ := waits_spec hfin hoj
        exact hnot e he hb hon
      have h2 := wpOp_putIf hoj (hfree j oj hoj hji hjun hnot) (fun cs b => hsel i oi cs b hi) (fun cs b => hsel j oj cs b hoj) hQ hy h1
      have hfree' : ∀ k ok, ops[k]? = some ok → k ≠ i → (listed.setIfInBounds j true).getD k true = false →
          (∀ e ∈ ok.after, Region.binds md e = true → e.on ≠ i) → oi.apart ops ok = true := fun k ok hk hki hun hno => by
        refine hfree k ok hk hki ?_ hno
        by_cases hjk : j = k
        · subst hjk; exact hjun
        · rw [getD_set_ne true hjk] at hun; exact hun
      refine wpOp_mono (fun a' w' h3 => ⟨h3.2.1, ih (listed.setIfInBounds j true) a' w' hfree' (ready_mono hr (Ne.symm hji)) h3.1 (h3.2.1 hjf) ?_⟩) h2
      rw [Array.setIfInBounds_comm _ _ hji]
      exact h3.2.2
theorem take {fuel : Nat} {listed : Array Bool} {a : Act} {w : World} (i : Nat) {oi : Oper} (v : Value) (hi : ops[i]? = some oi)
    (hs : Region.noSelect ops = true) (hf : Region.free md ops listed i = true) (hr : (Region.ready md ops listed).contains i = true) (hfin : waitsFor md ops fin i = true)
    (hQ : ∀ c a w, Q (.panic c) (a.put oi.dst v) w → Q (.panic c) a w) (hS : S w) (hy : YieldsIf P ops S oi v a)
    (h : wpAnyF P md ops Q S fin fuel (listed.setIfInBounds i true) (a.put oi.dst v) w) : wpAnyF P md ops Q S fin (fuel + 1) listed a w :=
  first hi (Region.noSelect_spec hs) hQ hfin fuel listed a w (Region.free_spec hi hf) (by simpa using hr) hy hS h
theorem yld {o : Oper} {v : Value} {a : Act} (hg : o.guard = none) (h : ∀ w, S w → (execOp a.eval o).run P w = .ok (.value v) w) : YieldsIf P ops S o v a := .inl ⟨by simp [Region.wanted, hg], h⟩
theorem one {fuel : Nat} {listed : Array Bool} {a : Act} {w : World} (i : Nat) (hr : Region.ready md ops listed = [i])
    (h : wpOp P ops Q i (fun a' w' => (i ≠ fin → S w') ∧ wpAnyF P md ops Q S fin fuel (listed.setIfInBounds i true) a' w') a w) : wpAnyF P md ops Q S fin (fuel + 1) listed a w :=
  ⟨fun h0 => (by rw [hr] at h0; cases h0), fun j hj => by
    rw [hr] at hj
    obtain rfl : j = i := by simpa using hj
    exact h⟩
theorem two {fuel : Nat} {listed : Array Bool} {a : Act} {w : World} (i j : Nat) (hr : Region.ready md ops listed = [i, j])
    (h1 : wpOp P ops Q i (fun a' w' => (i ≠ fin → S w') ∧ wpAnyF P md ops Q S fin fuel (listed.setIfInBounds i true) a' w') a w)
    (h2 : wpOp P ops Q j (fun a' w' => (j ≠ fin → S w') ∧ wpAnyF P md ops Q S fin fuel (listed.setIfInBounds j true) a' w') a w) : wpAnyF P md ops Q S fin (fuel + 1) listed a w :=
  ⟨fun h0 => (by rw [hr] at h0; cases h0), fun k hk => by
    rw [hr] at hk
    rcases List.mem_cons.1 hk with rfl | hk
    · exact h1
    · obtain rfl : k = j := by simpa using hk
      exact h2⟩
theorem done {fuel : Nat} {listed : Array Bool} {a : Act} {w : World} (hr : Region.ready md ops listed = []) (h : Q .normal a w) : wpAnyF P md ops Q S fin fuel listed a w := by
  cases fuel with
  | zero => exact ⟨hr, h⟩
  | succ n => exact ⟨fun _ => h, by rw [hr]; simp⟩
theorem start {id : Nat} {a : Act} {w : World} (S : World → Prop) (fin : Nat) (hm : P.follows .mixedOrders = true) (h : wpAnyF P .any ops Q S fin ops.size (Array.replicate ops.size false) a w.drew) : (Code.region id ops true).wp P Q a w :=
  wp_region_any hm (to_any _ _ _ _ h)
/-- One operation carried out: it yields. -/
theorem opV {i : Nat} {o : Oper} {K : Act → World → Prop} {a : Act} {w w' : World} (v : Value) (ho : ops[i]? = some o) (hg : o.guard = none) (hr : (execOp a.eval o).run P w = .ok (.value v) w') (h : K (a.put o.dst v) w') : wpOp P ops Q i K a w := by
  unfold wpOp
  simp only [ho]
  rw [if_pos (by simp [Region.wanted, hg])]
  left
  unfold Oper.wp
  rw [hr]
  exact h
theorem opS {i : Nat} {o : Oper} {K : Act → World → Prop} {a : Act} {w w' : World} (ho : ops[i]? = some o) (hg : o.guard = none) (hr : (execOp a.eval o).run P w = .ok .skip w') (h : K (a.put o.dst undef) w') : wpOp P ops Q i K a w := by
  unfold wpOp
  simp only [ho]
  rw [if_pos (by simp [Region.wanted, hg])]
  left
  unfold Oper.wp
  rw [hr]
  exact h
theorem opC {i : Nat} {o : Oper} {K : Act → World → Prop} {a : Act} {w : World} (f : FuncId) (xs : Array Operand) (ts : Array TypeId) (ho : ops[i]? = some o) (hg : o.guard = none) (hc : o.op = .call { callee := .value (.func f), args := xs, argTypes := ts })
    (hent : ∀ args w, (callFunc f args).run P w = .ok (.enter f args) w) (args : Array Value) (ha : xs.map a.eval = args) (h : Calls P f args w fun e w' => ∃ v, e = .returned v ∧ K (a.put o.dst v) w') : wpOp P ops Q i K a w := by
  unfold wpOp
  simp only [ho]
  rw [if_pos (by simp [Region.wanted, hg])]
  left
  have hr : (execOp a.eval o).run P w = .ok (.enter f args) w := by
    have ef : a.eval (.func f) = .func (.func f) #[] #[] := rfl
    simp [execOp, hc, resolve, ha, ef, Deferred.ofValue, invoke, hent args w]
  unfold Oper.wp
  rw [hr, Oper.upon_enter]
  refine h.mono ?_
  rintro e w' ⟨v, rfl, hK⟩
  exact hK
end
end RegF
end Go.Proofs.YtocnabpplbeafaaGreat
/- disk: Write. -/
namespace Go.Proofs.YtocnabpplbeafaaGreat
open Go Go.RowKit Lou

section
variable {w : World} {o : Oper} {ρ : Operand → Value} {x y : Operand}
theorem fold_get (off : Nat) : ∀ (vs : List Value) (k : Nat) (arr : Array Value) (j : Nat), ((vs.zipIdx k).foldl (fun cs x => cs.setIfInBounds (off + x.snd) x.fst) arr)[j]? = if off + k ≤ j ∧ j < off + k + vs.length ∧ j < arr.size then vs[j - (off + k)]? else arr[j]?
  | [], k, arr, j => by
    rw [if_neg (by simp; omega)]
    rfl
  | v :: vs, k, arr, j => by
    rw [List.zipIdx_cons, List.foldl_cons, fold_get off vs (k + 1)]
    simp only [Array.size_setIfInBounds, List.length_cons, Array.getElem?_setIfInBounds]
    by_cases h1 : off + (k + 1) ≤ j ∧ j < off + (k + 1) + vs.length ∧ j < arr.size
    · rw [if_pos h1, if_pos (by omega), show j - (off + k) = (j - (off + (k + 1))) + 1 from by omega]
      rfl
    · rw [if_neg h1]
      by_cases h2 : off + k = j
      · subst h2
        by_cases h3 : off + k < arr.size
        · rw [if_pos rfl, if_pos h3, if_pos (by omega), Nat.sub_self]
          rfl
        · rw [if_pos rfl, if_neg h3, if_neg (by omega)]
          rw [Array.getElem?_eq_none (by omega)]
      · rw [if_neg h2, if_neg (by omega)]
theorem fold0 (vs : List Value) (arr : Array Value) (hs : arr.size = vs.length) : vs.zipIdx.foldl (fun cs x => cs.setIfInBounds x.snd x.fst) arr = vs.toArray := by
  apply Array.ext_getElem?
  intro j
  have h := fold_get 0 vs 0 arr j
  simp only [Nat.zero_add] at h
  rw [h]
  by_cases hj : j < vs.length
  · rw [if_pos (by omega)]
    simp
  · rw [if_neg (by omega), Array.getElem?_eq_none (by omega), Array.getElem?_eq_none (by simp; omega)]
theorem fold1 (u : Value) (vs : List Value) (arr : Array Value) (hs : arr.size = vs.length + 1) : vs.zipIdx.foldl (fun cs x => cs.setIfInBounds (1 + x.snd) x.fst) (arr.setIfInBounds 0 u) = (u :: vs).toArray := by
  apply Array.ext_getElem?
  intro j
  rw [fold_get 1 vs 0]
  simp only [Array.size_setIfInBounds, Array.getElem?_setIfInBounds]
  rcases j with _ | j
  · rw [if_neg (by omega), if_pos rfl, if_pos (by omega)]
    rfl
  · by_cases hj : j < vs.length
    · rw [if_pos (by omega), show j + 1 - (1 + 0) = j from by omega]
      simp
    · rw [if_neg (by omega), if_neg (by omega), Array.getElem?_eq_none (by omega), Array.getElem?_eq_none (by simp; omega)]
theorem x_buildLs (k : Nat) (l : List UInt8) (ho : o.op = .build 110 #[(0, x), (1, y)]) (h1 : ρ x = .int .i64 (k : Int)) (h2 : ρ y = .agg (l.map b8).toArray) (hl : l.length = 64) : (execOp ρ o).run Tryz.prog w = .ok (.value (.agg (lsC (k, l)).toArray)) w := by
  have hz : Tryz.zeroCells110.size = 65 := by kernel_rfl
  have key := fold1 (.int .i64 (k : Int)) (l.map b8) Tryz.zeroCells110 (by rw [hz, List.length_map, hl])
  simp [execOp, ho, h1, h2, go_sem, lsC, Result.andThen, hl, key]
theorem x_sliceLs (k : Nat) (l : List UInt8) (hl : l.length = 64) (ho : o.op = .buildSlice 83 1 #[(0, x)]) (h1 : ρ x = .agg (lsC (k, l)).toArray) : (execOp ρ o).run Tryz.prog w = .ok (.value (.slice (some ⟨w.heap.size, 0, none⟩) 1 1)) (w.alloc (.cells (lsC (k, l)).toArray 110)) := by
  have h65 := lsC_length (x := (k, l)) hl
  have key := fun arr hs => fold0 (lsC (k, l)) arr hs
  rw [h65] at key
  simp [execOp, ho, h1, go_sem, Result.andThen, h65, key]
/-- A row of one loose write, just laid. -/
theorem row_new (w : World) (k : Nat) (l : List UInt8) (hl : l.length = 64) : InG (w.alloc (.cells (lsC (k, l)).toArray 110)) (w.alloc (.cells (lsC (k, l)).toArray 110)).heap.size 65 (some ⟨w.heap.size, 0, none⟩) 1 1 (lsC (k, l)) :=
  ⟨Nat.le_refl _, by omega, (fun e => by cases e), by rw [lsC_length hl], lsC_one _, fun _ => ⟨w.heap.size, 0, rfl, by simp, fun j v hj => by
    rw [(BlkIs.new w 110 (lsC (k, l)).toArray).cell, Nat.zero_add]
    simpa using hj⟩⟩
end
section
variable {w : World} {ops : Array Oper} {i : Nat} {o : Oper} {a : Act} {Q : Exit → Act → World → Prop} {K : Act → World → Prop}
theorem opApp (ho : ops[i]? = some o) (hgd : o.guard = none) {S T : TypeId} {sz by_ : Nat} {z : Value} (hT : ElT S T sz by_ z) (s x : Operand) (hc : o.op = .call { callee := .builtin .append, args := #[s, x], argTypes := #[S, S] })
    (base : Nat) (v : Value) (n : Nat) (cs : List Value) (hs : a.eval s = v) (hown : w.ownsRow base T sz v n cs) (B : Nat) (A : Option Addr) (m c : Nat) (cs2 : List Value) (hx : a.eval x = .slice A m c) (hin : InG w B sz A m c cs2)
    (hm : n + m ≤ maxLen) (hbytes : (n + m) * by_ ≤ 140737488355328) (hbase : base ≤ w.heap.size)
    (h : ∀ v' w', w'.ownsRow base T sz v' (n + m) (cs ++ cs2) → w.grownBy w' v.ownBlock → K (a.put o.dst v') w') : wpOp Tryz.prog ops Q i K a w := by
  obtain ⟨v', w', hr, h2, h3⟩ := run_appG (w := w) o.type hT base v n cs hown B A m c cs2 hin hm hbytes hbase
  refine RegF.opV v' ho hgd (w' := w') ?_ (h v' w' h2 h3)
  unfold execOp
  simp only [hc, resolve, invoke, builtin, Sem.run_bind, Sem.run_pure, Result.andThen_ok, List.map_toArray, List.map_cons, List.map_nil, hs, hx, hr]
end
section
variable (w : World) (p many : Nat) (g : Nat → List UInt8) (xs : List (Nat × List UInt8)) (left : Int) (stops : Bool)
def wrE (stops : Bool) (left : Int) : Int := if stops && left == 0 then 140 else 0
theorem wr_asks (hD : DkIs w p many g xs left stops) (k : Nat) (hk : k < many) (A : Option Addr) (c : Nat) (w0 w1 w2 : World) (s : Nat) (hs : BlkIs w0 s 38 #[.slice A 64 c]) (hB0 : Below w.heap.size w w0) (hB1 : Below w0.heap.size w0 w1) (hB2 : Below w1.heap.size w1 w2)
    (b0 : BlkIs w1 w0.heap.size 28 #[.pointer (some ⟨p, 0, none⟩)]) (b1 : BlkIs w1 (w0.heap.size + 1) 3 #[.int .i64 (k : Int)]) :
    Calls Tryz.prog 58 #[.pointer (some ⟨p, 0, none⟩), .slice (some ⟨w2.heap.size, 0, none⟩) 3 3] (w2.alloc (.cells #[.func (.func 122) #[] #[.pointer (some ⟨s, 0, none⟩)], .int .i64 2, .func (.func 141) #[] #[.pointer (some ⟨w0.heap.size + 1, 0, none⟩), .pointer (some ⟨w0.heap.size, 0, none⟩)], .int .i64 4, .func (.func 124) #[.pointer (some ⟨p, 0, none⟩)] #[], .int .i64 140] 113))
      fun e w' => e = .returned (.int .i64 (wrE stops left)) ∧ Below w2.heap.size w2 w' := by
  have h1 := hD.grow (hB0.trans ((hB1.trans (hB2.mono hB1.size)).mono hB0.size))
  have h12 := hB1.trans (hB2.mono hB1.size)
  have e3 := asked3_gives w2 p many g xs left stops h1 (askLen s 64) (askThere w0.heap.size (w0.heap.size + 1) many k) (askGoes p left stops)
    (ans_len w2 s A 64 c (hs.below h12 hs.lt)) (ans_there w2 p many g xs left stops k _ _ h1 (b0.below hB2 b0.lt) (b1.below hB2 b1.lt)) (ans_goes w2 p many g xs left stops h1)
  have hf : firstE [askLen s 64, askThere w0.heap.size (w0.heap.size + 1) many k, askGoes p left stops] = wrE stops left := by
    have a1 : decide ((k : Int) < 0) = false := by simp
    have a2 : ¬ many ≤ k := by omega
    unfold wrE
    cases stops <;> by_cases hl : left = 0 <;> simp [firstE, askLen, askThere, askGoes, hl, a1, a2]
  rw [hf] at e3
  exact e3

set_option maxRecDepth 100000 in
set_option maxHeartbeats 4000000 in
theorem write_stop (hD : DkIs w p many g xs left stops) (hs : (stops && left == 0) = true) (k : Nat) (hk : k < many) (A : Option Addr) (c : Nat) :
    Calls Tryz.prog 92 #[.pointer (some ⟨p, 0, none⟩), .int .i64 (k : Int), .slice A 64 c] w fun e w' => e = .returned (.int .i64 140) ∧ Below w.heap.size w w' := by
  have hB0 : Below w.heap.size w (w.alloc (.cells #[.slice A 64 c] 38)) := (Below.refl _ w).alloc (Nat.le_refl _) _
  have b0 := BlkIs.new w 38 #[.slice A 64 c]
  have HT := there_gives (w.alloc (.cells #[.slice A 64 c] 38)) p k
  have HA := fun w1 w2 hB1 hB2 b0' b1' => wr_asks w p many g xs left stops hD k hk A c (w.alloc (.cells #[.slice A 64 c] 38)) w1 w2 w.heap.size b0 hB0 hB1 hB2 b0' b1'
  have hE : wrE stops left = 140 := by unfold wrE; rw [hs]; rfl
  rw [hE] at HA
  have hs0 : (w.alloc (.cells #[.slice A 64 c] 38)).heap.size = w.heap.size + 1 := World.size_alloc _ _
  rw [hs0] at HT
  simp only [hs0] at HA
  have HS0 := Lib.hid hs0
  clear hs hE hs0
  go_enter Tryz.func92, Tryz.ntmps92
  go_wp2_with (first
    | (go_at_call 123; refine HT.mono ?_; rintro e w1 ⟨rfl, s1, s2, hB1⟩)
    | (go_at_call 93; refine (goes_gives w1 p).mono ?_; rintro e w2 ⟨rfl, hB2⟩)
    | (go_at_call 58; refine (HA w1 w2 hB1 hB2 s1 s2).mono ?_; rintro e w3 ⟨rfl, hB3⟩))
  go_ret
  have s0 := hB0.size
  have s1 := HS0.out ▸ hB1.size
  exact ⟨rfl, hB0.trans ((hB1.trans ((hB2.trans (hB3.mono hB2.size)).mono s1)).mono (by omega))⟩
set_option maxRecDepth 100000 in
set_option maxHeartbeats 16000000 in
theorem write_ok (hD : DkIs w p many g xs left stops) (hs : (stops && left == 0) = false) (k : Nat) (hk : k < many) (A : Option Addr) (c : Nat) (l : List UInt8) (hl : l.length = 64) (hin : InB w w.heap.size A c l) (hx1 : xs.length ≤ 1000000) (h1 : -1000000 ≤ left) (h2 : left ≤ 9223372036854775807) :
    Calls Tryz.prog 92 #[.pointer (some ⟨p, 0, none⟩), .int .i64 (k : Int), .slice A 64 c] w fun e w' => e = .returned (.int .i64 0) ∧ DkIs w' p many g (xs ++ [(k, l)]) (lft stops left) stops ∧ w.grownBy w' (some p) ∧ ∃ b c, w'.cell? ⟨p, 2, none⟩ = some (.slice (some ⟨b, 0, none⟩) (xs.length + 1) c) ∧ w.heap.size ≤ b := by
  have hB0 : Below w.heap.size w (w.alloc (.cells #[.slice A 64 c] 38)) := (Below.refl _ w).alloc (Nat.le_refl _) _
  have b0 := BlkIs.new w 38 #[.slice A 64 c]
  have HT := there_gives (w.alloc (.cells #[.slice A 64 c] 38)) p k
  have HA := fun w1 w2 hB1 hB2 b0' b1' => wr_asks w p many g xs left stops hD k hk A c (w.alloc (.cells #[.slice A 64 c] 38)) w1 w2 w.heap.size b0 hB0 hB1 hB2 b0' b1'
  have hE : wrE stops left = 0 := by unfold wrE; rw [hs]; rfl
  rw [hE] at HA
  have hs0 : (w.alloc (.cells #[.slice A 64 c] 38)).heap.size = w.heap.size + 1 := World.size_alloc _ _
  rw [hs0] at HT
  simp only [hs0] at HA
  have HS0 := Lib.hid hs0
  have HL := Lib.hid hl
  obtain ⟨gb, ob, rfl, hgb, hcb⟩ := hin.lies (by omega)
  clear hs hE hs0 hl
  go_enter Tryz.func92, Tryz.ntmps92
  go_wp2_with (first
    | (go_at_call 123; refine HT.mono ?_; rintro e w1 ⟨rfl, s1, s2, hB1⟩)
    | (go_at_call 93; refine (goes_gives w1 p).mono ?_; rintro e w2 ⟨rfl, hB2⟩)
    | (go_at_call 58; refine (HA w1 w2 hB1 hB2 s1 s2).mono ?_; rintro e w3 ⟨rfl, hB3⟩))
  have z1 : w.heap.size + 1 ≤ w1.heap.size := HS0.out ▸ hB1.size
  have hB13 := hB1.trans ((hB2.trans (hB3.mono hB2.size)).mono z1)
  have hB03 : Below w.heap.size w w3 := hB0.trans (hB13.mono (by omega))
  have b3 := b0.below hB13 (Nat.lt_succ_self _)
  have hD3 := hD.grow hB03
  obtain ⟨r, A3, c3, hb, hm, hx⟩ := hD3.has
  have k2 : w3.cell? ⟨p, 2, none⟩ = some (.slice A3 xs.length c3) := by rw [hb.cell]; rfl
  have k5 : w3.cell? ⟨w.heap.size, 0, none⟩ = some (.slice (some ⟨gb, ob, none⟩) 64 c) := by rw [b3.cell]; rfl
  have hp3 := hb.lt
  have hw3 := b3.lt
  have hr3 : w3.rangeAt gb ob (l.map b8) := fun j v hj => by
    have hj2 : j < l.length := by have := (List.getElem?_eq_some_iff.1 hj).1; simpa using this
    rw [hB03.cell (p := ⟨gb, ob + j, none⟩) hgb, hcb j hj2]
    simpa [hj2, b8] using hj
  have hgb3 : gb < w3.heap.size := Nat.lt_of_lt_of_le hgb hB03.size
  have HLD : ∀ W, Below w3.heap.size w3 W → (Instr.loadAt 107 (.pointer (some ⟨gb, ob, none⟩))).run Tryz.prog W = .ok (.agg (l.map b8).toArray) W := by
    intro W hW
    obtain ⟨d, hu, hd⟩ := rowDSec.desc
    exact run_loadAt_mid (P := Tryz.prog) W gb ob 107 (l.map b8) d (fun j v hj => (hW.cell (p := ⟨gb, ob + j, none⟩) hgb3).trans (hr3 j v hj)) hu hd (by rw [rowDSec.size, List.length_map, HL.out])
  have HLV : ∀ W, Below w3.heap.size w3 W → (loadVar 107 ⟨gb, ob, none⟩).run Tryz.prog W = .ok (.agg (l.map b8).toArray) W := by
    intro W hW
    obtain ⟨d, hu, hd⟩ := rowDSec.desc
    exact run_loadVar_mid (P := Tryz.prog) W gb ob 107 (l.map b8) d (fun j v hj => (hW.cell (p := ⟨gb, ob + j, none⟩) hgb3).trans (hr3 j v hj)) hu hd (by rw [rowDSec.size, List.length_map, HL.out])
  have HAR : ∀ W, (Instr.arrayAt 107 (.slice (some ⟨gb, ob, none⟩) 64 c)).run Tryz.prog W = .ok (.pointer (some ⟨gb, ob, none⟩)) W := fun W => by
    simp [Instr.arrayAt, run_underlying Tryz.underlying107, go_sem]
  have HC2 : ∀ W, Below w3.heap.size w3 W → W.cell? ⟨p, 2, none⟩ = some (.slice A3 xs.length c3) := fun W hW => (hW.cell (p := ⟨p, 2, none⟩) hp3).trans k2
  have HC5 : ∀ W, Below w3.heap.size w3 W → W.cell? ⟨w.heap.size, 0, none⟩ = some (.slice (some ⟨gb, ob, none⟩) 64 c) := fun W hW => (hW.cell (p := ⟨w.heap.size, 0, none⟩) hw3).trans k5
  have HCL : ∀ W, Below w3.heap.size w3 W → Calls Tryz.prog 57 #[.slice A3 xs.length c3] W fun e w' => ∃ v, e = .returned v ∧ w'.ownsRow W.heap.size 110 65 v xs.length (flC xs) ∧ Below W.heap.size W w' := fun W hW => lclone_gives W A3 c3 xs (hx.grow hW) hx1
  have hBd : Below w3.heap.size w3 w3.drew := (Below.refl _ w3).drew
  have HBa : ∀ W cs T, Below w3.heap.size w3 W → Below w3.heap.size w3 (W.alloc (.cells cs T)) := fun W cs T h => h.alloc h.size _
  clear HT HA hB1 hB2 hB3 hB13 k2 k5
  refine RegF.start (fun W => Below w3.heap.size w3 W) 15 (by kernel_rfl) ?_
  refine RegF.take 0 (.pointer (some ⟨p, 0, none⟩)) rfl (by kernel_rfl) (by kernel_rfl) (by kernel_rfl) (by kernel_rfl) (fun _ _ _ h => h) hBd (RegF.yld rfl (fun W hW => by go_simp)) ?_
  simp only [List.getElem_toArray, List.getElem_cons_zero, Act.put, List.setIfInBounds_toArray, List.set_cons_zero, List.set_cons_succ]
  refine RegF.take 1 (.pointer (some ⟨p, 0, none⟩)) rfl (by kernel_rfl) (by kernel_rfl) (by kernel_rfl) (by kernel_rfl) (fun _ _ _ h => h) hBd (RegF.yld rfl (fun W hW => by go_simp)) ?_
  simp only [List.getElem_toArray, List.getElem_cons_succ, List.getElem_cons_zero, Act.put, List.setIfInBounds_toArray, List.set_cons_zero, List.set_cons_succ]
  refine RegF.take 2 (.pointer (some ⟨p, 0, none⟩)) rfl (by kernel_rfl) (by kernel_rfl) (by kernel_rfl) (by kernel_rfl) (fun _ _ _ h => h) hBd (RegF.yld rfl (fun W hW => by go_simp)) ?_
  simp only [List.getElem_toArray, List.getElem_cons_succ, List.getElem_cons_zero, Act.put, List.setIfInBounds_toArray, List.set_cons_zero, List.set_cons_succ]
  refine RegF.take 3 (.pointer (some ⟨p, 2, none⟩)) rfl (by kernel_rfl) (by kernel_rfl) (by kernel_rfl) (by kernel_rfl) (fun _ _ _ h => h) hBd (RegF.yld rfl (fun W hW => by go_simp)) ?_
  simp only [List.getElem_toArray, List.getElem_cons_succ, List.getElem_cons_zero, Act.put, List.setIfInBounds_toArray, List.set_cons_zero, List.set_cons_succ]
  refine RegF.take 6 (.int .i64 (k : Int)) rfl (by kernel_rfl) (by kernel_rfl) (by kernel_rfl) (by kernel_rfl) (fun _ _ _ h => h) hBd (RegF.yld rfl (fun W hW => by go_simp)) ?_
  simp only [List.getElem_toArray, List.getElem_cons_succ, List.getElem_cons_zero, Act.put, List.setIfInBounds_toArray, List.set_cons_zero, List.set_cons_succ]
  refine RegF.take 7 (.slice (some ⟨gb, ob, none⟩) 64 c) rfl (by kernel_rfl) (by kernel_rfl) (by kernel_rfl) (by kernel_rfl) (fun _ _ _ h => h) hBd (RegF.yld rfl (fun W hW => by have e := HC5 W hW; go_simp)) ?_
  simp only [List.getElem_toArray, List.getElem_cons_succ, List.getElem_cons_zero, Act.put, List.setIfInBounds_toArray, List.set_cons_zero, List.set_cons_succ]
  refine RegF.take 8 (.pointer (some ⟨gb, ob, none⟩)) rfl (by kernel_rfl) (by kernel_rfl) (by kernel_rfl) (by kernel_rfl) (fun _ _ _ h => h) hBd (RegF.yld rfl (fun W hW => by have e := HAR W; go_simp)) ?_
  simp only [List.getElem_toArray, List.getElem_cons_succ, List.getElem_cons_zero, Act.put, List.setIfInBounds_toArray, List.set_cons_zero, List.set_cons_succ]
  refine RegF.take 9 (.agg (l.map b8).toArray) rfl (by kernel_rfl) (by kernel_rfl) (by kernel_rfl) (by kernel_rfl) (fun _ _ _ h => h) hBd (RegF.yld rfl (fun W hW => x_loadM rowDSec (fun j v hj => (hW.cell (p := ⟨gb, ob + j, none⟩) hgb3).trans (hr3 j v hj)) (by rw [List.length_map, HL.out]) rfl rfl)) ?_
  simp only [List.getElem_toArray, List.getElem_cons_succ, List.getElem_cons_zero, Act.put, List.setIfInBounds_toArray, List.set_cons_zero, List.set_cons_succ]
  refine RegF.take 10 (.agg (lsC (k, l)).toArray) rfl (by kernel_rfl) (by kernel_rfl) (by kernel_rfl) (by kernel_rfl) (fun _ _ _ h => h) hBd (RegF.yld rfl (fun W hW => x_buildLs k l rfl rfl rfl HL.out)) ?_
  simp only [List.getElem_toArray, List.getElem_cons_succ, List.getElem_cons_zero, Act.put, List.setIfInBounds_toArray, List.set_cons_zero, List.set_cons_succ]
  refine RegF.take 4 (.slice A3 xs.length c3) rfl (by kernel_rfl) (by kernel_rfl) (by kernel_rfl) (by kernel_rfl) (fun _ _ _ h => h) hBd (RegF.yld rfl (fun W hW => by have e := HC2 W hW; go_simp)) ?_
  simp only [List.getElem_toArray, List.getElem_cons_succ, List.getElem_cons_zero, Act.put, List.setIfInBounds_toArray, List.set_cons_zero, List.set_cons_succ]
  refine RegF.two 5 11 (by kernel_rfl) ?_ ?_
  case' refine_1 =>
    refine RegF.opC 57 #[.tmp 24] #[83] rfl rfl rfl (enters_of Tryz.func57 (by kernel_rfl) rfl) #[.slice A3 xs.length c3] (by simp only [List.map_toArray, List.map_cons, List.map_nil]; rfl) ((HCL _ hBd).mono ?_)
    rintro e w4 ⟨v4, rfl, own4, hB4⟩
    have hB4w : Below w3.heap.size w3 w4 := hBd.trans (hB4.mono hBd.size)
    refine ⟨v4, rfl, fun _ => hB4w, ?_⟩
    simp only [List.getElem_toArray, List.getElem_cons_succ, List.getElem_cons_zero, Act.put, List.setIfInBounds_toArray, List.set_cons_zero, List.set_cons_succ]
    refine RegF.one 11 (by kernel_rfl) ?_
    refine RegF.opV _ rfl rfl (x_sliceLs k l HL.out rfl rfl) ⟨fun _ => HBa _ _ _ hB4w, ?_⟩
    simp only [List.getElem_toArray, List.getElem_cons_succ, List.getElem_cons_zero, Act.put, List.setIfInBounds_toArray, List.set_cons_zero, List.set_cons_succ]
    refine RegF.one 12 (by kernel_rfl) ?_
    refine opApp rfl rfl elLoose (.tmp 25) (.tmp 31) rfl w3.heap.size v4 xs.length (flC xs) rfl (ownG_grow (ownG_base own4 (Nat.le_refl _)) ((Below.refl _ w4).alloc (Nat.le_refl _) _)) _ _ 1 1 (lsC (k, l)) rfl (row_new w4 k l HL.out) (by unfold maxLen; omega) (by omega) (HBa _ _ _ hB4w).size ?_
    intro v5 w5 own5 hg5
    have hB5 : Below w3.heap.size w3 w5 := (HBa _ _ _ hB4w).trans (grown_below hg5 (HBa _ _ _ hB4w).size (ownG_ge (ownG_base own4 (Nat.le_refl _))))
    refine ⟨fun _ => hB5, ?_⟩
    simp only [List.getElem_toArray, List.getElem_cons_succ, List.getElem_cons_zero, Act.put, List.setIfInBounds_toArray, List.set_cons_zero, List.set_cons_succ]
    clear hg5 own4 hB4 hB4w
  case' refine_2 =>
    refine RegF.opV _ rfl rfl (x_sliceLs k l HL.out rfl rfl) ⟨fun _ => HBa _ _ _ hBd, ?_⟩
    simp only [List.getElem_toArray, List.getElem_cons_succ, List.getElem_cons_zero, Act.put, List.setIfInBounds_toArray, List.set_cons_zero, List.set_cons_succ]
    refine RegF.one 5 (by kernel_rfl) ?_
    refine RegF.opC 57 #[.tmp 24] #[83] rfl rfl rfl (enters_of Tryz.func57 (by kernel_rfl) rfl) #[.slice A3 xs.length c3] (by simp only [List.map_toArray, List.map_cons, List.map_nil]; rfl) ((HCL _ (HBa _ _ _ hBd)).mono ?_)
    rintro e w4 ⟨v4, rfl, own4, hB4⟩
    have hB4w : Below w3.heap.size w3 w4 := (HBa _ _ _ hBd).trans (hB4.mono (HBa _ _ _ hBd).size)
    refine ⟨v4, rfl, fun _ => hB4w, ?_⟩
    simp only [List.getElem_toArray, List.getElem_cons_succ, List.getElem_cons_zero, Act.put, List.setIfInBounds_toArray, List.set_cons_zero, List.set_cons_succ]
    refine RegF.one 12 (by kernel_rfl) ?_
    refine opApp rfl rfl elLoose (.tmp 25) (.tmp 31) rfl w3.heap.size v4 xs.length (flC xs) rfl (ownG_base own4 (HBa _ _ _ hBd).size) _ _ 1 1 (lsC (k, l)) rfl ((row_new w3.drew k l HL.out).grow hB4) (by unfold maxLen; omega) (by omega) hB4w.size ?_
    intro v5 w5 own5 hg5
    have hB5 : Below w3.heap.size w3 w5 := hB4w.trans (grown_below hg5 hB4w.size (ownG_ge (ownG_base own4 (HBa _ _ _ hBd).size)))
    refine ⟨fun _ => hB5, ?_⟩
    simp only [List.getElem_toArray, List.getElem_cons_succ, List.getElem_cons_zero, Act.put, List.setIfInBounds_toArray, List.set_cons_zero, List.set_cons_succ]
    clear hg5 own4 hB4 hB4w
  all_goals
    have hb5 := hb.below hB5 hp3
    have c5 : w5.cell? ⟨p, 2, none⟩ = some (.slice A3 xs.length c3) := HC2 _ hB5
    have f5 := hb5.free 2
    have own6 : (w5.setCell ⟨p, 2, none⟩ v5).ownsRow w3.heap.size 110 65 v5 (xs.length + 1) (flC xs ++ lsC (k, l)) := ownG_later own5 fun r hr => Below.heap_setCell w5 ⟨p, 2, none⟩ v5 r (fun e => by have := ownG_ge own5 r hr; simp at e; omega)
    obtain ⟨A5, cc5, rfl, hin5⟩ := ownG_in own6 (fun v hv => by rcases List.mem_append.1 hv with h | h; exact flC_one _ v h; exact lsC_one _ v h)
    refine RegF.one 13 (by kernel_rfl) ?_
    refine RegF.opV (.pointer (some ⟨p, 0, none⟩)) rfl rfl (by go_simp) ⟨fun _ => hB5, ?_⟩
    simp only [List.getElem_toArray, List.getElem_cons_succ, List.getElem_cons_zero, Act.put, List.setIfInBounds_toArray, List.set_cons_zero, List.set_cons_succ]
    refine RegF.one 14 (by kernel_rfl) ?_
    refine RegF.opV (.pointer (some ⟨p, 2, none⟩)) rfl rfl (by go_simp) ⟨fun _ => hB5, ?_⟩
    simp only [List.getElem_toArray, List.getElem_cons_succ, List.getElem_cons_zero, Act.put, List.setIfInBounds_toArray, List.set_cons_zero, List.set_cons_succ]
    refine RegF.one 15 (by kernel_rfl) ?_
    refine RegF.opS (w' := w5.setCell ⟨p, 2, none⟩ (.slice A5 (xs.length + 1) cc5)) rfl rfl (by go_simp) ⟨fun h => absurd rfl h, ?_⟩
    simp only [List.getElem_toArray, List.getElem_cons_succ, List.getElem_cons_zero, Act.put]
    refine RegF.done (by kernel_rfl) ?_
    have hwx : Wide (xs ++ [(k, l)]) := fun x hx' => by
      rcases List.mem_append.1 hx' with h | h
      · exact hx.1 x h
      · obtain rfl : x = (k, l) := by simpa using h
        exact HL.out
    have hfl : flC (xs ++ [(k, l)]) = flC xs ++ lsC (k, l) := by rw [flC_append]; simp [flC]
    have hln : (xs ++ [(k, l)]).length = xs.length + 1 := by simp
    have hD6 : DkIs (w5.setCell ⟨p, 2, none⟩ (.slice A5 (xs.length + 1) cc5)) p many g (xs ++ [(k, l)]) left stops := by
      refine ⟨r, A5, cc5, ?_, (hm.grow hB5).setCell _ _, hwx, ?_⟩
      · rw [hln]
        exact hb5.set 2 _
      · rw [hln, hfl]
        exact hin5
    have hg6 : w.grownBy (w5.setCell ⟨p, 2, none⟩ (.slice A5 (xs.length + 1) cc5)) (some p) := grownBy_trans (below_grownBy (hB03.trans (hB5.mono hB03.size)) p) (setCell_grownBy w5 ⟨p, 2, none⟩ _)
    obtain ⟨g9, h9, hg9⟩ : ∃ g9, A5 = some ⟨g9, 0, none⟩ ∧ w.heap.size ≤ g9 := by
      rcases own6.2 with ⟨_, e⟩ | ⟨g9, cap, cur, e, hb9, _⟩
      · omega
      · injection e with e1
        exact ⟨g9, e1, Nat.le_trans hB03.size hb9⟩
    have hc6 : (w5.setCell ⟨p, 2, none⟩ (.slice A5 (xs.length + 1) cc5)).cell? ⟨p, 2, none⟩ = some (.slice (some ⟨g9, 0, none⟩) (xs.length + 1) cc5) := by rw [← h9]; exact World.cell?_setCell_same _ _ _ c5
    clear own5 own6 hin5 hb5 c5 f5 hB5 HC2 HC5 HLD HLV HAR HCL HBa hwx hfl hln
    generalize w5.setCell ⟨p, 2, none⟩ (.slice A5 (xs.length + 1) cc5) = w6 at *
    go_wp2_with (go_at_call 94; refine (done_gives _ p many _ _ left stops hD6 h1 h2).mono ?_; rintro e w7 ⟨⟨v, rfl⟩, hD7, hg7, hc7⟩)
    go_ret
    exact ⟨rfl, hD7, grownBy_trans hg6 hg7, g9, cc5, hc7.trans hc6, hg9⟩
end
end Go.Proofs.YtocnabpplbeafaaGreat
/- disk: Stop, Copy; loupelaw04: num. -/
namespace Go.Proofs.YtocnabpplbeafaaGreat
open Go Go.RowKit Lou

section
variable (w : World) (p many : Nat) (g : Nat → List UInt8) (xs : List (Nat × List UInt8)) (left : Int) (stops : Bool)
end
end Go.Proofs.YtocnabpplbeafaaGreat
/- loupelaw04.sector: 64 bytes alike. -/
namespace Go.Proofs.YtocnabpplbeafaaGreat
open Go Go.RowKit Lou

def secL (v : UInt8) : List UInt8 := List.replicate 64 v
end Go.Proofs.YtocnabpplbeafaaGreat
/- disk: Copy. -/
namespace Go.Proofs.YtocnabpplbeafaaGreat
open Go Go.RowKit Lou

section
variable (w : World) (p many : Nat) (g : Nat → List UInt8) (xs : List (Nat × List UInt8)) (left : Int) (stops : Bool)
end
end Go.Proofs.YtocnabpplbeafaaGreat
/- What the law DiskHolds keeps beside a disk: pairs of bytes that came in, rows of bytes and of truths of its own. -/
namespace Go.Proofs.YtocnabpplbeafaaGreat
open Go Go.RowKit Lou

def prC (x : UInt8 × UInt8) : List Value := [b8 x.1, b8 x.2]
def fpC (ls : List (UInt8 × UInt8)) : List Value := (ls.map prC).flatten
theorem fpC_at : ∀ (ls : List (UInt8 × UInt8)) (j : Nat) (h : j < ls.length), (fpC ls)[j * 2]? = some (b8 ls[j].1) ∧ (fpC ls)[j * 2 + 1]? = some (b8 ls[j].2)
  | x :: ls, 0, _ => ⟨rfl, rfl⟩
  | x :: ls, j + 1, h => by
    have e : fpC (x :: ls) = b8 x.1 :: b8 x.2 :: fpC ls := rfl
    have := fpC_at ls j (by simpa using h)
    rw [e, show (j + 1) * 2 = (j * 2 + 1) + 1 from by omega, List.getElem?_cons_succ, List.getElem?_cons_succ, List.getElem?_cons_succ]
    exact this
/-- Pairs of bytes lie in a row below B. -/
def InP (w : World) (B : Nat) (A : Option Addr) (c : Nat) (ls : List (UInt8 × UInt8)) : Prop := InG w B 2 A ls.length c (fpC ls)
theorem InP.lies {w : World} {B : Nat} {A : Option Addr} {c : Nat} {ls : List (UInt8 × UInt8)} (h : InP w B A c ls) (h0 : 0 < ls.length) : ∃ g o, A = some ⟨g, o, none⟩ ∧ g < B ∧ ∀ j, (hj : j < ls.length) → w.cell? ⟨g, o + j * 2, none⟩ = some (.int .u8 (ls[j].1.toNat : Int)) ∧ w.cell? ⟨g, o + j * 2 + 1, none⟩ = some (.int .u8 (ls[j].2.toNat : Int)) := by
  obtain ⟨g, o, e, hg, hr⟩ := InG.lies h h0
  refine ⟨g, o, e, hg, fun j hj => ?_⟩
  obtain ⟨h1, h2⟩ := fpC_at ls j hj
  exact ⟨hr _ _ h1, hr _ _ h2⟩
/-- An own row that grows leaves a disk as it was, where the disk's loose writes lie elsewhere. -/
theorem DkIs.own {w w' : World} {p many : Nat} {g : Nat → List UInt8} {xs : List (Nat × List UInt8)} {left : Int} {stops : Bool} (h : DkIs w p many g xs left stops) {b n c r : Nat} {cs : Array Value} {T : TypeId} (hc : w.cell? ⟨p, 2, none⟩ = some (.slice (some ⟨b, 0, none⟩) n c)) (hb : b ≠ r) (hp : p ≠ r) (hr : BlkIs w r T cs) (hg : w.grownBy w' (some r)) : DkIs w' p many g xs left stops := by
  obtain ⟨m, A, k, hbl, hm, hw, hx⟩ := h.has
  have e := hbl.cell 2
  rw [hc] at e
  have e2 : (dkC m many A xs.length k left stops)[2]? = some (.slice A xs.length k) := rfl
  rw [e2] at e
  injection e with e
  injection e with e1 e2 e3
  subst e1 e3
  have hmr : m ≠ r := fun e => by
    subst e
    obtain ⟨es, ck, h1, _⟩ := hm.lies
    have h2 : w.heap[m]? = some (.cells cs T (0, 0)) := hr
    have h1' : w.heap[m]? = some (.map es ck) := h1
    rw [h1'] at h2
    cases h2
  refine ⟨m, _, _, hbl.grown hg (fun e => hp (by injection e)), hm.keep (hg.block m hm.lt (fun e => hmr (by injection e))), hw, ?_⟩
  refine ⟨hx.le, hx.max, hx.nil, hx.len, hx.one, fun h0 => ?_⟩
  obtain ⟨b', o, e, hbl', hr'⟩ := hx.lies h0
  have eb : b = b' := by
    injection e with e
    injection e
  subst eb
  exact ⟨b, o, e, Nat.lt_of_lt_of_le hbl' hg.size, fun j v hj => (World.cell?_of_block (hg.block b hbl' (fun e => hb (by injection e)))).trans (hr' j v hj)⟩
end Go.Proofs.YtocnabpplbeafaaGreat
/- louperef04: the document's disk: its rows; last. -/
namespace Go.Proofs.YtocnabpplbeafaaGreat
open Go Go.RowKit Lou

/-- A write's cells; a row of writes. -/
def wrC (x : Nat × List UInt8) : List Value := [.int .i64 (x.1 : Int), .string (str x.2)]
def wsC (xs : List (Nat × List UInt8)) : List Value := (xs.map wrC).flatten
/-- The document's disk: its value; its rows lie below B. -/
def rdkC (many : Int) (As : Option Addr) (ns cs : Nat) (Al : Option Addr) (nl cl : Nat) (left : Int) : Array Value := #[.int .i64 many, .slice As ns cs, .slice Al nl cl, .int .i64 left]
structure RIs (w : World) (B : Nat) (sy ls : List (Nat × List UInt8)) (As : Option Addr) (cs : Nat) (Al : Option Addr) (cl : Nat) : Prop where
  s : InG w B 2 As sy.length cs (wsC sy)
  l : InG w B 2 Al ls.length cl (wsC ls)
theorem RIs.grow {w w' : World} {sy ls : List (Nat × List UInt8)} {As Al : Option Addr} {cs cl : Nat} (h : RIs w w.heap.size sy ls As cs Al cl) (hB : Below w.heap.size w w') : RIs w' w'.heap.size sy ls As cs Al cl := ⟨h.s.grow hB, h.l.grow hB⟩
/-- The last of writes to a sector; noughts of none. -/
def lastB (xs : List (Nat × List UInt8)) (at_ : Int) : List UInt8 := xs.foldl (fun s x => if (x.1 : Int) = at_ then x.2 else s) zer64
end Go.Proofs.YtocnabpplbeafaaGreat
/- louperef04: New, done, Stop, Sector, Read, Write, Sync. -/
namespace Go.Proofs.YtocnabpplbeafaaGreat
open Go Go.RowKit Lou

section
variable {w : World} {ops : Array Oper} {i : Nat} {o : Oper} {a : Act} {Q : Exit → Act → World → Prop} {K : Act → World → Prop}
end
def zeroR : Array Value := #[.int .i64 0, .slice none 0 0, .slice none 0 0, .int .i64 0]
def rlft (left : Int) : Int := if 0 < left then left - 1 else left
def VAL (many : Int) (As : Option Addr) (ns cs : Nat) (Al : Option Addr) (nl cl : Nat) (left : Int) : Value := .agg #[.int .i64 many, .slice As ns cs, .slice Al nl cl, .int .i64 left]
end Go.Proofs.YtocnabpplbeafaaGreat
/- louperef04: Write, Sync. -/
namespace Go.Proofs.YtocnabpplbeafaaGreat
open Go Go.RowKit Lou

/-- What a write that isn't carried out answers. -/
def rwE (many at_ left : Int) (n : Nat) : Int := if n ≠ 64 then 2 else if at_ < 0 ∨ many ≤ at_ then 4 else if left = 0 then 140 else 0
end Go.Proofs.YtocnabpplbeafaaGreat
/- disk: the methods where they answer an error; Len, Loose. -/
namespace Go.Proofs.YtocnabpplbeafaaGreat
open Go Go.RowKit Lou

/-- The document's Left. -/
def relL (stops : Bool) (left : Int) : Int := if stops then left else -1
theorem relL_stopped (stops : Bool) (left : Int) : (stops && left == 0) = decide (relL stops left = 0) := by
  cases stops
  · rfl
  · by_cases h : left = 0 <;> simp [relL, h]
def rdE (many at_ left : Int) : Int := if at_ < 0 ∨ many ≤ at_ then 4 else if left = 0 then 140 else 0
section
variable (w : World) (p many : Nat) (g : Nat → List UInt8) (xs : List (Nat × List UInt8)) (left : Int) (stops : Bool)
set_option maxRecDepth 100000 in
set_option maxHeartbeats 2000000 in
theorem sync_bad (hD : DkIs w p many g xs left stops) (hs : relL stops left = 0) :
    Calls Tryz.prog 52 #[.pointer (some ⟨p, 0, none⟩)] w fun e w' => e = .returned (.int .i64 140) ∧ Below w.heap.size w w' := by
  have hs2 : (stops && left == 0) = true := by rw [relL_stopped]; exact decide_eq_true hs
  have HG := goes_gives w p
  have HA : ∀ W, Below w.heap.size w W → Calls Tryz.prog 58 #[.pointer (some ⟨p, 0, none⟩), .slice (some ⟨W.heap.size, 0, none⟩) 1 1] (W.alloc (.cells #[.func (.func 124) #[.pointer (some ⟨p, 0, none⟩)] #[], .int .i64 140] 113)) fun e w' => e = .returned (.int .i64 140) ∧ Below W.heap.size W w' := by
    intro W hB
    have := asked1_gives W p many g xs left stops (hD.grow hB) (askGoes p left stops) (ans_goes W p many g xs left stops (hD.grow hB))
    have hf : firstE [askGoes p left stops] = 140 := by simp only [firstE, askGoes, hs2]; rfl
    rw [hf] at this
    exact this
  clear hs hs2
  go_enter Tryz.func52, Tryz.ntmps52
  go_wp2_with (first
    | (go_at_call 93; refine HG.mono ?_; rintro e w1 ⟨rfl, hB1⟩)
    | (go_at_call 58; refine (HA _ hB1).mono ?_; rintro e w2 ⟨rfl, hB2⟩))
  go_ret
  exact ⟨rfl, hB1.trans (hB2.mono hB1.size)⟩
set_option maxRecDepth 100000 in
theorem len_gives (h : DkIs w p many g xs left stops) : Calls Tryz.prog 38 #[.pointer (some ⟨p, 0, none⟩)] w fun e w' => e = .returned (.int .i64 (many : Int)) ∧ w = w' := by
  have HN := none_gives w p many g xs left stops h
  obtain ⟨r, A, c, hb, hm, hx⟩ := h.has
  have c1 : w.cell? ⟨p, 1, none⟩ = some (.int .i64 (many : Int)) := by rw [hb.cell]; rfl
  go_enter Tryz.func38, Tryz.ntmps38
  go_wp2_with (go_at_call 55; refine HN.mono ?_; rintro e w' ⟨rfl, rfl⟩)
  go_ret
  exact ⟨rfl, rfl⟩
set_option maxRecDepth 100000 in
theorem loose_gives (h : DkIs w p many g xs left stops) : Calls Tryz.prog 35 #[.pointer (some ⟨p, 0, none⟩)] w fun e w' => e = .returned (.int .i64 (xs.length : Int)) ∧ w = w' := by
  have HN := none_gives w p many g xs left stops h
  obtain ⟨r, A, c, hb, hm, hx⟩ := h.has
  have c2 : w.cell? ⟨p, 2, none⟩ = some (.slice A xs.length c) := by rw [hb.cell]; rfl
  go_enter Tryz.func35, Tryz.ntmps35
  go_wp2_with (go_at_call 55; refine HN.mono ?_; rintro e w' ⟨rfl, rfl⟩)
  go_ret
  exact ⟨rfl, rfl⟩
end
end Go.Proofs.YtocnabpplbeafaaGreat
/- A range over a function whose rounds may lean on what the iterator says of each value it hands over, in the world in which it does. -/
namespace Go.Proofs.YtocnabpplbeafaaGreat
open Go Go.RowKit Go.Shelf
attribute [local go_sem] Oper.semAt_some

/-- What abides whatever happens to blocks from B on. -/
def AbNew {β : Type} (B : Nat) (I : β → World → Prop) : Prop := ∀ s X Y row, I s X → X.grownBy Y row → (∀ r, row = some r → B ≤ r) → I s Y
theorem AbNew.more {β : Type} {B B' : Nat} {I : β → World → Prop} (h : AbNew B I) (hB : B ≤ B') : AbNew B' I := fun s X Y row hs hg hr => h s X Y row hs hg (fun r e => Nat.le_trans hB (hr r e))
theorem AbNew.alloc {β : Type} {B : Nat} {I : β → World → Prop} (h : AbNew B I) {s : β} {X : World} (o : Obj) (hs : I s X) : I s (X.alloc o) :=
  h s X _ none hs ⟨rfl, rfl, rfl, by simp, fun k hk _ => Below.heap_alloc X o k hk⟩ (fun r e => by cases e)
theorem AbNew.drew {β : Type} {B : Nat} {I : β → World → Prop} (h : AbNew B I) {s : β} {X : World} (hs : I s X) : I s X.drew := h s X _ none hs (grownBy_drew X none) (fun r e => by cases e)
theorem AbNew.putObj {β : Type} {B : Nat} {I : β → World → Prop} (h : AbNew B I) {s : β} {X : World} {l : Nat} (o : Obj) (hs : I s X) (hl : B ≤ l) : I s (X.putObj l o) := h s X _ (some l) hs (grownBy_putObj' X l o) (fun r e => by cases e; exact hl)
theorem AbNew.setCell {β : Type} {B : Nat} {I : β → World → Prop} (h : AbNew B I) {s : β} {X : World} {p : Addr} (v : Value) (hs : I s X) (hl : B ≤ p.block) : I s (X.setCell p v) :=
  h s X _ (some p.block) hs ⟨rfl, rfl, rfl, by simp, fun k _ hk => Below.heap_setCell X p v k (fun e => hk (by rw [e]))⟩ (fun r e => by cases e; exact hl)
theorem AbNew.grow {β : Type} {B : Nat} {I : β → World → Prop} (h : AbNew B I) {s : β} {X Y : World} (hs : I s X) (hg : Below X.heap.size X Y) : I s Y := h s X Y none hs ⟨hg.os, hg.tape, hg.output, hg.size, fun k hk _ => hg.block k hk⟩ (fun r e => by cases e)
/-- All blocks are kept, but those below B that may be written. -/
def KeepOut (Mu : Nat → Prop) (B : Nat) (W W' : World) : Prop := W.heap.size ≤ W'.heap.size ∧ ∀ k o, W.heap[k]? = some o → (k < B → ¬ Mu k) → W'.heap[k]? = some o
theorem KeepOut.refl (Mu : Nat → Prop) (B : Nat) (W : World) : KeepOut Mu B W W := ⟨Nat.le_refl _, fun _ _ h _ => h⟩
theorem KeepOut.trans {Mu : Nat → Prop} {B : Nat} {X Y Z : World} (h : KeepOut Mu B X Y) (k : KeepOut Mu B Y Z) : KeepOut Mu B X Z := ⟨Nat.le_trans h.1 k.1, fun i o hi hm => k.2 i o (h.2 i o hi hm) hm⟩
theorem KeepOut.any {Mu : Nat → Prop} {B : Nat} {X Y : World} (h : KeepOut Mu B X Y) : KeepOut (fun _ => True) B X Y := ⟨h.1, fun k o hk hm => h.2 k o hk (fun hb => absurd trivial (hm hb))⟩
theorem KeepOut.more {Mu : Nat → Prop} {B B' : Nat} {X Y : World} (h : KeepOut Mu B X Y) (hB : B ≤ B') : KeepOut Mu B' X Y := ⟨h.1, fun k o hk hm => h.2 k o hk (fun hb => hm (by omega))⟩
theorem KeepOut.grow (Mu : Nat → Prop) (B : Nat) {X Y : World} (h : Below X.heap.size X Y) : KeepOut Mu B X Y := ⟨h.size, fun k o hk _ => (h.block k (Array.getElem?_eq_some_iff.1 hk).1).trans hk⟩
theorem KeepOut.setCell {Mu : Nat → Prop} {B : Nat} (X : World) (p : Addr) (v : Value) (hp : p.block < B) (hm : Mu p.block) : KeepOut Mu B X (X.setCell p v) :=
  ⟨by simp, fun k o hk hn => (Below.heap_setCell X p v k (fun e => hn (by rw [e]; exact hp) (by rw [e]; exact hm))).trans hk⟩
theorem KeepOut.cell {Mu : Nat → Prop} {B : Nat} {X Y : World} (h : KeepOut Mu B X Y) {p : Addr} {v : Value} (hc : X.cell? p = some v) (hm : p.block < B → ¬ Mu p.block) : Y.cell? p = some v := by
  have hb : ∃ o, X.heap[p.block]? = some o := by
    cases ho : X.heap[p.block]? with
    | none => simp [World.cell?, ho] at hc
    | some o => exact ⟨o, rfl⟩
  obtain ⟨o, ho⟩ := hb
  rw [World.cell?_of_block ((h.2 _ o ho hm).trans ho.symm)]
  exact hc
theorem KeepOut.blk {Mu : Nat → Prop} {B : Nat} {X Y : World} (h : KeepOut Mu B X Y) {g : Nat} {t : TypeId} {cs : Array Value} (hb : BlkIs X g t cs) (hm : g < B → ¬ Mu g) : BlkIs Y g t cs := h.2 _ _ hb hm
theorem KeepOut.inB {Mu : Nat → Prop} {B n₀ : Nat} {X Y : World} (h : KeepOut Mu B X Y) {A : Option Addr} {c : Nat} {l : List UInt8} (hb : InB X n₀ A c l) (hm : ∀ g, g < n₀ → ¬ Mu g) : InB Y n₀ A c l :=
  ⟨hb.le, hb.max, hb.nil, fun hl => by
    obtain ⟨g, o, e, hg, hc⟩ := hb.lies hl
    exact ⟨g, o, e, hg, fun j hj => h.cell (hc j hj) (fun _ => hm g hg)⟩⟩
/-- What an iterator does: as the kit's SeqStopsK, but that a round is asked only at values of which Rd holds, and keeps all but what lay there at the start and may be written (Mu). -/
def SeqR {α : Type} (F : Fence) (n : Nat) (P : Program) (g : Nat) (lb : Array Value) (encs : α → Array Value) (Mu : Nat → Prop) (Rd : List α → α → World → Prop) (S Sp : List α → Prop) (w : World) : Prop :=
  ∀ (l : Nat) (J Jx : List α → World → Prop) (W : World), Below w.heap.size w W → AbNew W.heap.size J → AbNew W.heap.size Jx →
    (∀ pre x W1, J pre W1 → Rd pre x W1 → YieldAt F (n - 1) P l (encs x) W1 fun e W' =>
      (e = .returned (.bool true) ∧ J (pre ++ [x]) W' ∧ KeepOut Mu W.heap.size W1 W') ∨ (e = .returned (.bool false) ∧ Jx (pre ++ [x]) W' ∧ KeepOut (fun _ => True) W.heap.size W1 W')) →
    J [] W →
    CallsIn F n P g (#[.func (.yield l) #[] #[]] ++ lb) W fun e W' => (∃ v, e = .returned v) ∧ ((∃ xs, S xs ∧ J xs W') ∨ (∃ pre, Sp pre ∧ Jx pre W'))
/-- How the body of a round may be left. -/
def postR {α : Type} (Mu : Nat → Prop) (B : Nat) (I : List α → World → Prop) (Ix : Code → List α → World → Prop) (xs : List α) (W : World) : Exit → Act → World → Prop
  | .normal, _, W' => KeepOut Mu B W W' ∧ I xs W'
  | .ret, _, W' => KeepOut (fun _ => True) B W W' ∧ Ix .ret xs W'
  | .exit id, _, W' => KeepOut (fun _ => True) B W W' ∧ Ix (.exit id) xs W'
  | .goto t, _, W' => KeepOut (fun _ => True) B W W' ∧ Ix (.goto t) xs W'
  | .panic _, _, _ => False
  | .outgrown, _, _ => False

section
variable {F : Fence} {n : Nat} {P : Program} {w : World}
end
/-- Bytes abide what turns no cells. -/
theorem InB.ownFrom {B : Nat} (A : Option Addr) (c : Nat) (l : List UInt8) : OwnFrom B (fun (_ : Unit) W => InB W W.heap.size A c l) := fun _ X Y row hs hg hr =>
  ⟨hs.le, hs.max, hs.nil, fun hl => by
    obtain ⟨g, o, hA, hgb, hc⟩ := hs.lies hl
    exact ⟨g, o, hA, Nat.lt_of_lt_of_le hgb hg.size, fun j hj => cell_kept (hc j hj) hg (fun r e => (hr r e).2)⟩⟩
end Go.Proofs.YtocnabpplbeafaaGreat
/- octet.Numbers: what its function goes through. -/
namespace Lou
/-- The numbers read in order from the start, and where the next would stand. -/
inductive Run (l : List UInt8) : List (Nat × Nat) → Nat → Prop
  | nil : Run l [] 0
  | snoc {pre : List (Nat × Nat)} {p v u : Nat} : Run l pre p → rd (l.drop p) = some (v, u) → Run l (pre ++ [(p, v)]) (p + u)
theorem Run.le {l : List UInt8} {pre : List (Nat × Nat)} {p : Nat} (h : Run l pre p) : pre.length ≤ p ∧ p ≤ l.length := by
  induction h with
  | nil => simp
  | snoc _ hr ih =>
    have := rd_bound hr
    simp at this ⊢
    omega
theorem Run.inv {l : List UInt8} {r : List (Nat × Nat)} {q : Nat} (h : Run l r q) : (r = [] ∧ q = 0) ∨ ∃ pre p v u, r = pre ++ [(p, v)] ∧ q = p + u ∧ Run l pre p ∧ rd (l.drop p) = some (v, u) := by
  cases h with
  | nil => exact .inl ⟨rfl, rfl⟩
  | snoc h hr => exact .inr ⟨_, _, _, _, rfl, rfl, h, hr⟩
theorem Run.det {l : List UInt8} {pre : List (Nat × Nat)} {p : Nat} (h : Run l pre p) : ∀ {q}, Run l pre q → p = q := by
  induction h with
  | nil =>
    intro q hq
    rcases hq.inv with ⟨_, e⟩ | ⟨pre, p, v, u, e, _⟩
    · exact e.symm
    · simp at e
  | snoc h hr ih =>
    intro q hq
    rcases hq.inv with ⟨e, _⟩ | ⟨pre', p', v', u', e, rfl, h', hr'⟩
    · simp at e
    · have e1 := List.append_inj' e rfl
      obtain ⟨rfl, e2⟩ := e1
      simp only [List.cons.injEq, Prod.mk.injEq, and_true] at e2
      obtain ⟨rfl, rfl⟩ := e2
      rw [hr] at hr'
      injection hr' with e3
      injection e3 with _ e4
      rw [e4]
/-- What stands next is the only one that goes on. -/
theorem Run.next {l : List UInt8} {pre : List (Nat × Nat)} {p : Nat} (h : Run l pre p) {x : Nat × Nat} {q : Nat} (h' : Run l (pre ++ [x]) q) : ∃ u, x.1 = p ∧ rd (l.drop p) = some (x.2, u) ∧ q = p + u := by
  rcases h'.inv with ⟨e, _⟩ | ⟨pre', p', v', u', e, rfl, h2, hr'⟩
  · simp at e
  · have e1 := List.append_inj' e rfl
    obtain ⟨rfl, e2⟩ := e1
    simp only [List.cons.injEq, and_true] at e2
    subst e2
    have := h.det h2
    subst this
    exact ⟨u', rfl, hr', rfl⟩
end Lou
namespace Go.Proofs.YtocnabpplbeafaaGreat
open Go Go.RowKit Lou Go.Shelf
attribute [local go_sem] Oper.semAt_some

theorem wrap_i64_id' (n : Int) (h0 : -9223372036854775808 ≤ n) (h1 : n < 9223372036854775808) : IntKind.i64.wrap n = n := by
  simp [IntKind.wrap, IntKind.bits, IntKind.signed]
  split <;> omega
theorem wpIn_scope_wide {P : Program} {n : Nat} {c : Code} {Q : Exit → Act → World → Prop} {a : Act} {w : World} (h : c.wpIn Fence.wide n P (Exit.noGoto Q) a w) : (Code.scope c).wpIn Fence.wide n P Q a w := wpIn_wide.2 (wp_scope_straight (wpIn_wide.1 h))
section
variable {w0 : World} {n₀ : Nat}

end
end Go.Proofs.YtocnabpplbeafaaGreat
/- slices.Chunk over bytes; frame.Cut: what its function goes through. -/
namespace Go.Proofs.YtocnabpplbeafaaGreat
open Go Go.RowKit Lou Go.Shelf
attribute [local go_sem] Oper.semAt_some

/-- How long a chunk is; how many there are. -/
def chLen (L k : Nat) : Nat := min 64 (L - 64 * k)
def chAll (L : Nat) : Nat := (L + 63) / 64
/-- Two boxes hold what they held. -/
def Keep2 (Bs Bn : Nat) (W W' : World) : Prop := W'.cell? ⟨Bs, 0, none⟩ = W.cell? ⟨Bs, 0, none⟩ ∧ W'.cell? ⟨Bn, 0, none⟩ = W.cell? ⟨Bn, 0, none⟩
theorem Keep2.trans {Bs Bn : Nat} {X Y Z : World} (h : Keep2 Bs Bn X Y) (k : Keep2 Bs Bn Y Z) : Keep2 Bs Bn X Z := ⟨k.1.trans h.1, k.2.trans h.2⟩
set_option maxHeartbeats 1000000 in
theorem chunk_in (n : Nat) (A : Option Addr) (len cap : Nat) (w : World) :
    CallsIn Fence.wide n Tryz.prog 121 #[.slice A len cap, .int .i64 64] w fun e w' => e = .returned (.func (.func 140) #[] #[.pointer (some ⟨w.heap.size, 0, none⟩), .pointer (some ⟨w.heap.size + 1, 0, none⟩)]) ∧ (w.alloc (.cells #[.slice A len cap] 38)).alloc (.cells #[.int .i64 64] 3) = w' := by
  refine callsIn_of_wp Tryz.func121 rfl trivial ?_ rfl
  simp only [Tryz.ntmps121, List.size_toArray, List.length_cons, List.length_nil, Nat.reduceAdd, Nat.reduceSub, Array.replicate_succ, Array.replicate_zero, List.push_toArray, List.append_toArray, List.nil_append, List.cons_append]
  gi_wp2
  go_ret
  exact ⟨rfl, rfl⟩

/-- frame.Cut: it keeps a copy of the bytes in a block. -/
theorem cut_gives (w : World) (A : Option Addr) (c : Nat) (b : List UInt8) (h : InB w w.heap.size A c b) (hl : b.length ≤ 1000000) :
    Calls Tryz.prog 91 #[.slice A b.length c] w fun e w' => ∃ g A2 c2, e = .returned (.func (.func 120) #[] #[.pointer (some ⟨g, 0, none⟩)]) ∧ BlkIs w' g 38 #[.slice A2 b.length c2] ∧ InB w' w'.heap.size A2 c2 b ∧ Below w.heap.size w w' := by
  go_enter Tryz.func91, Tryz.ntmps91
  go_wp2_with (go_at_call 46; refine (clone_gives w A c b h (by omega)).mono ?_; rintro x w1 ⟨v, rfl, own, hB⟩; obtain ⟨A2, c2, rfl, hin⟩ := own.inB)
  go_ret
  have ha := (Below.refl w1.heap.size w1).alloc (Nat.le_refl _) (.cells #[.slice A2 b.length c2] 38)
  exact ⟨_, A2, c2, rfl, BlkIs.new _ _ _, (hin.below ha).more ha.size, hB.trans (ha.mono hB.size)⟩

/-- A chunk's bytes. -/
def chunkB (b : List UInt8) (k : Nat) : List UInt8 := (b.drop (64 * k)).take 64
theorem chunkB_length (b : List UInt8) (k : Nat) : (chunkB b k).length = chLen b.length k := by simp [chunkB, chLen]
theorem BlkIs.abNew {B g : Nat} {t : TypeId} {cs : Array Value} (hg : g < B) {W W' : World} {row : Option Nat} (h : BlkIs W g t cs) (hgr : W.grownBy W' row) (hr : ∀ r, row = some r → B ≤ r) : BlkIs W' g t cs :=
  h.grown hgr (fun e => by have := hr g e.symm; omega)
theorem below_abNew {B n₀ : Nat} {w : World} (hB : n₀ ≤ B) {W W' : World} {row : Option Nat} (hw : n₀ ≤ W.heap.size) (h : Below n₀ w W) (hgr : W.grownBy W' row) (hr : ∀ r, row = some r → B ≤ r) : Below n₀ w W' :=
  h.trans (grown_below hgr hw (fun r e => Nat.le_trans hB (hr r e)))
theorem RoundIn.anyRound {n m l l' : Nat} {P : Program} {f : FuncId} {tmps : Array Value} {assign body : Code} {w : World} {R : Ending → World → Prop} (h : RoundIn Fence.wide n P l f tmps assign body w R) : RoundIn (Fence.wide.inRound l') m P l f tmps assign body w R :=
  ⟨h.1, fun c cs _ => h.2 c cs (room_wide _)⟩

theorem chunk_inB {W : World} {B g o c k : Nat} {b : List UInt8} (h : InB W B (some ⟨g, o, none⟩) c b) (hk : 64 * k < b.length) : InB W B (some ⟨g, o + 64 * k, none⟩) (chLen b.length k) (chunkB b k) := by
  have hl := chunkB_length b k
  refine ⟨by omega, by unfold chLen; omega, (fun h => by cases h), fun _ => ?_⟩
  obtain ⟨g', o', e, hg, hc⟩ := h.lies (by omega)
  injection e with e
  injection e with e1 e2
  subst e1 e2
  refine ⟨g, o + 64 * k, rfl, hg, fun j hj => ?_⟩
  have hj2 : 64 * k + j < b.length := by rw [hl] at hj; unfold chLen at hj; omega
  have := hc (64 * k + j) hj2
  rw [Nat.add_assoc, this]
  simp [chunkB]

theorem KeepOut.inB2 {Mu Nu : Nat → Prop} {B n₀ : Nat} {X Y : World} (h : KeepOut Mu B X Y) {A : Option Addr} {c : Nat} {l : List UInt8} (hb : InB X n₀ A c l) (hm : 0 < l.length → ∀ g o, A = some ⟨g, o, none⟩ → ¬ Nu g) (hs : ∀ g, g < n₀ → g < B → ¬ Nu g → ¬ Mu g := by first | exact fun g _ _ h => h | (intro g h1 h2 h3; simp only at *; omega)) : InB Y n₀ A c l :=
  ⟨hb.le, hb.max, hb.nil, fun hl => by
    obtain ⟨g, o, e, hg, hc⟩ := hb.lies hl
    exact ⟨g, o, e, hg, fun j hj => h.cell (hc j hj) (fun hB => hs g hg hB (hm hl g o e))⟩⟩
theorem yield_out {e : Ending} {p q : Prop} (h : (e = .returned (.bool true) ∧ p) ∨ (e = .returned (.bool false) ∧ q)) : ∃ r, e = .returned (.bool r) ∧ ((r = true ∧ p) ∨ (r = false ∧ q)) := by
  rcases h with ⟨rfl, h⟩ | ⟨rfl, h⟩
  · exact ⟨true, rfl, .inl ⟨rfl, h⟩⟩
  · exact ⟨false, rfl, .inr ⟨rfl, h⟩⟩
section
variable {n₀ : Nat}
/-- What Cut's function hands over: a chunk's number, and where its bytes lie. -/
def cutEnc (L : Nat) (x : Nat × (Option Addr × Nat)) : Array Value := #[.int .i64 (x.1 : Int), .slice x.2.1 (chLen L x.1) x.2.2]
def CutRd (b : List UInt8) (pre : List (Nat × (Option Addr × Nat))) (x : Nat × (Option Addr × Nat)) (W : World) : Prop := x.1 = pre.length ∧ 64 * x.1 < b.length ∧ InB W W.heap.size x.2.1 x.2.2 (chunkB b x.1)
end
end Go.Proofs.YtocnabpplbeafaaGreat
/- As RangeR, but what a round begins with (the range's variables, laid anew) may lie in memory. -/
namespace Go.Proofs.YtocnabpplbeafaaGreat
open Go Go.RowKit Go.Shelf
attribute [local go_sem] Oper.semAt_some

section
variable {F : Fence} {n : Nat} {P : Program} {w : World}
theorem wpIn_rangeFunc_A {α : Type} {g : Operand} {ps : Array Tmp} {assign body : Code} {Q : Exit → Act → World → Prop} {a : Act}
    (hro : F.round = none) (h1 : 1 ≤ n) {gf : Nat} {lb : Array Value} (hg : a.eval g = .func (.func gf) #[] lb) (hFg : F.fn gf) (eg : ∀ args w, (callFunc gf args).run P w = .ok (.enter gf args) w)
    {encs : α → Array Value} {Mu : Nat → Prop} {Rd : List α → α → World → Prop} {S Sp : List α → Prop} {w0 : World} (hseq : SeqR F (n - 1) P gf lb encs Mu Rd S Sp w0)
    (hb0 : Below w0.heap.size w0 w) (hps : ∀ x, (encs x).size = ps.size)
    (I : List α → World → Prop) (Ix : Code → List α → World → Prop) (hI : AbNew w.heap.size I) (hIx : ∀ c, AbNew w.heap.size (Ix c)) (hRd : ∀ pre x, OwnFrom w.heap.size (fun (_ : Unit) W => Rd pre x W)) (h0 : I [] w) (As : α → Act → World → Prop) (hAs : ∀ x a, OwnFrom w.heap.size (fun (_ : Unit) W => As x a W))
    (hassign : ∀ (l : Nat) (x : α) (W : World) (K : Act → World → Prop), w.heap.size ≤ W.heap.size → (∀ a W', Below W.heap.size W W' → As x a W' → K a W') →
      assign.wpIn (F.inRound l) (n - 1 - 1) P (Exit.then K (fun _ _ _ => False)) { tmps := (ps.zip (encs x)).foldl (fun t (p, v) => t.setIfInBounds p v) a.tmps, defers := [] } W)
    (hbody : ∀ (l : Nat) (pre : List α) (x : α) (W : World) (a : Act), w.heap.size ≤ W.heap.size → I pre W → Rd pre x W → As x a W → body.wpIn (F.inRound l) (n - 1 - 1) P (postR Mu w.heap.size I Ix (pre ++ [x]) W) a W)
    (hdone : ∀ (D : Nat) (xs : List α) (W : World), w.heap.size ≤ D → S xs → I xs W → W.heap[D]? = some (.deferred (some [])) → Q .normal { a with defers := { target := .collected D, args := #[] } :: a.defers } W)
    (hstop : ∀ (D : Nat) (c : Code) (pre : List α) (W : World), w.heap.size ≤ D → Sp pre → Ix c pre W → W.heap[D]? = some (.deferred (some [])) → c.wpIn F n P Q { a with defers := { target := .collected D, args := #[] } :: a.defers } W) :
    (Code.rangeFunc g ps assign body).wpIn F n P Q a w := by
  refine wpIn_rangeFunc fun fn hfn => ?_
  rw [hro]
  -- the loop's record, and the world that bears it and the block for deferred calls
  obtain ⟨rec, hrec⟩ : ∃ rec : LoopState → Option Code → Loop, rec = fun st pe => { state := st, pending := pe, fn, tmps := a.tmps, params := ps, assign, body, defers := w.heap.size } := ⟨_, rfl⟩
  obtain ⟨V, hV⟩ : ∃ V, (w.alloc (.deferred (some []))).alloc (.loop (rec .ready none)) = V := ⟨_, rfl⟩
  have vL : V.heap[w.heap.size + 1]? = some (.loop (rec .ready none)) := by
    subst hV
    have := World.alloc_heap_new (w.alloc (.deferred (some []))) (.loop (rec .ready none))
    rwa [World.size_alloc] at this
  have vD : V.heap[w.heap.size]? = some (.deferred (some [])) := by
    subst hV
    exact (Below.heap_alloc _ _ _ (by simp)).trans (World.alloc_heap_new w _)
  have vI : I [] V := by subst hV; exact hI.alloc _ (hI.alloc _ h0)
  have vS : V.heap.size = w.heap.size + 2 := by subst hV; simp
  have vB : Below w0.heap.size w0 V := by
    subst hV
    exact hb0.trans ((((Below.refl _ w).alloc (Nat.le_refl _) _).alloc (by simp) _).mono hb0.size)
  refine ⟨w.heap.size + 1, [{ target := .collected w.heap.size, args := #[] }], V, { target := .fn (.func gf) lb, args := #[.func (.yield (w.heap.size + 1)) #[] #[]] }, V, gf, #[.func (.yield (w.heap.size + 1)) #[] #[]] ++ lb, V, ?_, ?_, ?_, ?_, fun _ => h1, ?_⟩
  · rw [← hV, hrec]; exact run_enterLoop_outer _ _ _ _ _
  · simp only [resolve, hg]
    simp [go_sem]
  · intro f' hf'
    simp [Target.leads] at hf'
    subst hf'
    exact hFg
  · simp [invoke, go_sem, eg]
  have apart : ∀ {A B : World} {row : Option Nat} {k : Nat} {o : Obj}, A.heap[k]? = some o → A.grownBy B row → (∀ r, row = some r → V.heap.size ≤ r) → k < V.heap.size → B.heap[k]? = some o := fun hk hg hr hlt =>
    (hg.block _ (Array.getElem?_eq_some_iff.1 hk).1 (fun e => by have := hr _ e.symm; omega)).trans hk
  refine (hseq (w.heap.size + 1)
    (fun pre W => I pre W ∧ W.heap[w.heap.size + 1]? = some (.loop (rec .ready none)) ∧ W.heap[w.heap.size]? = some (.deferred (some [])))
    (fun pre W => ∃ c, Ix c pre W ∧ W.heap[w.heap.size + 1]? = some (.loop (rec .done (some c))) ∧ W.heap[w.heap.size]? = some (.deferred (some [])))
    V vB
    (fun s A B row hs hg' hr => ⟨hI s A B row hs.1 hg' (fun r e => by have := hr r e; omega), apart hs.2.1 hg' hr (by omega), apart hs.2.2 hg' hr (by omega)⟩)
    (fun s A B row hs hg' hr => by
      obtain ⟨c, hc, hl, hk⟩ := hs
      exact ⟨c, hIx c s A B row hc hg' (fun r e => by have := hr r e; omega), apart hl hg' hr (by omega), apart hk hg' hr (by omega)⟩)
    ?round ⟨vI, vL, vD⟩).mono ?behind
  case round =>
    rintro pre x W0 ⟨hi0, hl0, hk0⟩ hrd0
    have hlt0 : w.heap.size + 1 < W0.heap.size := (Array.getElem?_eq_some_iff.1 hl0).1
    have hy := run_yield (P := P) (args := encs x) hl0 (by rw [hrec]; exact hps x)
    rw [hrec] at hy
    refine ⟨fn, _, assign, body, hy, roundIn_of_wpIn hfn (hassign _ x W0 _ (by omega) (fun a2 W hBW hA2 => ⟨_, run_beginRound ((hBW.block _ hlt0).trans hl0) (by rw [hrec]), ?_⟩))⟩
    clear hy
    have hl := (hBW.block _ hlt0).trans hl0
    have hk := (hBW.block _ (show w.heap.size < W0.heap.size by omega)).trans hk0
    have hi := hI.grow hi0 hBW
    have hrd := (hRd pre x) () W0 W none hrd0 ⟨hBW.os, hBW.tape, hBW.output, hBW.size, fun k hk _ => hBW.block k hk⟩ (fun r e => by cases e)
    have hlt : w.heap.size + 1 < W.heap.size := (Array.getElem?_eq_some_iff.1 hl).1
    have bL : (W.putObj (w.heap.size + 1) (.loop { rec .ready none with state := .busy })).heap[w.heap.size + 1]? = some (.loop { rec .ready none with state := .busy }) := World.putObj_heap_same hlt
    have bD : (W.putObj (w.heap.size + 1) (.loop { rec .ready none with state := .busy })).heap[w.heap.size]? = some (.deferred (some [])) := (World.putObj_heap_other (by omega)).trans hk
    refine wpIn_mono (hbody _ pre x _ _ (by simp; omega) (hI.putObj _ hi (by omega)) ((hRd pre x).putObj (s := ()) _ hrd (by omega) hl rfl) ((hAs x a2).putObj (s := ()) _ hA2 (by omega) hl rfl)) ?_
    -- the round's end
    have fin : ∀ (jump : Option Code) (U : World), KeepOut (fun _ => True) w.heap.size (W.putObj (w.heap.size + 1) (.loop { rec .ready none with state := .busy })) U →
        (Instr.endRound (w.heap.size + 1) jump).run P U = .ok (.bool jump.isNone) (U.putObj (w.heap.size + 1) (.loop (rec (if jump.isNone then .ready else .done) jump))) ∧
        U.heap[w.heap.size + 1]? = some (.loop { rec .ready none with state := .busy }) ∧
        (U.putObj (w.heap.size + 1) (.loop (rec (if jump.isNone then .ready else .done) jump))).heap[w.heap.size + 1]? = some (.loop (rec (if jump.isNone then .ready else .done) jump)) ∧
        (U.putObj (w.heap.size + 1) (.loop (rec (if jump.isNone then .ready else .done) jump))).heap[w.heap.size]? = some (.deferred (some [])) := fun jump U hkU => by
      have uL := hkU.2 _ _ bL (fun h => by omega)
      have := run_endRound (P := P) jump uL
      rw [hrec] at this ⊢
      exact ⟨this, by rw [hrec] at uL; exact uL, World.putObj_heap_same (Array.getElem?_eq_some_iff.1 uL).1, (World.putObj_heap_other (by omega)).trans (hkU.2 _ _ bD (fun h => by omega))⟩
    have out : ∀ (c : Code) (U : World), KeepOut (fun _ => True) w.heap.size (W.putObj (w.heap.size + 1) (.loop { rec .ready none with state := .busy })) U → Ix c (pre ++ [x]) U →
        (∃ c', Ix c' (pre ++ [x]) (U.putObj (w.heap.size + 1) (.loop (rec .done (some c)))) ∧ (U.putObj (w.heap.size + 1) (.loop (rec .done (some c)))).heap[w.heap.size + 1]? = some (.loop (rec .done (some c'))) ∧ (U.putObj (w.heap.size + 1) (.loop (rec .done (some c)))).heap[w.heap.size]? = some (.deferred (some []))) ∧ KeepOut (fun _ => True) V.heap.size W0 (U.putObj (w.heap.size + 1) (.loop (rec .done (some c)))) := fun c U hkU hix => by
      obtain ⟨_, h3, h4, h5⟩ := fin (some c) U hkU
      refine ⟨⟨c, (hIx c).putObj _ hix (by omega), h4, h5⟩, (KeepOut.grow _ _ hBW).trans ⟨by have := hkU.1; simpa using this, fun k o hk hm => ?_⟩⟩
      have hkl : k ≠ w.heap.size + 1 := fun e => hm (by omega) trivial
      rw [World.putObj_heap_other hkl]
      exact hkU.2 k o (by rw [World.putObj_heap_other hkl]; exact hk) (fun h => hm (by omega))
    rintro e a3 U hp
    cases e with
    | normal =>
      obtain ⟨hk3, hi3⟩ := hp
      obtain ⟨hr, h3, h4, h5⟩ := fin none U hk3.any
      refine ⟨_, _, hr, .inl ⟨rfl, ⟨hI.putObj _ hi3 (by omega), h4, h5⟩, (KeepOut.grow _ _ hBW).trans ⟨by have := hk3.1; simpa using this, fun k o hk hm => ?_⟩⟩⟩
      by_cases hkl : k = w.heap.size + 1
      · subst hkl
        rw [hl] at hk
        rw [← hk]
        exact h4
      · rw [World.putObj_heap_other hkl]
        exact hk3.2 k o (by rw [World.putObj_heap_other hkl]; exact hk) (fun h => hm (by omega))
    | ret => exact ⟨_, _, (fin (some .ret) U hp.1).1, .inr ⟨rfl, out .ret U hp.1 hp.2⟩⟩
    | exit id => exact ⟨_, _, (fin (some (.exit id)) U hp.1).1, .inr ⟨rfl, out (.exit id) U hp.1 hp.2⟩⟩
    | goto t => exact ⟨_, _, (fin (some (.goto t)) U hp.1).1, .inr ⟨rfl, out (.goto t) U hp.1 hp.2⟩⟩
    | panic ch => exact hp.elim
    | outgrown => exact hp.elim
  case behind =>
    rintro e U ⟨⟨v, rfl⟩, (⟨xs, hS, hi, hl, hk⟩ | ⟨pre, hSp, c, hi, hl, hk⟩)⟩
    · have hr := run_endLoop (P := P) hl (by rw [hrec]; simp)
      rw [hrec] at hr
      exact ⟨none, _, hr, hdone _ xs _ (Nat.le_refl _) hS (hI.putObj _ hi (by omega)) ((World.putObj_heap_other (by omega)).trans hk)⟩
    · have hr := run_endLoop (P := P) hl (by rw [hrec]; simp)
      rw [hrec] at hr
      exact ⟨some c, _, hr, hstop _ c pre _ (Nat.le_refl _) hSp ((hIx c).putObj _ hi (by omega)) ((World.putObj_heap_other (by omega)).trans hk)⟩
end
end Go.Proofs.YtocnabpplbeafaaGreat
/- Loads, allocs, stores of whole elements in a fenced walk. -/
namespace Go.Proofs.YtocnabpplbeafaaGreat
open Go Go.RowKit Lou Go.Shelf
section
variable {F : Fence} {n : Nat} {P : Program} {w w' : World} {ops : Array Oper} {rest : List Oper} {o : Oper} {a : Act} {Q : Exit → Act → World → Prop}
theorem wpIn_loadX {v : Value} (hg : o.guard = none) (T : TypeId) (x : Operand) (hop : o.op = .load T x) (hr : (execOp a.eval o).run P w = .ok (.value v) w') (h : wpListIn F n P ops Q rest (a.put o.dst v) w') : wpListIn F n P ops Q (o :: rest) a w :=
  wpListIn_plain hg fun K' hK' => by
    unfold Oper.wpIn
    refine ⟨by simp [Oper.about, hop], ?_⟩
    rw [Oper.semAt_plain F _ _ (by rw [hop]; intro c hc'; cases hc'), hr]
    exact hK' _ _ h
theorem wpIn_allocX {v : Value} (hg : o.guard = none) (T : TypeId) (hop : o.op = .alloc T) (hr : (execOp a.eval o).run P w = .ok (.value v) w') (h : wpListIn F n P ops Q rest (a.put o.dst v) w') : wpListIn F n P ops Q (o :: rest) a w :=
  wpListIn_plain hg fun K' hK' => by
    unfold Oper.wpIn
    refine ⟨by simp [Oper.about, hop], ?_⟩
    rw [Oper.semAt_plain F _ _ (by rw [hop]; intro c hc'; cases hc'), hr]
    exact hK' _ _ h
theorem wpIn_storeX (hg : o.guard = none) (T : TypeId) (x y : Operand) (hop : o.op = .store T x y) (g : Nat) {t : TypeId} {cs cs' : Array Value} (hx : a.eval x = .pointer (some ⟨g, 0, none⟩)) (hy : a.eval y = .agg cs') {m : Nat} (hT : RowTy P T m) (hb : BlkIs w g t cs) (hn : cs.size = m)
    (hs : cs'.size = cs.size) (h1 : ∀ v ∈ cs'.toList, v.oneCell' = true) (h : wpListIn F n P ops Q rest (a.put o.dst undef) (w.setRow g cs')) : wpListIn F n P ops Q (o :: rest) a w :=
  wpListIn_plain hg fun K' hK' => by
    unfold Oper.wpIn
    refine ⟨by simp [Oper.about, hop], ?_⟩
    rw [Oper.semAt_plain F _ _ (by rw [hop]; intro c hc'; cases hc')]
    unfold execOp
    simp only [hop, hx, hy, Instr.storeAt, Instr.sureAddr, Sem.run_bind, Sem.run_pure, Result.andThen_ok, run_storeW (hn ▸ hT) hb hs h1]
    exact hK' _ _ h
end
end Go.Proofs.YtocnabpplbeafaaGreat
/- slices.Backward over loose writes. -/
namespace Go.Proofs.YtocnabpplbeafaaGreat
open Go Go.RowKit Lou Go.Shelf
attribute [local go_sem] Oper.semAt_some

/-- The k-th loose write, told from the end. -/
def backX (xs : List (Nat × List UInt8)) (k : Nat) : Nat × List UInt8 := xs.getD (xs.length - 1 - k) (0, zer64)
set_option maxRecDepth 100000 in
set_option maxHeartbeats 4000000 in
theorem back1_in (n : Nat) (hn2 : 2 ≤ n) (l Bs g o c : Nat) (xs : List (Nat × List UInt8)) (hw : Wide xs) (A : Option Addr) (hA : 0 < xs.length → A = some ⟨g, o, none⟩) (hLc : xs.length ≤ c) (hL : xs.length ≤ 1000000) (J Jx : List Nat → World → Prop) (BE : Nat)
    (hY : ∀ pre k W, J pre W → (k = pre.length ∧ k < xs.length) → YieldAt Fence.wide (n - 1) Tryz.prog l #[.int .i64 ((xs.length : Int) - 1 - k), .agg (lsC (backX xs k)).toArray] W fun e W' =>
      (e = .returned (.bool true) ∧ J (pre ++ [k]) W' ∧ KeepOut (fun _ => False) BE W W') ∨ (e = .returned (.bool false) ∧ Jx (pre ++ [k]) W' ∧ KeepOut (fun _ => True) BE W W'))
    (W : World) (hcs : W.cell? ⟨Bs, 0, none⟩ = some (.slice A xs.length c)) (hr : ∀ k, (h : k < xs.length) → W.rangeAt g (o + k * 65) (lsC xs[k])) (h0 : J [] W) :
    CallsIn Fence.wide n Tryz.prog 163 #[.func (.yield l) #[] #[], .pointer (some ⟨Bs, 0, none⟩)] W fun e W' => (∃ v, e = .returned v) ∧
      ((∃ ys, ys.length = xs.length ∧ J ys W') ∨ (∃ pre, (pre.length ≤ xs.length ∧ 0 < pre.length) ∧ Jx pre W')) := by
  have h1 : 1 ≤ n := by omega
  have hw0 : IntKind.i64.wrap ((xs.length : Int) - 1) = (xs.length : Int) - 1 := wrap_i64_fr _ (by omega) (by omega)
  refine callsIn_of_wp Tryz.func163 rfl trivial ?_ rfl
  simp only [Tryz.ntmps163, List.size_toArray, List.length_cons, List.length_nil, Nat.reduceAdd, Nat.reduceSub, Array.replicate_succ, Array.replicate_zero, List.push_toArray, List.append_toArray, List.nil_append, List.cons_append]
  gi_wp2
  gi_loopw [3] (fun i wr => ∃ (q : Int) (pre : List Nat), i = .int .i64 q ∧ q = (xs.length : Int) - 1 - pre.length ∧ pre.length ≤ xs.length ∧ J pre wr ∧ KeepOut (fun _ => False) 0 W wr)
    (fun i _ => (intOf i + 1).toNat)
  case atStart => exact ⟨(xs.length : Int) - 1, [], rfl, by simp, by simp, h0, KeepOut.refl _ _ _⟩
  case round =>
    obtain ⟨q, pre, rfl, hq, hb, hJs, hnx⟩ := hrel
    have hc1 : wr.cell? ⟨Bs, 0, none⟩ = some (.slice A xs.length c) := hnx.cell (p := ⟨Bs, 0, none⟩) hcs (fun h => by simp)
    by_cases hlt : 0 ≤ q
    · have hk : xs.length - 1 - pre.length < xs.length := by omega
      obtain rfl := hA (by omega)
      obtain ⟨m, hm⟩ : ∃ m : Nat, m = xs.length - 1 - pre.length := ⟨_, rfl⟩
      rw [← hm] at hk
      have hqm : q = (m : Int) := by omega
      subst hqm
      have hrk : wr.rangeAt g (o + m * 65) (lsC xs[m]) := fun j v hj => hnx.cell (p := ⟨g, o + m * 65 + j, none⟩) (hr m hk j v hj) (fun h => by simp)
      have h65 : (lsC xs[m]).length = 65 := lsC_length (hw _ (List.getElem_mem hk))
      obtain ⟨fn, tmps, assign, body, hy, hR⟩ := hY pre pre.length wr hJs ⟨rfl, by omega⟩
      have hbx : backX xs pre.length = xs[m] := by
        unfold backX
        rw [← hm, List.getD_eq_getElem?_getD, List.getElem?_eq_getElem hk]
        rfl
      rw [hbx, show (xs.length : Int) - 1 - (pre.length : Int) = (m : Int) from by omega] at hy
      obtain ⟨x, hxe⟩ : ∃ x, x = xs[m] := ⟨_, rfl⟩
      rw [← hxe] at hy hrk h65
      have hwm : IntKind.i64.wrap ((m : Int) - 1) = (m : Int) - 1 := wrap_i64_fr _ (by omega) (by omega)
      have HQ := Lib.hid hq
      have H65 := Lib.hid h65
      clear hq hxe hbx hm h65
      gi_wp2_with (refine wpIn_loadX rfl _ _ rfl (x_loadM rowLoose hrk H65.out rfl rfl) ?_)
      refine hR.mono ?_
      have hQ := HQ.out
      rintro e W3 (⟨rfl, hJ3, hk3⟩ | ⟨rfl, hJx3, _⟩)
      · have hnx3 : KeepOut (fun _ => False) 0 W W3 := hnx.trans ⟨hk3.1, fun k o hk hm => hk3.2 k o hk (fun h => by simp)⟩
        clear hQ
        gi_wp2
        go_roundw
        case rel => exact ⟨(m : Int) - 1, pre ++ [pre.length], rfl, by simp; have := HQ.out; omega, by simp; have := HQ.out; omega, hJ3, hnx3⟩
        case measure => simp [intOf]
      · have hl : (pre ++ [pre.length]).length ≤ xs.length ∧ 0 < (pre ++ [pre.length]).length := by simp; omega
        clear hQ
        gi_wp2
        exact bodyPost_ret (results_none rfl _ _ _) rfl ⟨⟨_, rfl⟩, .inr ⟨_, hl, hJx3⟩⟩
    · obtain ⟨hs⟩ : Nonempty (pre.length = xs.length) := ⟨by omega⟩
      gi_wp2
      go_end0
      exact ⟨⟨_, rfl⟩, .inl ⟨pre, hs, hJs⟩⟩
theorem back1_seq (n : Nat) (hn2 : 2 ≤ n) (Bs g o c : Nat) (xs : List (Nat × List UInt8)) (hw : Wide xs) (A : Option Addr) (hA : 0 < xs.length → A = some ⟨g, o, none⟩) (hLc : xs.length ≤ c) (hL : xs.length ≤ 1000000) (w : World) (hBs : Bs < w.heap.size)
    (hcs : w.cell? ⟨Bs, 0, none⟩ = some (.slice A xs.length c)) (hg : 0 < xs.length → g < w.heap.size) (hr : ∀ k, (h : k < xs.length) → w.rangeAt g (o + k * 65) (lsC xs[k])) :
    SeqR Fence.wide n Tryz.prog 163 #[.pointer (some ⟨Bs, 0, none⟩)] (fun k : Nat => #[.int .i64 ((xs.length : Int) - 1 - k), .agg (lsC (backX xs k)).toArray]) (fun _ => False)
      (fun pre k _ => k = pre.length ∧ k < xs.length) (fun ys => ys.length = xs.length) (fun pre => pre.length ≤ xs.length ∧ 0 < pre.length) w := fun l J Jx W hW _ _ hY h0 =>
  back1_in n hn2 l Bs g o c xs hw A hA hLc hL J Jx W.heap.size hY W ((hW.cell (p := ⟨Bs, 0, none⟩) hBs).trans hcs) (fun k h j v hj => (hW.cell (p := ⟨g, o + k * 65 + j, none⟩) (hg (by omega))).trans (hr k h j v hj)) h0
end Go.Proofs.YtocnabpplbeafaaGreat
