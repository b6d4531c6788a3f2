/- Texts that the proof of WalHolds leans on, part 10. -/
import Derived.OrdersHeld
import Derived.Test.YtocnabpplbeafaaGreatWalHoldsB9
/- Regions that draw their order, walked by hand (RegF): an operation may be taken first too where the last writer (number fin) waits for it through others. -/
namespace Go.Proofs.YtocnabpplbeafaaGreat
open Go Go.RowKit Lou
namespace RegF
section
variable {P : Program} {ops : Array Oper} {Q : Exit → Act → World → Prop} {md : Region.Mode} {S : World → Prop} {fin : Nat}

/-- What is listed waits for nothing that is not listed. -/
def Closed (md : Region.Mode) (ops : Array Oper) (l : Array Bool) : Prop := ∀ j o, ops[j]? = some o → l.getD j false = true → ∀ e ∈ o.after, Region.binds md e = true → l.getD e.on false = true
def closedB (md : Region.Mode) (ops : Array Oper) (l : Array Bool) : Bool := (List.range ops.size).all fun j => match ops[j]? with | some o => !l.getD j false || o.after.toList.all (fun e => !Region.binds md e || l.getD e.on false) | none => true
theorem closedB_spec {l : Array Bool} (h : closedB md ops l = true) : Closed md ops l := by
  intro j o ho hl e he hb
  unfold closedB at h
  rw [List.all_eq_true] at h
  have := h j (List.mem_range.2 (Array.getElem?_eq_some_iff.1 ho).1)
  simp only [ho, hl, Bool.not_true, Bool.false_or, List.all_eq_true] at this
  have := this e (Array.mem_toList_iff.2 he)
  simpa [hb] using this
/-- j waits for i, itself or through others. -/
def reach (md : Region.Mode) (ops : Array Oper) : Nat → Nat → Nat → Bool
  | 0, _, _ => false
  | n + 1, j, i => match ops[j]? with | some o => o.after.toList.any (fun e => Region.binds md e && (e.on == i || reach md ops n e.on i)) | none => false
theorem reach_spec {n j i : Nat} {o : Oper} (h : reach md ops (n + 1) j i = true) (ho : ops[j]? = some o) : ∃ e ∈ o.after, Region.binds md e = true ∧ (e.on = i ∨ reach md ops n e.on i = true) := by
  simp only [reach, ho, List.any_eq_true, Bool.and_eq_true, Bool.or_eq_true, beq_iff_eq] at h
  obtain ⟨e, hm, hb, he⟩ := h
  exact ⟨e, Array.mem_toList_iff.1 hm, hb, he⟩
theorem not_listed {l : Array Bool} (hc : Closed md ops l) {i : Nat} (hi : l.getD i false = false) : ∀ (n j : Nat), reach md ops n j i = true → l.getD j false = false
  | 0, _, h => by cases h
  | n + 1, j, h => by
    cases hj : l.getD j false with
    | false => rfl
    | true =>
      cases ho : ops[j]? with
      | none => simp [reach, ho] at h
      | some o =>
        obtain ⟨e, he, hb, h1⟩ := reach_spec h ho
        have h2 := hc j o ho hj e he hb
        rcases h1 with rfl | h1
        · rw [hi] at h2; cases h2
        · rw [not_listed hc hi n _ h1] at h2; cases h2
theorem not_ready {l : Array Bool} (hc : Closed md ops l) {i n j : Nat} (hi : l.getD i false = false) (hr : reach md ops n j i = true) : ¬ j ∈ Region.ready md ops l := by
  intro h
  obtain ⟨_, o, ho, hall⟩ := mem_ready.1 h
  cases n with
  | zero => cases hr
  | succ n =>
    obtain ⟨e, he, hb, h1⟩ := reach_spec hr ho
    have h2 := hall e he hb
    rcases h1 with rfl | h1
    · rw [hi] at h2; cases h2
    · rw [not_listed hc hi n _ h1] at h2; cases h2
theorem getD_set_mono {l : Array Bool} {j k : Nat} (h : l.getD k false = true) : (l.setIfInBounds j true).getD k false = true := by
  by_cases e : j = k
  · subst e
    rcases Nat.lt_or_ge j l.size with h' | h'
    · simp [h']
    · simp [Array.getElem?_eq_none h'] at h
  · rw [getD_set_ne false e]; exact h
theorem Closed.set {l : Array Bool} (hc : Closed md ops l) {j : Nat} (hj : j ∈ Region.ready md ops l) : Closed md ops (l.setIfInBounds j true) := by
  intro k o ho hk e he hb
  by_cases hkj : j = k
  · subst hkj
    obtain ⟨_, o', ho', hall⟩ := mem_ready.1 hj
    rw [ho] at ho'
    cases ho'
    exact getD_set_mono (hall e he hb)
  · rw [getD_set_ne false hkj] at hk
    exact getD_set_mono (hc k o ho hk e he hb)
theorem unlisted {l : Array Bool} {i : Nat} (h : i ∈ Region.ready md ops l) : l.getD i false = false := by
  have h0 := (mem_ready.1 h).1
  rcases Nat.lt_or_ge i l.size with h' | h'
  · simp [h'] at h0 ⊢; exact h0
  · simp [Array.getElem?_eq_none h'] at h0
theorem first1 {i n : Nat} {oi : Oper} {v : Value} (hi : ops[i]? = some oi) (hsel : ∀ (j : Nat) (o : Oper) cs b, ops[j]? = some o → o.op ≠ .select cs b)
    (hQ : ∀ c a w, Q (.panic c) (a.put oi.dst v) w → Q (.panic c) a w) (hfin : reach md ops n fin i = true) :
    ∀ (fuel : Nat) (listed : Array Bool) (a : Act) (w : World), Closed md ops listed →
      (∀ j oj, ops[j]? = some oj → j ≠ i → listed.getD j true = false → (∀ e ∈ oj.after, Region.binds md e = true → e.on ≠ i) → oi.apart ops oj = true) →
      i ∈ Region.ready md ops listed → YieldsIf P ops S oi v a → S w →
      wpAnyF P md ops Q S fin fuel (listed.setIfInBounds i true) (a.put oi.dst v) w → wpAnyF P md ops Q S fin (fuel + 1) listed a w := by
  intro fuel
  induction fuel with
  | zero =>
    intro listed a w _ _ hr hy hS H
    refine ⟨fun h => (by rw [h] at hr; cases hr), fun j hj => ?_⟩
    by_cases hji : j = i
    · subst hji; exact hy.wpOp hi hS ⟨fun _ => hS, H⟩
    · have := ready_mono hj hji
      rw [H.1] at this
      cases this
  | succ fuel ih =>
    intro listed a w hcl hfree hr hy hS H
    refine ⟨fun h => (by rw [h] at hr; cases hr), fun j hj => ?_⟩
    by_cases hji : j = i
    · subst hji; exact hy.wpOp hi hS ⟨fun _ => hS, H⟩
    · have h1 := H.2 j (ready_mono hj hji)
      obtain ⟨hjun, oj, hoj, hall⟩ := mem_ready.1 hj
      have hnot : ∀ e ∈ oj.after, Region.binds md e = true → e.on ≠ i := fun e he hb heq => by
        have h1 := hall e he hb
        rw [heq, unlisted hr] at h1
        cases h1
      have hjf : j ≠ fin := fun e => by
        subst e
        exact not_ready hcl (unlisted hr) hfin hj
      have h2 := wpOp_putIf hoj (hfree j oj hoj hji hjun hnot) (fun cs b => hsel i oi cs b hi) (fun cs b => hsel j oj cs b hoj) hQ hy h1
      have hfree' : ∀ k ok, ops[k]? = some ok → k ≠ i → (listed.setIfInBounds j true).getD k true = false →
          (∀ e ∈ ok.after, Region.binds md e = true → e.on ≠ i) → oi.apart ops ok = true := fun k ok hk hki hun hno => by
        refine hfree k ok hk hki ?_ hno
        by_cases hjk : j = k
        · subst hjk; exact hjun
        · rw [getD_set_ne true hjk] at hun; exact hun
      refine wpOp_mono (fun a' w' h3 => ⟨h3.2.1, ih (listed.setIfInBounds j true) a' w' (hcl.set hj) hfree' (ready_mono hr (Ne.symm hji)) h3.1 (h3.2.1 hjf) ?_⟩) h2
      rw [Array.setIfInBounds_comm _ _ hji]
      exact h3.2.2
theorem take1 {fuel : Nat} {listed : Array Bool} {a : Act} {w : World} (i : Nat) {oi : Oper} (v : Value) (hi : ops[i]? = some oi)
    (hs : Region.noSelect ops = true) (hf : Region.free md ops listed i = true) (hr : (Region.ready md ops listed).contains i = true) (hcl : closedB md ops listed = true) (hfin : reach md ops 30 fin i = true)
    (hQ : ∀ c a w, Q (.panic c) (a.put oi.dst v) w → Q (.panic c) a w) (hS : S w) (hy : YieldsIf P ops S oi v a)
    (h : wpAnyF P md ops Q S fin fuel (listed.setIfInBounds i true) (a.put oi.dst v) w) : wpAnyF P md ops Q S fin (fuel + 1) listed a w :=
  first1 hi (Region.noSelect_spec hs) hQ hfin fuel listed a w (closedB_spec hcl) (Region.free_spec hi hf) (by simpa using hr) hy hS h
end
end RegF
end Go.Proofs.YtocnabpplbeafaaGreat
/- wal: pages that may be appended. -/
namespace Go.Proofs.YtocnabpplbeafaaGreat
open Go Go.RowKit Lou

theorem rowPW : RowTy Tryz.prog 80 2 := ⟨⟨_, Tryz.underlying80, rfl⟩, by kernel_rfl⟩
set_option maxRecDepth 100000 in
set_option maxHeartbeats 8000000 in
theorem right1_gives (w : World) (lb l : Nat) (D : Option Addr) (fr pg : Int) (sr ep : Nat) (sz : Int) (A : Option Addr) (n c : Nat) (hlb : BlkIs w lb 33 #[.pointer (some ⟨l, 0, none⟩)]) (hlg : BlkIs w l 57 (lgC D fr pg sr ep sz A n c)) (p : Int) (A2 : Option Addr) (c2 : Nat) (hp : plE (planOk fr pg) p pg = 0) :
    Calls Tryz.prog 84 #[.agg #[.int .i64 p, .slice A2 512 c2], .pointer (some ⟨lb, 0, none⟩)] w fun e w' => e = .returned (.bool false) ∧ Below w.heap.size w w' := by
  obtain ⟨W0, hW0⟩ : ∃ W0, W0 = w.alloc (.cells #[.int .i64 p, .slice A2 512 c2] 80) := ⟨_, rfl⟩
  have hB0 : Below w.heap.size w W0 := by rw [hW0]; exact (Below.refl _ w).alloc (Nat.le_refl _) _
  have b0 : BlkIs W0 w.heap.size 80 #[.int .i64 p, .slice A2 512 c2] := by rw [hW0]; exact BlkIs.new w _ _
  have hlb0 := hlb.below hB0 hlb.lt
  have hlg0 := hlg.below hB0 hlg.lt
  have HP : ∀ W, Calls Tryz.prog 85 #[.agg #[.int .i64 fr, .int .i64 pg], .int .i64 p] W fun e w' => e = .returned (.tuple #[.int .i64 (2 + 9 * fr + 8 * p), .int .i64 0]) ∧ Below W.heap.size W w' := fun W => by
    have := pageAt_gives fr pg p W
    unfold atV at this
    rw [hp, if_pos rfl] at this
    exact this
  go_enter Tryz.func84, Tryz.ntmps84
  go_wp2_with fail
  rw [← hW0]
  clear hW0
  have hS0 : Below W0.heap.size W0 W0.drew := (Below.refl _ _).drew
  refine RegF.start (fun W => Below W0.heap.size W0 W) 99 (by kernel_rfl) ?_
  refine RegF.take0 0 (.pointer (some ⟨l, 0, none⟩)) rfl (by kernel_rfl) (by kernel_rfl) (by kernel_rfl) rfl (fun _ _ _ h => h) hS0 (RegF.yld rfl (fun W hW => by have q := (hlb0.below hW hlb0.lt).boxed; go_simp)) ?_
  simp only [List.getElem_toArray, List.getElem_cons_zero, Act.put, List.setIfInBounds_toArray, List.set_cons_zero, List.set_cons_succ]
  refine RegF.take0 1 (.pointer (some ⟨l, 0, none⟩)) rfl (by kernel_rfl) (by kernel_rfl) (by kernel_rfl) rfl (fun _ _ _ h => h) hS0 (RegF.yld rfl (fun W hW => by go_simp)) ?_
  simp only [List.getElem_toArray, List.getElem_cons_succ, List.getElem_cons_zero, Act.put, List.setIfInBounds_toArray, List.set_cons_zero, List.set_cons_succ]
  refine RegF.take0 2 (.pointer (some ⟨l, 0, none⟩)) rfl (by kernel_rfl) (by kernel_rfl) (by kernel_rfl) rfl (fun _ _ _ h => h) hS0 (RegF.yld rfl (fun W hW => by go_simp)) ?_
  simp only [List.getElem_toArray, List.getElem_cons_succ, List.getElem_cons_zero, Act.put, List.setIfInBounds_toArray, List.set_cons_zero, List.set_cons_succ]
  refine RegF.take0 3 (.pointer (some ⟨l, 1, none⟩)) rfl (by kernel_rfl) (by kernel_rfl) (by kernel_rfl) rfl (fun _ _ _ h => h) hS0 (RegF.yld rfl (fun W hW => by go_simp)) ?_
  simp only [List.getElem_toArray, List.getElem_cons_succ, List.getElem_cons_zero, Act.put, List.setIfInBounds_toArray, List.set_cons_zero, List.set_cons_succ]
  refine RegF.take0 4 (.agg #[.int .i64 fr, .int .i64 pg]) rfl (by kernel_rfl) (by kernel_rfl) (by kernel_rfl) rfl (fun _ _ _ h => h) hS0 (RegF.yld rfl (fun W hW => by have h := hlg0.below hW hlg0.lt; have q1 : W.cell? ⟨l, 1, none⟩ = some (.int .i64 fr) := (by rw [h.cell]; rfl); have q2 : W.cell? ⟨l, 2, none⟩ = some (.int .i64 pg) := (by rw [h.cell]; rfl); go_simp)) ?_
  simp only [List.getElem_toArray, List.getElem_cons_succ, List.getElem_cons_zero, Act.put, List.setIfInBounds_toArray, List.set_cons_zero, List.set_cons_succ]
  refine RegF.take0 5 (.pointer (some ⟨w.heap.size, 0, none⟩)) rfl (by kernel_rfl) (by kernel_rfl) (by kernel_rfl) rfl (fun _ _ _ h => h) hS0 (RegF.yld rfl (fun W hW => by go_simp)) ?_
  simp only [List.getElem_toArray, List.getElem_cons_succ, List.getElem_cons_zero, Act.put, List.setIfInBounds_toArray, List.set_cons_zero, List.set_cons_succ]
  refine RegF.take0 6 (.int .i64 p) rfl (by kernel_rfl) (by kernel_rfl) (by kernel_rfl) rfl (fun _ _ _ h => h) hS0 (RegF.yld rfl (fun W hW => by have h := b0.below hW b0.lt; have q1 : W.cell? ⟨w.heap.size, 0, none⟩ = some (.int .i64 p) := (by rw [h.cell]; rfl); go_simp)) ?_
  simp only [List.getElem_toArray, List.getElem_cons_succ, List.getElem_cons_zero, Act.put, List.setIfInBounds_toArray, List.set_cons_zero, List.set_cons_succ]
  refine RegF.one 7 (by kernel_rfl) ?_
  refine RegF.opC 85 #[.tmp 11, .tmp 13] #[23, 3] rfl rfl rfl (enters_of Tryz.func85 (by kernel_rfl) rfl) #[.agg #[.int .i64 fr, .int .i64 pg], .int .i64 p] (by simp only [List.map_toArray, List.map_cons, List.map_nil]; rfl) ((HP W0.drew).mono ?_)
  rintro e w1 ⟨rfl, hB1⟩
  have hS1 : Below W0.heap.size W0 w1 := hS0.trans (hB1.mono (Nat.le_refl _))
  refine ⟨_, rfl, fun _ => hS1, ?_⟩
  simp only [List.getElem_toArray, List.getElem_cons_succ, List.getElem_cons_zero, Act.put, List.setIfInBounds_toArray, List.set_cons_zero, List.set_cons_succ]
  refine RegF.one 8 (by kernel_rfl) (RegF.opV (w' := w1) (.tuple #[.int .i64 (2 + 9 * fr + 8 * p), .int .i64 0]) rfl rfl (by go_simp) ⟨fun _ => hS1, ?_⟩)
  simp only [List.getElem_toArray, List.getElem_cons_succ, List.getElem_cons_zero, Act.put, List.setIfInBounds_toArray, List.set_cons_zero, List.set_cons_succ]
  refine RegF.take0 9 (.int .i64 (2 + 9 * fr + 8 * p)) rfl (by kernel_rfl) (by kernel_rfl) (by kernel_rfl) rfl (fun _ _ _ h => h) hS1 (RegF.yld rfl (fun W hW => by go_simp)) ?_
  simp only [List.getElem_toArray, List.getElem_cons_succ, List.getElem_cons_zero, Act.put, List.setIfInBounds_toArray, List.set_cons_zero, List.set_cons_succ]
  refine RegF.take0 10 (.int .i64 0) rfl (by kernel_rfl) (by kernel_rfl) (by kernel_rfl) rfl (fun _ _ _ h => h) hS1 (RegF.yld rfl (fun W hW => by go_simp)) ?_
  simp only [List.getElem_toArray, List.getElem_cons_succ, List.getElem_cons_zero, Act.put, List.setIfInBounds_toArray, List.set_cons_zero, List.set_cons_succ]
  refine RegF.one 11 (by kernel_rfl) (RegF.opV (w' := w1) (.int .i64 (2 + 9 * fr + 8 * p)) rfl rfl (by go_simp) ⟨fun _ => hS1, ?_⟩)
  simp only [List.getElem_toArray, List.getElem_cons_succ, List.getElem_cons_zero, Act.put, List.setIfInBounds_toArray, List.set_cons_zero, List.set_cons_succ]
  refine RegF.one 12 (by kernel_rfl) (RegF.opV (w' := w1) (.int .i64 0) rfl rfl (by go_simp) ⟨fun _ => hS1, RegF.done (by kernel_rfl) ?_⟩)
  simp only [List.getElem_toArray, List.getElem_cons_succ, List.getElem_cons_zero, Act.put, List.setIfInBounds_toArray, List.set_cons_zero, List.set_cons_succ]
  have h := b0.below hS1 b0.lt
  have q1 : w1.cell? ⟨w.heap.size, 1, none⟩ = some (.slice A2 512 c2) := by rw [h.cell]; rfl
  clear HP
  go_wp2
  go_ret
  exact ⟨rfl, hB0.trans (hS1.mono hB0.size)⟩
/-- Writes of whole pages that lie in a row. -/
def PwIn (w : World) (g o n : Nat) (xs : Nat → Int × Option Addr × Nat) : Prop := ∀ k, k < n → w.rangeAt g (o + k * 2) [.int .i64 (xs k).1, .slice (xs k).2.1 512 (xs k).2.2]
theorem PwIn.below {w w' : World} {B g o n : Nat} {xs : Nat → Int × Option Addr × Nat} (h : PwIn w g o n xs) (hB : Below B w w') (hg : g < B) : PwIn w' g o n xs := fun k hk j v hj => (hB.cell (p := ⟨g, o + k * 2 + j, none⟩) hg).trans (h k hk j v hj)
set_option maxRecDepth 100000 in
set_option maxHeartbeats 8000000 in
theorem index_no (w : World) (lb g o n c : Nat) (xs : Nat → Int × Option Addr × Nat) (hn : n ≤ 1000) (hx : PwIn w g o n xs) (hg : g < w.heap.size)
    (HF : ∀ k W, k < n → Below w.heap.size w W → Calls Tryz.prog 84 #[.agg #[.int .i64 (xs k).1, .slice (xs k).2.1 512 (xs k).2.2], .pointer (some ⟨lb, 0, none⟩)] W fun e w' => e = .returned (.bool false) ∧ Below W.heap.size W w') :
    Calls Tryz.prog 112 #[.slice (some ⟨g, o, none⟩) n c, .func (.func 84) #[] #[.pointer (some ⟨lb, 0, none⟩)]] w fun e w' => e = .returned (.int .i64 (-1)) ∧ Below w.heap.size w w' := by
  have hent : ∀ args w, (callFunc 84 args).run Tryz.prog w = .ok (.enter 84 args) w := enters_of Tryz.func84 (by kernel_rfl) rfl
  go_enter Tryz.func112, Tryz.ntmps112
  go_wp2
  go_loopw [8] (fun i wr => ∃ k : Nat, k ≤ n ∧ i = .int .i64 (k : Int) ∧ Below w.heap.size w wr) (fun i _ => n - (intOf i).toNat)
  case atStart => exact ⟨0, by omega, rfl, Below.refl _ _⟩
  case round =>
    obtain ⟨k, hk, rfl, hB⟩ := hrel
    by_cases hlt : k < n
    · have hr := (hx.below hB hg) k hlt
      have HK := HF k wr hlt hB
      have hwk : IntKind.i64.wrap ((k : Int) + 1) = (k : Int) + 1 := wrap_i64_fr _ (by omega) (by omega)
      generalize xs k = x at *
      clear HF hx
      go_wp2_with (first
        | (refine wp_exec rfl (x_loadM rowPW hr rfl rfl rfl) ?_))
      refine HK.mono ?_
      rintro e w2 ⟨rfl, hB2⟩
      go_wp2
      go_roundw
      case rel => exact ⟨k + 1, by omega, by simp, hB.trans (hB2.mono hB.size)⟩
      case measure => simp [intOf]; omega
    · obtain rfl : k = n := by omega
      clear HF
      go_wp2
      go_ret
      exact ⟨rfl, hB⟩
set_option maxRecDepth 100000 in
theorem contains_no (w : World) (lb g o n c : Nat) (xs : Nat → Int × Option Addr × Nat) (hn : n ≤ 1000) (hx : PwIn w g o n xs) (hg : g < w.heap.size)
    (HF : ∀ k W, k < n → Below w.heap.size w W → Calls Tryz.prog 84 #[.agg #[.int .i64 (xs k).1, .slice (xs k).2.1 512 (xs k).2.2], .pointer (some ⟨lb, 0, none⟩)] W fun e w' => e = .returned (.bool false) ∧ Below W.heap.size W w') :
    Calls Tryz.prog 83 #[.slice (some ⟨g, o, none⟩) n c, .func (.func 84) #[] #[.pointer (some ⟨lb, 0, none⟩)]] w fun e w' => e = .returned (.bool false) ∧ Below w.heap.size w w' := by
  have HI := index_no w lb g o n c xs hn hx hg HF
  clear HF hx
  go_enter Tryz.func83, Tryz.ntmps83
  go_wp2_with (go_at_call 112; refine HI.mono ?_; rintro e w' ⟨rfl, hB⟩)
  go_ret
  exact ⟨rfl, hB⟩
set_option maxRecDepth 100000 in
set_option maxHeartbeats 8000000 in
theorem lright_ok (w : World) (l : Nat) (D : Option Addr) (fr pg : Int) (sr ep : Nat) (sz : Int) (A : Option Addr) (n0 c0 : Nat) (hlg : BlkIs w l 57 (lgC D fr pg sr ep sz A n0 c0)) (g o n c : Nat) (xs : Nat → Int × Option Addr × Nat) (h1 : 1 ≤ n) (hn : n ≤ 1000) (hx : PwIn w g o n xs) (hg : g < w.heap.size)
    (hp : ∀ k, k < n → plE (planOk fr pg) (xs k).1 pg = 0) (s : Int) (hs : 0 ≤ s) (hs2 : s ≤ pg) :
    Calls Tryz.prog 43 #[.pointer (some ⟨l, 0, none⟩), .int .i64 s, .slice (some ⟨g, o, none⟩) n c] w fun e w' => e = .returned (.bool true) ∧ Below w.heap.size w w' := by
  have hB0 : Below w.heap.size w (w.alloc (.cells #[.pointer (some ⟨l, 0, none⟩)] 33)) := (Below.refl _ w).alloc (Nat.le_refl _) _
  have b0 := BlkIs.new w 33 #[.pointer (some ⟨l, 0, none⟩)]
  have hlg0 := hlg.below hB0 hlg.lt
  have k2 : (w.alloc (.cells #[.pointer (some ⟨l, 0, none⟩)] 33)).cell? ⟨l, 2, none⟩ = some (.int .i64 pg) := by rw [hlg0.cell]; rfl
  have HC := contains_no (w.alloc (.cells #[.pointer (some ⟨l, 0, none⟩)] 33)) w.heap.size g o n c xs hn (hx.below hB0 hg) (by simp; omega) (fun k W hk hB => right1_gives W w.heap.size l D fr pg sr ep sz A n0 c0 (b0.below hB b0.lt) (hlg0.below hB hlg0.lt) (xs k).1 (xs k).2.1 (xs k).2.2 (hp k hk))
  have h0 : (0 : Int) < (n : Int) := by omega
  clear hx hp
  go_enter Tryz.func43, Tryz.ntmps43
  go_wp2_with (go_at_call 83; refine HC.mono ?_; rintro e w' ⟨rfl, hB⟩)
  go_ret
  exact ⟨rfl, hB0.trans (hB.mono hB0.size)⟩
end Go.Proofs.YtocnabpplbeafaaGreat
/- Regions that draw their order, walked by hand: what operations look at stands until the first of a list fs of operations, each of which waits for what is taken first. -/
namespace Go.Proofs.YtocnabpplbeafaaGreat
open Go Go.RowKit Lou
namespace RegM
section
variable {P : Program} {ops : Array Oper} {Q : Exit → Act → World → Prop} {md : Region.Mode} {S : World → Prop} {fs : List Nat}

def wpAnyM (P : Program) (md : Region.Mode) (ops : Array Oper) (Q : Exit → Act → World → Prop) (S : World → Prop) (fs : List Nat) : Nat → Array Bool → Act → World → Prop
  | 0, listed, a, w => Region.ready md ops listed = [] ∧ Q .normal a w
  | fuel + 1, listed, a, w =>
    (Region.ready md ops listed = [] → Q .normal a w) ∧
    ∀ i ∈ Region.ready md ops listed, wpOp P ops Q i (fun a' w' => (fs.contains i = false → S w') ∧ wpAnyM P md ops Q S fs fuel (listed.setIfInBounds i true) a' w') a w
theorem to_any : ∀ (fuel : Nat) (listed : Array Bool) (a : Act) (w : World), wpAnyM P md ops Q S fs fuel listed a w → wpAny P md ops Q fuel listed a w
  | 0, _, _, _, h => h
  | fuel + 1, _, _, _, h => ⟨h.1, fun i hi => wpOp_mono (fun a' w' h' => to_any fuel _ a' w' h'.2) (h.2 i hi)⟩
theorem first1 {i n : Nat} {oi : Oper} {v : Value} (hi : ops[i]? = some oi) (hsel : ∀ (j : Nat) (o : Oper) cs b, ops[j]? = some o → o.op ≠ .select cs b)
    (hQ : ∀ c a w, Q (.panic c) (a.put oi.dst v) w → Q (.panic c) a w) (hfin : (fs.all fun f => RegF.reach md ops n f i) = true) (hif : fs.contains i = false) :
    ∀ (fuel : Nat) (listed : Array Bool) (a : Act) (w : World), RegF.Closed md ops listed →
      (∀ j oj, ops[j]? = some oj → j ≠ i → listed.getD j true = false → (∀ e ∈ oj.after, Region.binds md e = true → e.on ≠ i) → oi.apart ops oj = true) →
      i ∈ Region.ready md ops listed → YieldsIf P ops S oi v a → S w →
      wpAnyM P md ops Q S fs fuel (listed.setIfInBounds i true) (a.put oi.dst v) w → wpAnyM P md ops Q S fs (fuel + 1) listed a w := by
  intro fuel
  induction fuel with
  | zero =>
    intro listed a w _ _ hr hy hS H
    refine ⟨fun h => (by rw [h] at hr; cases hr), fun j hj => ?_⟩
    by_cases hji : j = i
    · subst hji; exact hy.wpOp hi hS ⟨fun _ => hS, H⟩
    · have := ready_mono hj hji
      rw [H.1] at this
      cases this
  | succ fuel ih =>
    intro listed a w hcl hfree hr hy hS H
    refine ⟨fun h => (by rw [h] at hr; cases hr), fun j hj => ?_⟩
    by_cases hji : j = i
    · subst hji; exact hy.wpOp hi hS ⟨fun _ => hS, H⟩
    · have h1 := H.2 j (ready_mono hj hji)
      obtain ⟨hjun, oj, hoj, hall⟩ := mem_ready.1 hj
      have hnot : ∀ e ∈ oj.after, Region.binds md e = true → e.on ≠ i := fun e he hb heq => by
        have h1 := hall e he hb
        rw [heq, RegF.unlisted hr] at h1
        cases h1
      have hjf : fs.contains j = false := by
        cases h : fs.contains j with
        | false => rfl
        | true =>
          have := List.all_eq_true.1 hfin j (by simpa using h)
          exact absurd hj (RegF.not_ready hcl (RegF.unlisted hr) this)
      have h2 := wpOp_putIf hoj (hfree j oj hoj hji hjun hnot) (fun cs b => hsel i oi cs b hi) (fun cs b => hsel j oj cs b hoj) hQ hy h1
      have hfree' : ∀ k ok, ops[k]? = some ok → k ≠ i → (listed.setIfInBounds j true).getD k true = false →
          (∀ e ∈ ok.after, Region.binds md e = true → e.on ≠ i) → oi.apart ops ok = true := fun k ok hk hki hun hno => by
        refine hfree k ok hk hki ?_ hno
        by_cases hjk : j = k
        · subst hjk; exact hjun
        · rw [getD_set_ne true hjk] at hun; exact hun
      refine wpOp_mono (fun a' w' h3 => ⟨h3.2.1, ih (listed.setIfInBounds j true) a' w' (hcl.set hj) hfree' (ready_mono hr (Ne.symm hji)) h3.1 (h3.2.1 hjf) ?_⟩) h2
      rw [Array.setIfInBounds_comm _ _ hji]
      exact h3.2.2
theorem take1 {fuel : Nat} {listed : Array Bool} {a : Act} {w : World} (i : Nat) {oi : Oper} (v : Value) (hi : ops[i]? = some oi)
    (hs : Region.noSelect ops = true) (hf : Region.free md ops listed i = true) (hr : (Region.ready md ops listed).contains i = true) (hcl : RegF.closedB md ops listed = true) (hfin : (fs.all fun f => RegF.reach md ops 30 f i) = true) (hif : fs.contains i = false)
    (hQ : ∀ c a w, Q (.panic c) (a.put oi.dst v) w → Q (.panic c) a w) (hS : S w) (hy : YieldsIf P ops S oi v a)
    (h : wpAnyM P md ops Q S fs fuel (listed.setIfInBounds i true) (a.put oi.dst v) w) : wpAnyM P md ops Q S fs (fuel + 1) listed a w :=
  first1 hi (Region.noSelect_spec hs) hQ hfin hif fuel listed a w (RegF.closedB_spec hcl) (Region.free_spec hi hf) (by simpa using hr) hy hS h
theorem one {fuel : Nat} {listed : Array Bool} {a : Act} {w : World} (i : Nat) (hr : Region.ready md ops listed = [i])
    (h : wpOp P ops Q i (fun a' w' => (fs.contains i = false → S w') ∧ wpAnyM P md ops Q S fs fuel (listed.setIfInBounds i true) a' w') a w) : wpAnyM P md ops Q S fs (fuel + 1) listed a w :=
  ⟨fun h0 => (by rw [hr] at h0; cases h0), fun j hj => by
    rw [hr] at hj
    obtain rfl : j = i := by simpa using hj
    exact h⟩
theorem two {fuel : Nat} {listed : Array Bool} {a : Act} {w : World} (i j : Nat) (hr : Region.ready md ops listed = [i, j])
    (h1 : wpOp P ops Q i (fun a' w' => (fs.contains i = false → S w') ∧ wpAnyM P md ops Q S fs fuel (listed.setIfInBounds i true) a' w') a w)
    (h2 : wpOp P ops Q j (fun a' w' => (fs.contains j = false → S w') ∧ wpAnyM P md ops Q S fs fuel (listed.setIfInBounds j true) a' w') a w) : wpAnyM P md ops Q S fs (fuel + 1) listed a w :=
  ⟨fun h0 => (by rw [hr] at h0; cases h0), fun k hk => by
    rw [hr] at hk
    rcases List.mem_cons.1 hk with rfl | hk
    · exact h1
    · obtain rfl : k = j := by simpa using hk
      exact h2⟩
theorem done {fuel : Nat} {listed : Array Bool} {a : Act} {w : World} (hr : Region.ready md ops listed = []) (h : Q .normal a w) : wpAnyM P md ops Q S fs fuel listed a w := by
  cases fuel with
  | zero => exact ⟨hr, h⟩
  | succ n => exact ⟨fun _ => h, by rw [hr]; simp⟩
theorem start {id : Nat} {a : Act} {w : World} (S : World → Prop) (fs : List Nat) (hm : P.follows .mixedOrders = true) (h : wpAnyM P .any ops Q S fs ops.size (Array.replicate ops.size false) a w.drew) : (Code.region id ops true).wp P Q a w :=
  wp_region_any hm (to_any _ _ _ _ h)
theorem startR {id l m : Nat} {a : Act} {w : World} (S : World → Prop) (fs : List Nat) (hm : P.follows .mixedOrders = true) (hdf : noDefer ops = true) (h : wpAnyM P .any ops (NoOut Q) S fs ops.size (Array.replicate ops.size false) a w.drew) : (Code.region id ops true).wpIn (Fence.wide.inRound l) m P Q a w :=
  wpIn_mono (Q := NoOut Q) (wpIn_region_any hm (wpAny_inRound hdf _ _ _ _ (to_any _ _ _ _ h))) NoOut.imp
end
end RegM
end Go.Proofs.YtocnabpplbeafaaGreat
/- wal: Append where there is no room; a log that tells. -/
namespace Go.Proofs.YtocnabpplbeafaaGreat
open Go Go.RowKit Lou

set_option maxRecDepth 100000 in
set_option maxHeartbeats 8000000 in
theorem append_full (w : World) (l d : Nat) (fr pg : Int) (sr ep : Nat) (sz : Int) (A : Option Addr) (n0 c0 : Nat) (hlg : BlkIs w l 57 (lgC (some ⟨d, 0, none⟩) fr pg sr ep sz A n0 c0)) (hn0 : n0 ≤ 10000) (g o n c : Nat) (xs : Nat → Int × Option Addr × Nat) (h1 : 1 ≤ n) (hn : n ≤ 1000) (hx : PwIn w g o n xs) (hg : g < w.heap.size)
    (hp : ∀ k, k < n → plE (planOk fr pg) (xs k).1 pg = 0) (s : Int) (hs : 0 ≤ s) (hs2 : s ≤ pg) (hfr : fr < (n0 : Int) + (n : Int)) :
    Calls Tryz.prog 14 #[.pointer (some ⟨l, 0, none⟩), .int .i64 s, .slice (some ⟨g, o, none⟩) n c] w fun e w' => e = .returned (.int .i64 160) ∧ Below w.heap.size w w' := by
  have hB : Below w.heap.size w ((w.alloc (.cells #[.pointer (some ⟨l, 0, none⟩)] 33)).alloc (.cells #[.int .i64 s] 3)) := ((Below.refl _ w).alloc (Nat.le_refl _) _).alloc (by simp) _
  have b0 := (BlkIs.new w 33 #[.pointer (some ⟨l, 0, none⟩)]).alloc (.cells #[.int .i64 s] 3)
  have hlg0 := hlg.below hB hlg.lt
  have HN := lnone_gives hlg0
  have HR := lright_ok _ l _ fr pg sr ep sz A n0 c0 hlg0 g o n c xs h1 hn (hx.below hB hg) (by simp; omega) hp s hs hs2
  have hwa : IntKind.i64.wrap ((n0 : Int) + (n : Int)) = (n0 : Int) + (n : Int) := wrap_i64_fr _ (by omega) (by omega)
  clear hx hp
  go_enter Tryz.func14, Tryz.ntmps14
  go_wp2_with (first
    | (go_at_call 42; refine HN.mono ?_; rintro e w' ⟨rfl, rfl⟩)
    | (go_at_call 43; refine HR.mono ?_; rintro e w2 ⟨rfl, hB2⟩; have hlg2 := hlg0.below hB2 hlg0.lt; have b2 := b0.below hB2 b0.lt))
  have hS0 : Below w2.heap.size w2 w2.drew := (Below.refl _ _).drew
  have T0 : ∀ W, Below w2.heap.size w2 W → W.cell? ⟨w.heap.size, 0, none⟩ = some (.pointer (some ⟨l, 0, none⟩)) := fun W hW => (b2.below hW b2.lt).boxed
  have T6 : ∀ W, Below w2.heap.size w2 W → W.cell? ⟨l, 6, none⟩ = some (.slice A n0 c0) := fun W hW => by rw [(hlg2.below hW hlg2.lt).cell]; rfl
  have T1 : ∀ W, Below w2.heap.size w2 W → W.cell? ⟨l, 1, none⟩ = some (.int .i64 fr) := fun W hW => by rw [(hlg2.below hW hlg2.lt).cell]; rfl
  clear HN HR
  refine RegF.start (fun W => Below w2.heap.size w2 W) 99 (by kernel_rfl) ?_
  refine RegF.take0 0 (.pointer (some ⟨l, 0, none⟩)) rfl (by kernel_rfl) (by kernel_rfl) (by kernel_rfl) rfl (fun _ _ _ h => h) hS0 (RegF.yld rfl (fun W hW => by have q := T0 W hW; go_simp)) ?_
  simp only [List.getElem_toArray, List.getElem_cons_zero, Act.put, List.setIfInBounds_toArray, List.set_cons_zero, List.set_cons_succ]
  refine RegF.take0 1 (.pointer (some ⟨l, 0, none⟩)) rfl (by kernel_rfl) (by kernel_rfl) (by kernel_rfl) rfl (fun _ _ _ h => h) hS0 (RegF.yld rfl (fun W hW => by go_simp)) ?_
  simp only [List.getElem_toArray, List.getElem_cons_succ, List.getElem_cons_zero, Act.put, List.setIfInBounds_toArray, List.set_cons_zero, List.set_cons_succ]
  refine RegF.take0 2 (.pointer (some ⟨l, 6, none⟩)) rfl (by kernel_rfl) (by kernel_rfl) (by kernel_rfl) rfl (fun _ _ _ h => h) hS0 (RegF.yld rfl (fun W hW => by go_simp)) ?_
  simp only [List.getElem_toArray, List.getElem_cons_succ, List.getElem_cons_zero, Act.put, List.setIfInBounds_toArray, List.set_cons_zero, List.set_cons_succ]
  refine RegF.take0 3 (.slice A n0 c0) rfl (by kernel_rfl) (by kernel_rfl) (by kernel_rfl) rfl (fun _ _ _ h => h) hS0 (RegF.yld rfl (fun W hW => by have q := T6 W hW; go_simp)) ?_
  simp only [List.getElem_toArray, List.getElem_cons_succ, List.getElem_cons_zero, Act.put, List.setIfInBounds_toArray, List.set_cons_zero, List.set_cons_succ]
  refine RegF.take0 4 (.int .i64 (n0 : Int)) rfl (by kernel_rfl) (by kernel_rfl) (by kernel_rfl) rfl (fun _ _ _ h => h) hS0 (RegF.yld rfl (fun W hW => by go_simp)) ?_
  simp only [List.getElem_toArray, List.getElem_cons_succ, List.getElem_cons_zero, Act.put, List.setIfInBounds_toArray, List.set_cons_zero, List.set_cons_succ]
  refine RegF.take0 5 (.slice (some ⟨g, o, none⟩) n c) rfl (by kernel_rfl) (by kernel_rfl) (by kernel_rfl) rfl (fun _ _ _ h => h) hS0 (RegF.yld rfl (fun W hW => by go_simp)) ?_
  simp only [List.getElem_toArray, List.getElem_cons_succ, List.getElem_cons_zero, Act.put, List.setIfInBounds_toArray, List.set_cons_zero, List.set_cons_succ]
  refine RegF.take0 6 (.int .i64 (n : Int)) rfl (by kernel_rfl) (by kernel_rfl) (by kernel_rfl) rfl (fun _ _ _ h => h) hS0 (RegF.yld rfl (fun W hW => by go_simp)) ?_
  simp only [List.getElem_toArray, List.getElem_cons_succ, List.getElem_cons_zero, Act.put, List.setIfInBounds_toArray, List.set_cons_zero, List.set_cons_succ]
  refine RegF.take0 7 (.int .i64 ((n0 : Int) + (n : Int))) rfl (by kernel_rfl) (by kernel_rfl) (by kernel_rfl) rfl (fun _ _ _ h => h) hS0 (RegF.yld rfl (fun W hW => by go_simp)) ?_
  simp only [List.getElem_toArray, List.getElem_cons_succ, List.getElem_cons_zero, Act.put, List.setIfInBounds_toArray, List.set_cons_zero, List.set_cons_succ]
  refine RegF.take0 8 (.pointer (some ⟨l, 0, none⟩)) rfl (by kernel_rfl) (by kernel_rfl) (by kernel_rfl) rfl (fun _ _ _ h => h) hS0 (RegF.yld rfl (fun W hW => by have q := T0 W hW; go_simp)) ?_
  simp only [List.getElem_toArray, List.getElem_cons_succ, List.getElem_cons_zero, Act.put, List.setIfInBounds_toArray, List.set_cons_zero, List.set_cons_succ]
  refine RegF.take0 9 (.pointer (some ⟨l, 0, none⟩)) rfl (by kernel_rfl) (by kernel_rfl) (by kernel_rfl) rfl (fun _ _ _ h => h) hS0 (RegF.yld rfl (fun W hW => by go_simp)) ?_
  simp only [List.getElem_toArray, List.getElem_cons_succ, List.getElem_cons_zero, Act.put, List.setIfInBounds_toArray, List.set_cons_zero, List.set_cons_succ]
  refine RegF.take0 10 (.pointer (some ⟨l, 0, none⟩)) rfl (by kernel_rfl) (by kernel_rfl) (by kernel_rfl) rfl (fun _ _ _ h => h) hS0 (RegF.yld rfl (fun W hW => by go_simp)) ?_
  simp only [List.getElem_toArray, List.getElem_cons_succ, List.getElem_cons_zero, Act.put, List.setIfInBounds_toArray, List.set_cons_zero, List.set_cons_succ]
  refine RegF.take0 11 (.pointer (some ⟨l, 1, none⟩)) rfl (by kernel_rfl) (by kernel_rfl) (by kernel_rfl) rfl (fun _ _ _ h => h) hS0 (RegF.yld rfl (fun W hW => by go_simp)) ?_
  simp only [List.getElem_toArray, List.getElem_cons_succ, List.getElem_cons_zero, Act.put, List.setIfInBounds_toArray, List.set_cons_zero, List.set_cons_succ]
  refine RegF.take0 12 (.pointer (some ⟨l, 1, none⟩)) rfl (by kernel_rfl) (by kernel_rfl) (by kernel_rfl) rfl (fun _ _ _ h => h) hS0 (RegF.yld rfl (fun W hW => by go_simp)) ?_
  simp only [List.getElem_toArray, List.getElem_cons_succ, List.getElem_cons_zero, Act.put, List.setIfInBounds_toArray, List.set_cons_zero, List.set_cons_succ]
  refine RegF.take0 13 (.int .i64 fr) rfl (by kernel_rfl) (by kernel_rfl) (by kernel_rfl) rfl (fun _ _ _ h => h) hS0 (RegF.yld rfl (fun W hW => by have q := T1 W hW; go_simp)) ?_
  simp only [List.getElem_toArray, List.getElem_cons_succ, List.getElem_cons_zero, Act.put, List.setIfInBounds_toArray, List.set_cons_zero, List.set_cons_succ]
  refine RegF.one 14 (by kernel_rfl) (RegF.opV (w' := w2.drew) (.bool true) rfl rfl (by go_simp) ⟨fun _ => hS0, ?_⟩)
  simp only [List.getElem_toArray, List.getElem_cons_succ, List.getElem_cons_zero, Act.put, List.setIfInBounds_toArray, List.set_cons_zero, List.set_cons_succ]
  refine RegF.one 15 (by kernel_rfl) (RegF.opV (w' := w2.drew) (.bool true) rfl rfl (by go_simp) ⟨fun _ => hS0, RegF.done (by kernel_rfl) ?_⟩)
  simp only [List.getElem_toArray, List.getElem_cons_succ, List.getElem_cons_zero, Act.put, List.setIfInBounds_toArray, List.set_cons_zero, List.set_cons_succ]
  clear T0 T6 T1
  go_wp2
  go_ret
  exact ⟨rfl, hB.trans ((hB2.mono hB.size).trans (hS0.mono (Nat.le_trans hB.size hB2.size)))⟩
set_option maxRecDepth 100000 in
set_option maxHeartbeats 8000000 in
theorem lmany_gives (w : World) (l d : Nat) (fr pg : Int) (sr ep : Nat) (sz : Int) (A : Option Addr) (n0 c0 : Nat) (hlg : BlkIs w l 57 (lgC (some ⟨d, 0, none⟩) fr pg sr ep sz A n0 c0)) (h0 : 0 ≤ fr) (h1 : fr ≤ 10000) (h2 : n0 ≤ 10000) :
    Calls Tryz.prog 22 #[.pointer (some ⟨l, 0, none⟩)] w fun e w' => e = .returned (.tuple #[.int .i64 (n0 : Int), .int .i64 (fr - (n0 : Int))]) ∧ Below w.heap.size w w' := by
  have HN := lnone_gives hlg
  have hS0 : Below w.heap.size w w.drew := (Below.refl _ _).drew
  have T6 : ∀ W, Below w.heap.size w W → W.cell? ⟨l, 6, none⟩ = some (.slice A n0 c0) := fun W hW => by rw [(hlg.below hW hlg.lt).cell]; rfl
  have T1 : ∀ W, Below w.heap.size w W → W.cell? ⟨l, 1, none⟩ = some (.int .i64 fr) := fun W hW => by rw [(hlg.below hW hlg.lt).cell]; rfl
  have hwa : IntKind.i64.wrap (fr - (n0 : Int)) = fr - (n0 : Int) := wrap_i64_fr _ (by omega) (by omega)
  go_enter Tryz.func22, Tryz.ntmps22
  go_wp2_with (go_at_call 42; refine HN.mono ?_; rintro e w' ⟨rfl, rfl⟩)
  refine RegF.start (fun W => Below w.heap.size w W) 99 (by kernel_rfl) ?_
  refine RegF.take0 0 (.pointer (some ⟨l, 0, none⟩)) rfl (by kernel_rfl) (by kernel_rfl) (by kernel_rfl) rfl (fun _ _ _ h => h) hS0 (RegF.yld rfl (fun W hW => by go_simp)) ?_
  simp only [List.getElem_toArray, List.getElem_cons_zero, Act.put, List.setIfInBounds_toArray, List.set_cons_zero, List.set_cons_succ]
  refine RegF.take0 1 (.pointer (some ⟨l, 0, none⟩)) rfl (by kernel_rfl) (by kernel_rfl) (by kernel_rfl) rfl (fun _ _ _ h => h) hS0 (RegF.yld rfl (fun W hW => by go_simp)) ?_
  simp only [List.getElem_toArray, List.getElem_cons_succ, List.getElem_cons_zero, Act.put, List.setIfInBounds_toArray, List.set_cons_zero, List.set_cons_succ]
  refine RegF.take0 2 (.pointer (some ⟨l, 6, none⟩)) rfl (by kernel_rfl) (by kernel_rfl) (by kernel_rfl) rfl (fun _ _ _ h => h) hS0 (RegF.yld rfl (fun W hW => by go_simp)) ?_
  simp only [List.getElem_toArray, List.getElem_cons_succ, List.getElem_cons_zero, Act.put, List.setIfInBounds_toArray, List.set_cons_zero, List.set_cons_succ]
  refine RegF.take0 3 (.slice A n0 c0) rfl (by kernel_rfl) (by kernel_rfl) (by kernel_rfl) rfl (fun _ _ _ h => h) hS0 (RegF.yld rfl (fun W hW => by have q := T6 W hW; go_simp)) ?_
  simp only [List.getElem_toArray, List.getElem_cons_succ, List.getElem_cons_zero, Act.put, List.setIfInBounds_toArray, List.set_cons_zero, List.set_cons_succ]
  refine RegF.take0 4 (.int .i64 (n0 : Int)) rfl (by kernel_rfl) (by kernel_rfl) (by kernel_rfl) rfl (fun _ _ _ h => h) hS0 (RegF.yld rfl (fun W hW => by go_simp)) ?_
  simp only [List.getElem_toArray, List.getElem_cons_succ, List.getElem_cons_zero, Act.put, List.setIfInBounds_toArray, List.set_cons_zero, List.set_cons_succ]
  refine RegF.take0 5 (.pointer (some ⟨l, 0, none⟩)) rfl (by kernel_rfl) (by kernel_rfl) (by kernel_rfl) rfl (fun _ _ _ h => h) hS0 (RegF.yld rfl (fun W hW => by go_simp)) ?_
  simp only [List.getElem_toArray, List.getElem_cons_succ, List.getElem_cons_zero, Act.put, List.setIfInBounds_toArray, List.set_cons_zero, List.set_cons_succ]
  refine RegF.take0 6 (.pointer (some ⟨l, 0, none⟩)) rfl (by kernel_rfl) (by kernel_rfl) (by kernel_rfl) rfl (fun _ _ _ h => h) hS0 (RegF.yld rfl (fun W hW => by go_simp)) ?_
  simp only [List.getElem_toArray, List.getElem_cons_succ, List.getElem_cons_zero, Act.put, List.setIfInBounds_toArray, List.set_cons_zero, List.set_cons_succ]
  refine RegF.take0 7 (.pointer (some ⟨l, 0, none⟩)) rfl (by kernel_rfl) (by kernel_rfl) (by kernel_rfl) rfl (fun _ _ _ h => h) hS0 (RegF.yld rfl (fun W hW => by go_simp)) ?_
  simp only [List.getElem_toArray, List.getElem_cons_succ, List.getElem_cons_zero, Act.put, List.setIfInBounds_toArray, List.set_cons_zero, List.set_cons_succ]
  refine RegF.take0 8 (.pointer (some ⟨l, 1, none⟩)) rfl (by kernel_rfl) (by kernel_rfl) (by kernel_rfl) rfl (fun _ _ _ h => h) hS0 (RegF.yld rfl (fun W hW => by go_simp)) ?_
  simp only [List.getElem_toArray, List.getElem_cons_succ, List.getElem_cons_zero, Act.put, List.setIfInBounds_toArray, List.set_cons_zero, List.set_cons_succ]
  refine RegF.take0 9 (.pointer (some ⟨l, 1, none⟩)) rfl (by kernel_rfl) (by kernel_rfl) (by kernel_rfl) rfl (fun _ _ _ h => h) hS0 (RegF.yld rfl (fun W hW => by go_simp)) ?_
  simp only [List.getElem_toArray, List.getElem_cons_succ, List.getElem_cons_zero, Act.put, List.setIfInBounds_toArray, List.set_cons_zero, List.set_cons_succ]
  refine RegF.take0 10 (.int .i64 fr) rfl (by kernel_rfl) (by kernel_rfl) (by kernel_rfl) rfl (fun _ _ _ h => h) hS0 (RegF.yld rfl (fun W hW => by have q := T1 W hW; go_simp)) ?_
  simp only [List.getElem_toArray, List.getElem_cons_succ, List.getElem_cons_zero, Act.put, List.setIfInBounds_toArray, List.set_cons_zero, List.set_cons_succ]
  refine RegF.take0 11 (.pointer (some ⟨l, 0, none⟩)) rfl (by kernel_rfl) (by kernel_rfl) (by kernel_rfl) rfl (fun _ _ _ h => h) hS0 (RegF.yld rfl (fun W hW => by go_simp)) ?_
  simp only [List.getElem_toArray, List.getElem_cons_succ, List.getElem_cons_zero, Act.put, List.setIfInBounds_toArray, List.set_cons_zero, List.set_cons_succ]
  refine RegF.take0 12 (.pointer (some ⟨l, 0, none⟩)) rfl (by kernel_rfl) (by kernel_rfl) (by kernel_rfl) rfl (fun _ _ _ h => h) hS0 (RegF.yld rfl (fun W hW => by go_simp)) ?_
  simp only [List.getElem_toArray, List.getElem_cons_succ, List.getElem_cons_zero, Act.put, List.setIfInBounds_toArray, List.set_cons_zero, List.set_cons_succ]
  refine RegF.take0 13 (.pointer (some ⟨l, 6, none⟩)) rfl (by kernel_rfl) (by kernel_rfl) (by kernel_rfl) rfl (fun _ _ _ h => h) hS0 (RegF.yld rfl (fun W hW => by go_simp)) ?_
  simp only [List.getElem_toArray, List.getElem_cons_succ, List.getElem_cons_zero, Act.put, List.setIfInBounds_toArray, List.set_cons_zero, List.set_cons_succ]
  refine RegF.take0 14 (.slice A n0 c0) rfl (by kernel_rfl) (by kernel_rfl) (by kernel_rfl) rfl (fun _ _ _ h => h) hS0 (RegF.yld rfl (fun W hW => by have q := T6 W hW; go_simp)) ?_
  simp only [List.getElem_toArray, List.getElem_cons_succ, List.getElem_cons_zero, Act.put, List.setIfInBounds_toArray, List.set_cons_zero, List.set_cons_succ]
  refine RegF.take0 15 (.int .i64 (n0 : Int)) rfl (by kernel_rfl) (by kernel_rfl) (by kernel_rfl) rfl (fun _ _ _ h => h) hS0 (RegF.yld rfl (fun W hW => by go_simp)) ?_
  simp only [List.getElem_toArray, List.getElem_cons_succ, List.getElem_cons_zero, Act.put, List.setIfInBounds_toArray, List.set_cons_zero, List.set_cons_succ]
  refine RegF.take0 16 (.int .i64 (fr - (n0 : Int))) rfl (by kernel_rfl) (by kernel_rfl) (by kernel_rfl) rfl (fun _ _ _ h => h) hS0 (RegF.yld rfl (fun W hW => by go_simp)) ?_
  simp only [List.getElem_toArray, List.getElem_cons_succ, List.getElem_cons_zero, Act.put, List.setIfInBounds_toArray, List.set_cons_zero, List.set_cons_succ]
  refine RegF.one 17 (by kernel_rfl) (RegF.opV (w' := w.drew) (.int .i64 (n0 : Int)) rfl rfl (by go_simp) ⟨fun _ => hS0, ?_⟩)
  simp only [List.getElem_toArray, List.getElem_cons_succ, List.getElem_cons_zero, Act.put, List.setIfInBounds_toArray, List.set_cons_zero, List.set_cons_succ]
  refine RegF.one 18 (by kernel_rfl) (RegF.opV (w' := w.drew) (.int .i64 (fr - (n0 : Int))) rfl rfl (by go_simp) ⟨fun _ => hS0, RegF.done (by kernel_rfl) ?_⟩)
  simp only [List.getElem_toArray, List.getElem_cons_succ, List.getElem_cons_zero, Act.put, List.setIfInBounds_toArray, List.set_cons_zero, List.set_cons_succ]
  clear HN T6 T1
  go_wp2
  exact bodyPost_ret (results_tmp2 rfl _ _ _) rfl ⟨rfl, hS0⟩
set_option maxRecDepth 100000 in
set_option maxHeartbeats 8000000 in
theorem lreset_gives (w : World) (l d many : Nat) (g : Nat → List UInt8) (xs : List (Nat × List UInt8)) (left : Int) (fr pg : Int) (sr ep : Nat) (sz : Int) (A : Option Addr) (n c : Nat) (hD : DkIs w d many g xs left false) (hl : xs.length ≤ 900000) (h1l : -1000000 ≤ left) (h2l : left ≤ 9223372036854775807) (hlg : BlkIs w l 57 (lgC (some ⟨d, 0, none⟩) fr pg sr ep sz A n c)) (hld : l ≠ d) (hok : headOk sz 0 = true) (hm2 : 2 ≤ many) (hmax : many ≤ 1000000) (hsr : sr + 1 < 18446744073709551616) (hep : ep + 1 < 18446744073709551616) :
    Calls Tryz.prog 13 #[.pointer (some ⟨l, 0, none⟩)] w fun e w' => e = .returned (.int .i64 0) ∧ DkIs w' d many (laid g (xs ++ wrL ((sr + 1) % 2) (hEnc (sr + 1) (ep + 1) sz 0) 1)) [] left false ∧ BlkIs w' l 57 (lgC (some ⟨d, 0, none⟩) fr pg (sr + 1) (ep + 1) sz none 0 0) ∧ GrowBut (fun k => k = d ∨ k = l) w w' := by
  have HN := lnone_gives hlg
  have T3 : ∀ W, BlkIs W l 57 (lgC (some ⟨d, 0, none⟩) fr pg sr ep sz A n c) → W.cell? ⟨l, 3, none⟩ = some (.int .u64 (sr : Int)) := fun W hW => by rw [hW.cell]; rfl
  have T4 : ∀ W, BlkIs W l 57 (lgC (some ⟨d, 0, none⟩) fr pg sr ep sz A n c) → W.cell? ⟨l, 4, none⟩ = some (.int .u64 (ep : Int)) := fun W hW => by rw [hW.cell]; rfl
  have T5 : ∀ W, BlkIs W l 57 (lgC (some ⟨d, 0, none⟩) fr pg sr ep sz A n c) → W.cell? ⟨l, 5, none⟩ = some (.int .i64 sz) := fun W hW => by rw [hW.cell]; rfl
  have HL := lay_gives w.drew l d many g xs left (sr + 1) (ep + 1) sz 0 fr pg sr ep sz A n c (hD.grow (Below.refl _ _).drew) hl h1l h2l hlg.drew hld hok hm2 hmax
  rw [show ((sr + 1 : Nat) : Int) = (sr : Int) + 1 by omega, show ((ep + 1 : Nat) : Int) = (ep : Int) + 1 by omega] at HL
  have hw1 : IntKind.u64.wrap ((sr : Int) + 1) = (sr : Int) + 1 := by rw [IntKind.wrap_u64]; omega
  have hw2 : IntKind.u64.wrap ((ep : Int) + 1) = (ep : Int) + 1 := by rw [IntKind.wrap_u64]; omega
  have hS0 := hlg.drew
  go_enter Tryz.func13, Tryz.ntmps13
  go_wp2_with (go_at_call 42; refine HN.mono ?_; rintro e w' ⟨rfl, rfl⟩)
  refine RegM.start (fun W => BlkIs W l 57 (lgC (some ⟨d, 0, none⟩) fr pg sr ep sz A n c)) [16, 17] (by kernel_rfl) ?_
  refine RegM.take1 0 (.pointer (some ⟨l, 0, none⟩)) rfl (by kernel_rfl) (by kernel_rfl) (by kernel_rfl) (by kernel_rfl) (by kernel_rfl) rfl (fun _ _ _ h => h) hS0 (RegF.yld rfl (fun W hW => by go_simp)) ?_
  simp only [List.getElem_toArray, List.getElem_cons_zero, Act.put, List.setIfInBounds_toArray, List.set_cons_zero, List.set_cons_succ]
  refine RegM.take1 1 (.pointer (some ⟨l, 0, none⟩)) rfl (by kernel_rfl) (by kernel_rfl) (by kernel_rfl) (by kernel_rfl) (by kernel_rfl) rfl (fun _ _ _ h => h) hS0 (RegF.yld rfl (fun W hW => by go_simp)) ?_
  simp only [List.getElem_toArray, List.getElem_cons_succ, List.getElem_cons_zero, Act.put, List.setIfInBounds_toArray, List.set_cons_zero, List.set_cons_succ]
  refine RegM.take1 2 (.pointer (some ⟨l, 0, none⟩)) rfl (by kernel_rfl) (by kernel_rfl) (by kernel_rfl) (by kernel_rfl) (by kernel_rfl) rfl (fun _ _ _ h => h) hS0 (RegF.yld rfl (fun W hW => by go_simp)) ?_
  simp only [List.getElem_toArray, List.getElem_cons_succ, List.getElem_cons_zero, Act.put, List.setIfInBounds_toArray, List.set_cons_zero, List.set_cons_succ]
  refine RegM.take1 3 (.pointer (some ⟨l, 3, none⟩)) rfl (by kernel_rfl) (by kernel_rfl) (by kernel_rfl) (by kernel_rfl) (by kernel_rfl) rfl (fun _ _ _ h => h) hS0 (RegF.yld rfl (fun W hW => by go_simp)) ?_
  simp only [List.getElem_toArray, List.getElem_cons_succ, List.getElem_cons_zero, Act.put, List.setIfInBounds_toArray, List.set_cons_zero, List.set_cons_succ]
  refine RegM.take1 4 (.int .u64 (sr : Int)) rfl (by kernel_rfl) (by kernel_rfl) (by kernel_rfl) (by kernel_rfl) (by kernel_rfl) rfl (fun _ _ _ h => h) hS0 (RegF.yld rfl (fun W hW => by have q := T3 W hW; go_simp)) ?_
  simp only [List.getElem_toArray, List.getElem_cons_succ, List.getElem_cons_zero, Act.put, List.setIfInBounds_toArray, List.set_cons_zero, List.set_cons_succ]
  refine RegM.take1 5 (.int .u64 ((sr : Int) + 1)) rfl (by kernel_rfl) (by kernel_rfl) (by kernel_rfl) (by kernel_rfl) (by kernel_rfl) rfl (fun _ _ _ h => h) hS0 (RegF.yld rfl (fun W hW => by go_simp)) ?_
  simp only [List.getElem_toArray, List.getElem_cons_succ, List.getElem_cons_zero, Act.put, List.setIfInBounds_toArray, List.set_cons_zero, List.set_cons_succ]
  refine RegM.take1 6 (.pointer (some ⟨l, 0, none⟩)) rfl (by kernel_rfl) (by kernel_rfl) (by kernel_rfl) (by kernel_rfl) (by kernel_rfl) rfl (fun _ _ _ h => h) hS0 (RegF.yld rfl (fun W hW => by go_simp)) ?_
  simp only [List.getElem_toArray, List.getElem_cons_succ, List.getElem_cons_zero, Act.put, List.setIfInBounds_toArray, List.set_cons_zero, List.set_cons_succ]
  refine RegM.take1 7 (.pointer (some ⟨l, 0, none⟩)) rfl (by kernel_rfl) (by kernel_rfl) (by kernel_rfl) (by kernel_rfl) (by kernel_rfl) rfl (fun _ _ _ h => h) hS0 (RegF.yld rfl (fun W hW => by go_simp)) ?_
  simp only [List.getElem_toArray, List.getElem_cons_succ, List.getElem_cons_zero, Act.put, List.setIfInBounds_toArray, List.set_cons_zero, List.set_cons_succ]
  refine RegM.take1 8 (.pointer (some ⟨l, 4, none⟩)) rfl (by kernel_rfl) (by kernel_rfl) (by kernel_rfl) (by kernel_rfl) (by kernel_rfl) rfl (fun _ _ _ h => h) hS0 (RegF.yld rfl (fun W hW => by go_simp)) ?_
  simp only [List.getElem_toArray, List.getElem_cons_succ, List.getElem_cons_zero, Act.put, List.setIfInBounds_toArray, List.set_cons_zero, List.set_cons_succ]
  refine RegM.take1 9 (.int .u64 (ep : Int)) rfl (by kernel_rfl) (by kernel_rfl) (by kernel_rfl) (by kernel_rfl) (by kernel_rfl) rfl (fun _ _ _ h => h) hS0 (RegF.yld rfl (fun W hW => by have q := T4 W hW; go_simp)) ?_
  simp only [List.getElem_toArray, List.getElem_cons_succ, List.getElem_cons_zero, Act.put, List.setIfInBounds_toArray, List.set_cons_zero, List.set_cons_succ]
  refine RegM.take1 10 (.int .u64 ((ep : Int) + 1)) rfl (by kernel_rfl) (by kernel_rfl) (by kernel_rfl) (by kernel_rfl) (by kernel_rfl) rfl (fun _ _ _ h => h) hS0 (RegF.yld rfl (fun W hW => by go_simp)) ?_
  simp only [List.getElem_toArray, List.getElem_cons_succ, List.getElem_cons_zero, Act.put, List.setIfInBounds_toArray, List.set_cons_zero, List.set_cons_succ]
  refine RegM.take1 11 (.pointer (some ⟨l, 0, none⟩)) rfl (by kernel_rfl) (by kernel_rfl) (by kernel_rfl) (by kernel_rfl) (by kernel_rfl) rfl (fun _ _ _ h => h) hS0 (RegF.yld rfl (fun W hW => by go_simp)) ?_
  simp only [List.getElem_toArray, List.getElem_cons_succ, List.getElem_cons_zero, Act.put, List.setIfInBounds_toArray, List.set_cons_zero, List.set_cons_succ]
  refine RegM.take1 12 (.pointer (some ⟨l, 0, none⟩)) rfl (by kernel_rfl) (by kernel_rfl) (by kernel_rfl) (by kernel_rfl) (by kernel_rfl) rfl (fun _ _ _ h => h) hS0 (RegF.yld rfl (fun W hW => by go_simp)) ?_
  simp only [List.getElem_toArray, List.getElem_cons_succ, List.getElem_cons_zero, Act.put, List.setIfInBounds_toArray, List.set_cons_zero, List.set_cons_succ]
  refine RegM.take1 13 (.pointer (some ⟨l, 5, none⟩)) rfl (by kernel_rfl) (by kernel_rfl) (by kernel_rfl) (by kernel_rfl) (by kernel_rfl) rfl (fun _ _ _ h => h) hS0 (RegF.yld rfl (fun W hW => by go_simp)) ?_
  simp only [List.getElem_toArray, List.getElem_cons_succ, List.getElem_cons_zero, Act.put, List.setIfInBounds_toArray, List.set_cons_zero, List.set_cons_succ]
  refine RegM.take1 14 (.int .i64 sz) rfl (by kernel_rfl) (by kernel_rfl) (by kernel_rfl) (by kernel_rfl) (by kernel_rfl) rfl (fun _ _ _ h => h) hS0 (RegF.yld rfl (fun W hW => by have q := T5 W hW; go_simp)) ?_
  simp only [List.getElem_toArray, List.getElem_cons_succ, List.getElem_cons_zero, Act.put, List.setIfInBounds_toArray, List.set_cons_zero, List.set_cons_succ]
  refine RegM.take1 15 (.agg #[.int .u64 ((sr : Int) + 1), .int .u64 ((ep : Int) + 1), .int .i64 sz, .int .i64 0]) rfl (by kernel_rfl) (by kernel_rfl) (by kernel_rfl) (by kernel_rfl) (by kernel_rfl) rfl (fun _ _ _ h => h) hS0 (RegF.yld rfl (fun W hW => by go_simp)) ?_
  simp only [List.getElem_toArray, List.getElem_cons_succ, List.getElem_cons_zero, Act.put, List.setIfInBounds_toArray, List.set_cons_zero, List.set_cons_succ]
  refine RegM.one 16 (by kernel_rfl) ?_
  refine RegF.opC 40 #[.tmp 6, .tmp 21] #[33, 89] rfl rfl rfl (enters_of Tryz.func40 (by kernel_rfl) rfl) #[.pointer (some ⟨l, 0, none⟩), .agg #[.int .u64 ((sr : Int) + 1), .int .u64 ((ep : Int) + 1), .int .i64 sz, .int .i64 0]] (by simp only [List.map_toArray, List.map_cons, List.map_nil]; rfl) (HL.mono ?_)
  rintro e w2 ⟨rfl, hD2, hb2, hG2⟩
  refine ⟨_, rfl, fun h => (by cases h), ?_⟩
  simp only [List.getElem_toArray, List.getElem_cons_succ, List.getElem_cons_zero, Act.put, List.setIfInBounds_toArray, List.set_cons_zero, List.set_cons_succ]
  refine RegM.one 17 (by kernel_rfl) (RegF.opV (w' := w2) (.int .i64 0) rfl rfl (by go_simp) ⟨fun h => (by cases h), RegM.done (by kernel_rfl) ?_⟩)
  simp only [List.getElem_toArray, List.getElem_cons_succ, List.getElem_cons_zero, Act.put, List.setIfInBounds_toArray, List.set_cons_zero, List.set_cons_succ]
  have k6 : w2.cell? ⟨l, 6, none⟩ = some (.slice A n c) := by rw [hb2.cell]; rfl
  have f6 := hb2.free 6
  have hb3 : BlkIs (w2.setCell ⟨l, 6, none⟩ (.slice none 0 0)) l 57 (lgC (some ⟨d, 0, none⟩) fr pg (sr + 1) (ep + 1) sz none 0 0) := hb2.set 6 _
  have hD3 := hD2.setOther hb2 (by show 7 ≤ 64; decide) (fun e => hld e.symm) ⟨l, 6, none⟩ (.slice none 0 0) rfl
  have hG3 : GrowBut (fun k => k = d ∨ k = l) w (w2.setCell ⟨l, 6, none⟩ (.slice none 0 0)) := ((GrowBut.grown (grownBy_drew w none) (fun r e => by cases e)).trans hG2).trans (GrowBut.setCell _ _ _ (.inr rfl))
  clear HL HN T3 T4 T5 hS0
  go_wp2
  go_ret
  exact ⟨rfl, hD3, hb3, hG3⟩
end Go.Proofs.YtocnabpplbeafaaGreat
/- wal: what Append does, thing by thing. -/
namespace Go.Proofs.YtocnabpplbeafaaGreat
open Go Go.RowKit Lou

set_option maxRecDepth 100000 in
theorem link_nil (w : World) : Calls Tryz.prog 45 #[.slice none 0 0] w fun e w' => e = .returned (.int .u32 0) ∧ w = w' := by
  go_enter Tryz.func45, Tryz.ntmps45
  go_wp2
  go_ret
  exact ⟨rfl, rfl⟩
set_option maxRecDepth 100000 in
theorem fclone_nil (w : World) : Calls Tryz.prog 44 #[.slice none 0 0] w fun e w' => e = .returned (.slice none 0 0) ∧ w = w' := by
  have hq := fun W => run_eq_nil (P := Tryz.prog) W 55 97 none 0 0 Tryz.underlying55
  go_enter Tryz.func44, Tryz.ntmps44
  go_wp2
  go_ret
  exact ⟨rfl, rfl⟩
section
variable (w : World) (l d many lb mb : Nat) (g : Nat → List UInt8) (xs : List (Nat × List UInt8)) (left : Int) (fr pg : Int) (sr ep : Nat) (sz : Int)
set_option maxRecDepth 100000 in
set_option maxHeartbeats 8000000 in
theorem app2_gives (A : Option Addr) (n c : Nat) (Am : Option Addr) (nm cm : Nat) (hD : DkIs w d many g xs left false) (hl : xs.length ≤ 900000) (h1l : -1000000 ≤ left) (h2l : left ≤ 9223372036854775807) (hlg : BlkIs w l 57 (lgC (some ⟨d, 0, none⟩) fr pg sr ep sz A n c)) (hlb : BlkIs w lb 33 #[.pointer (some ⟨l, 0, none⟩)]) (hmb : BlkIs w mb 55 #[.slice Am nm cm]) (hld : l ≠ d) (hok : headOk sz (nm : Int) = true) (hm2 : 2 ≤ many) (hmax : many ≤ 1000000) (hsr : sr + 1 < 18446744073709551616) :
    Calls Tryz.prog 53 #[.pointer (some ⟨lb, 0, none⟩), .pointer (some ⟨mb, 0, none⟩)] w fun e w' => e = .returned (.int .i64 0) ∧ (∃ g', DkIs w' d many g' [] left false) ∧ BlkIs w' l 57 (lgC (some ⟨d, 0, none⟩) fr pg (sr + 1) ep sz A n c) ∧ GrowBut (fun k => k = d ∨ k = l) w w' := by
  have HL := lay_gives w.drew l d many g xs left (sr + 1) ep sz (nm : Int) fr pg sr ep sz A n c (hD.grow (Below.refl _ _).drew) hl h1l h2l hlg.drew hld hok hm2 hmax
  rw [show ((sr + 1 : Nat) : Int) = (sr : Int) + 1 by omega] at HL
  have hw1 : IntKind.u64.wrap ((sr : Int) + 1) = (sr : Int) + 1 := by rw [IntKind.wrap_u64]; omega
  have T3 : ∀ W, BlkIs W l 57 (lgC (some ⟨d, 0, none⟩) fr pg sr ep sz A n c) → W.cell? ⟨l, 3, none⟩ = some (.int .u64 (sr : Int)) := fun W hW => by rw [hW.cell]; rfl
  have T4 : ∀ W, BlkIs W l 57 (lgC (some ⟨d, 0, none⟩) fr pg sr ep sz A n c) → W.cell? ⟨l, 4, none⟩ = some (.int .u64 (ep : Int)) := fun W hW => by rw [hW.cell]; rfl
  have T5 : ∀ W, BlkIs W l 57 (lgC (some ⟨d, 0, none⟩) fr pg sr ep sz A n c) → W.cell? ⟨l, 5, none⟩ = some (.int .i64 sz) := fun W hW => by rw [hW.cell]; rfl
  have hS0 : BlkIs w.drew l 57 (lgC (some ⟨d, 0, none⟩) fr pg sr ep sz A n c) ∧ BlkIs w.drew lb 33 #[.pointer (some ⟨l, 0, none⟩)] ∧ BlkIs w.drew mb 55 #[.slice Am nm cm] := ⟨hlg.drew, hlb.drew, hmb.drew⟩
  go_enter Tryz.func53, Tryz.ntmps53
  go_wp2_with fail
  refine RegM.start (fun W => BlkIs W l 57 (lgC (some ⟨d, 0, none⟩) fr pg sr ep sz A n c) ∧ BlkIs W lb 33 #[.pointer (some ⟨l, 0, none⟩)] ∧ BlkIs W mb 55 #[.slice Am nm cm]) [17, 18] (by kernel_rfl) ?_
  refine RegM.take1 0 (.pointer (some ⟨l, 0, none⟩)) rfl (by kernel_rfl) (by kernel_rfl) (by kernel_rfl) (by kernel_rfl) (by kernel_rfl) rfl (fun _ _ _ h => h) hS0 (RegF.yld rfl (fun W hW => by obtain ⟨q1, q2, q3⟩ := hW; have q := q2.boxed; go_simp)) ?_
  simp only [List.getElem_toArray, List.getElem_cons_zero, Act.put, List.setIfInBounds_toArray, List.set_cons_zero, List.set_cons_succ]
  refine RegM.take1 1 (.pointer (some ⟨l, 0, none⟩)) rfl (by kernel_rfl) (by kernel_rfl) (by kernel_rfl) (by kernel_rfl) (by kernel_rfl) rfl (fun _ _ _ h => h) hS0 (RegF.yld rfl (fun W hW => by obtain ⟨q1, q2, q3⟩ := hW; have q := q2.boxed; go_simp)) ?_
  simp only [List.getElem_toArray, List.getElem_cons_succ, List.getElem_cons_zero, Act.put, List.setIfInBounds_toArray, List.set_cons_zero, List.set_cons_succ]
  refine RegM.take1 2 (.pointer (some ⟨l, 0, none⟩)) rfl (by kernel_rfl) (by kernel_rfl) (by kernel_rfl) (by kernel_rfl) (by kernel_rfl) rfl (fun _ _ _ h => h) hS0 (RegF.yld rfl (fun W hW => by go_simp)) ?_
  simp only [List.getElem_toArray, List.getElem_cons_succ, List.getElem_cons_zero, Act.put, List.setIfInBounds_toArray, List.set_cons_zero, List.set_cons_succ]
  refine RegM.take1 3 (.pointer (some ⟨l, 3, none⟩)) rfl (by kernel_rfl) (by kernel_rfl) (by kernel_rfl) (by kernel_rfl) (by kernel_rfl) rfl (fun _ _ _ h => h) hS0 (RegF.yld rfl (fun W hW => by go_simp)) ?_
  simp only [List.getElem_toArray, List.getElem_cons_succ, List.getElem_cons_zero, Act.put, List.setIfInBounds_toArray, List.set_cons_zero, List.set_cons_succ]
  refine RegM.take1 4 (.int .u64 (sr : Int)) rfl (by kernel_rfl) (by kernel_rfl) (by kernel_rfl) (by kernel_rfl) (by kernel_rfl) rfl (fun _ _ _ h => h) hS0 (RegF.yld rfl (fun W hW => by obtain ⟨q1, q2, q3⟩ := hW; have q := T3 W q1; go_simp)) ?_
  simp only [List.getElem_toArray, List.getElem_cons_succ, List.getElem_cons_zero, Act.put, List.setIfInBounds_toArray, List.set_cons_zero, List.set_cons_succ]
  refine RegM.take1 5 (.int .u64 ((sr : Int) + 1)) rfl (by kernel_rfl) (by kernel_rfl) (by kernel_rfl) (by kernel_rfl) (by kernel_rfl) rfl (fun _ _ _ h => h) hS0 (RegF.yld rfl (fun W hW => by go_simp)) ?_
  simp only [List.getElem_toArray, List.getElem_cons_succ, List.getElem_cons_zero, Act.put, List.setIfInBounds_toArray, List.set_cons_zero, List.set_cons_succ]
  refine RegM.take1 6 (.pointer (some ⟨l, 0, none⟩)) rfl (by kernel_rfl) (by kernel_rfl) (by kernel_rfl) (by kernel_rfl) (by kernel_rfl) rfl (fun _ _ _ h => h) hS0 (RegF.yld rfl (fun W hW => by obtain ⟨q1, q2, q3⟩ := hW; have q := q2.boxed; go_simp)) ?_
  simp only [List.getElem_toArray, List.getElem_cons_succ, List.getElem_cons_zero, Act.put, List.setIfInBounds_toArray, List.set_cons_zero, List.set_cons_succ]
  refine RegM.take1 7 (.pointer (some ⟨l, 0, none⟩)) rfl (by kernel_rfl) (by kernel_rfl) (by kernel_rfl) (by kernel_rfl) (by kernel_rfl) rfl (fun _ _ _ h => h) hS0 (RegF.yld rfl (fun W hW => by go_simp)) ?_
  simp only [List.getElem_toArray, List.getElem_cons_succ, List.getElem_cons_zero, Act.put, List.setIfInBounds_toArray, List.set_cons_zero, List.set_cons_succ]
  refine RegM.take1 8 (.pointer (some ⟨l, 4, none⟩)) rfl (by kernel_rfl) (by kernel_rfl) (by kernel_rfl) (by kernel_rfl) (by kernel_rfl) rfl (fun _ _ _ h => h) hS0 (RegF.yld rfl (fun W hW => by go_simp)) ?_
  simp only [List.getElem_toArray, List.getElem_cons_succ, List.getElem_cons_zero, Act.put, List.setIfInBounds_toArray, List.set_cons_zero, List.set_cons_succ]
  refine RegM.take1 9 (.int .u64 (ep : Int)) rfl (by kernel_rfl) (by kernel_rfl) (by kernel_rfl) (by kernel_rfl) (by kernel_rfl) rfl (fun _ _ _ h => h) hS0 (RegF.yld rfl (fun W hW => by obtain ⟨q1, q2, q3⟩ := hW; have q := T4 W q1; go_simp)) ?_
  simp only [List.getElem_toArray, List.getElem_cons_succ, List.getElem_cons_zero, Act.put, List.setIfInBounds_toArray, List.set_cons_zero, List.set_cons_succ]
  refine RegM.take1 10 (.pointer (some ⟨l, 0, none⟩)) rfl (by kernel_rfl) (by kernel_rfl) (by kernel_rfl) (by kernel_rfl) (by kernel_rfl) rfl (fun _ _ _ h => h) hS0 (RegF.yld rfl (fun W hW => by obtain ⟨q1, q2, q3⟩ := hW; have q := q2.boxed; go_simp)) ?_
  simp only [List.getElem_toArray, List.getElem_cons_succ, List.getElem_cons_zero, Act.put, List.setIfInBounds_toArray, List.set_cons_zero, List.set_cons_succ]
  refine RegM.take1 11 (.pointer (some ⟨l, 0, none⟩)) rfl (by kernel_rfl) (by kernel_rfl) (by kernel_rfl) (by kernel_rfl) (by kernel_rfl) rfl (fun _ _ _ h => h) hS0 (RegF.yld rfl (fun W hW => by go_simp)) ?_
  simp only [List.getElem_toArray, List.getElem_cons_succ, List.getElem_cons_zero, Act.put, List.setIfInBounds_toArray, List.set_cons_zero, List.set_cons_succ]
  refine RegM.take1 12 (.pointer (some ⟨l, 5, none⟩)) rfl (by kernel_rfl) (by kernel_rfl) (by kernel_rfl) (by kernel_rfl) (by kernel_rfl) rfl (fun _ _ _ h => h) hS0 (RegF.yld rfl (fun W hW => by go_simp)) ?_
  simp only [List.getElem_toArray, List.getElem_cons_succ, List.getElem_cons_zero, Act.put, List.setIfInBounds_toArray, List.set_cons_zero, List.set_cons_succ]
  refine RegM.take1 13 (.int .i64 sz) rfl (by kernel_rfl) (by kernel_rfl) (by kernel_rfl) (by kernel_rfl) (by kernel_rfl) rfl (fun _ _ _ h => h) hS0 (RegF.yld rfl (fun W hW => by obtain ⟨q1, q2, q3⟩ := hW; have q := T5 W q1; go_simp)) ?_
  simp only [List.getElem_toArray, List.getElem_cons_succ, List.getElem_cons_zero, Act.put, List.setIfInBounds_toArray, List.set_cons_zero, List.set_cons_succ]
  refine RegM.take1 14 (.slice Am nm cm) rfl (by kernel_rfl) (by kernel_rfl) (by kernel_rfl) (by kernel_rfl) (by kernel_rfl) rfl (fun _ _ _ h => h) hS0 (RegF.yld rfl (fun W hW => by obtain ⟨q1, q2, q3⟩ := hW; have q := q3.boxed; go_simp)) ?_
  simp only [List.getElem_toArray, List.getElem_cons_succ, List.getElem_cons_zero, Act.put, List.setIfInBounds_toArray, List.set_cons_zero, List.set_cons_succ]
  refine RegM.take1 15 (.int .i64 (nm : Int)) rfl (by kernel_rfl) (by kernel_rfl) (by kernel_rfl) (by kernel_rfl) (by kernel_rfl) rfl (fun _ _ _ h => h) hS0 (RegF.yld rfl (fun W hW => by go_simp)) ?_
  simp only [List.getElem_toArray, List.getElem_cons_succ, List.getElem_cons_zero, Act.put, List.setIfInBounds_toArray, List.set_cons_zero, List.set_cons_succ]
  refine RegM.take1 16 (.agg #[.int .u64 ((sr : Int) + 1), .int .u64 (ep : Int), .int .i64 sz, .int .i64 (nm : Int)]) rfl (by kernel_rfl) (by kernel_rfl) (by kernel_rfl) (by kernel_rfl) (by kernel_rfl) rfl (fun _ _ _ h => h) hS0 (RegF.yld rfl (fun W hW => by go_simp)) ?_
  simp only [List.getElem_toArray, List.getElem_cons_succ, List.getElem_cons_zero, Act.put, List.setIfInBounds_toArray, List.set_cons_zero, List.set_cons_succ]
  refine RegM.one 17 (by kernel_rfl) ?_
  refine RegF.opC 40 #[.tmp 3, .tmp 19] #[33, 89] rfl rfl rfl (enters_of Tryz.func40 (by kernel_rfl) rfl) #[.pointer (some ⟨l, 0, none⟩), .agg #[.int .u64 ((sr : Int) + 1), .int .u64 (ep : Int), .int .i64 sz, .int .i64 (nm : Int)]] (by simp only [List.map_toArray, List.map_cons, List.map_nil]; rfl) (HL.mono ?_)
  rintro e w2 ⟨rfl, hD2, hb2, hG2⟩
  refine ⟨_, rfl, fun h => (by cases h), ?_⟩
  simp only [List.getElem_toArray, List.getElem_cons_succ, List.getElem_cons_zero, Act.put, List.setIfInBounds_toArray, List.set_cons_zero, List.set_cons_succ]
  refine RegM.one 18 (by kernel_rfl) (RegF.opV (w' := w2) (.int .i64 0) rfl rfl (by go_simp) ⟨fun h => (by cases h), RegM.done (by kernel_rfl) ?_⟩)
  simp only [List.getElem_toArray, List.getElem_cons_succ, List.getElem_cons_zero, Act.put, List.setIfInBounds_toArray, List.set_cons_zero, List.set_cons_succ]
  have hG3 : GrowBut (fun k => k = d ∨ k = l) w w2 := (GrowBut.grown (grownBy_drew w none) (fun r e => by cases e)).trans hG2
  clear HL T3 T4 T5 hS0
  go_wp2
  go_ret
  exact ⟨rfl, ⟨_, hD2⟩, hb2, hG3⟩
set_option maxRecDepth 100000 in
set_option maxHeartbeats 8000000 in
theorem app3_gives (szb : Nat) (D : Option Addr) (A : Option Addr) (n c : Nat) (Am : Option Addr) (nm cm : Nat) (s : Int) (hlg : BlkIs w l 57 (lgC D fr pg sr ep sz A n c)) (hlb : BlkIs w lb 33 #[.pointer (some ⟨l, 0, none⟩)]) (hmb : BlkIs w mb 55 #[.slice Am nm cm]) (hsb : BlkIs w szb 3 #[.int .i64 s]) (n1 : l ≠ lb) (n2 : l ≠ mb) (n3 : l ≠ szb) :
    Calls Tryz.prog 54 #[.pointer (some ⟨mb, 0, none⟩), .pointer (some ⟨szb, 0, none⟩), .pointer (some ⟨lb, 0, none⟩)] w fun e w' => e = .returned (.int .i64 0) ∧ w' = (w.drew.setCell ⟨l, 6, none⟩ (.slice Am nm cm)).setCell ⟨l, 5, none⟩ (.int .i64 s) ∧ BlkIs w' l 57 (lgC D fr pg sr ep s Am nm cm) := by
  have g6 : w.cell? ⟨l, 6, none⟩ = some (.slice A n c) := by rw [hlg.cell]; rfl
  have g5 : w.cell? ⟨l, 5, none⟩ = some (.int .i64 sz) := by rw [hlg.cell]; rfl
  have f6 := hlg.free 6
  have f5 := hlg.free 5
  have hl1 := hlg.drew.set 6 (.slice Am nm cm)
  have hS0 : BlkIs w.drew lb 33 #[.pointer (some ⟨l, 0, none⟩)] ∧ BlkIs w.drew mb 55 #[.slice Am nm cm] ∧ BlkIs w.drew szb 3 #[.int .i64 s] := ⟨hlb.drew, hmb.drew, hsb.drew⟩
  have hS1 : BlkIs (w.drew.setCell ⟨l, 6, none⟩ (.slice Am nm cm)) lb 33 #[.pointer (some ⟨l, 0, none⟩)] ∧ BlkIs (w.drew.setCell ⟨l, 6, none⟩ (.slice Am nm cm)) mb 55 #[.slice Am nm cm] ∧ BlkIs (w.drew.setCell ⟨l, 6, none⟩ (.slice Am nm cm)) szb 3 #[.int .i64 s] :=
    ⟨hlb.drew.other (fun e => n1 e.symm) _, hmb.drew.other (fun e => n2 e.symm) _, hsb.drew.other (fun e => n3 e.symm) _⟩
  have g5' : (w.drew.setCell ⟨l, 6, none⟩ (.slice Am nm cm)).cell? ⟨l, 5, none⟩ = some (.int .i64 sz) := by rw [hl1.cell]; rfl
  have f5' := hl1.free 5
  go_enter Tryz.func54, Tryz.ntmps54
  go_wp2_with fail
  refine RegF.start (fun W => BlkIs W lb 33 #[.pointer (some ⟨l, 0, none⟩)] ∧ BlkIs W mb 55 #[.slice Am nm cm] ∧ BlkIs W szb 3 #[.int .i64 s]) 9 (by kernel_rfl) ?_
  refine RegF.take 0 (.pointer (some ⟨l, 0, none⟩)) rfl (by kernel_rfl) (by kernel_rfl) (by kernel_rfl) (by kernel_rfl) (fun _ _ _ h => h) hS0 (RegF.yld rfl (fun W hW => by obtain ⟨q1, q2, q3⟩ := hW; have q := q1.boxed; go_simp)) ?_
  simp only [List.getElem_toArray, List.getElem_cons_zero, Act.put, List.setIfInBounds_toArray, List.set_cons_zero, List.set_cons_succ]
  refine RegF.take 1 (.pointer (some ⟨l, 0, none⟩)) rfl (by kernel_rfl) (by kernel_rfl) (by kernel_rfl) (by kernel_rfl) (fun _ _ _ h => h) hS0 (RegF.yld rfl (fun W hW => by obtain ⟨q1, q2, q3⟩ := hW; have q := q1.boxed; go_simp)) ?_
  simp only [List.getElem_toArray, List.getElem_cons_succ, List.getElem_cons_zero, Act.put, List.setIfInBounds_toArray, List.set_cons_zero, List.set_cons_succ]
  refine RegF.take 2 (.slice Am nm cm) rfl (by kernel_rfl) (by kernel_rfl) (by kernel_rfl) (by kernel_rfl) (fun _ _ _ h => h) hS0 (RegF.yld rfl (fun W hW => by obtain ⟨q1, q2, q3⟩ := hW; have q := q2.boxed; go_simp)) ?_
  simp only [List.getElem_toArray, List.getElem_cons_succ, List.getElem_cons_zero, Act.put, List.setIfInBounds_toArray, List.set_cons_zero, List.set_cons_succ]
  refine RegF.take 3 (.int .i64 s) rfl (by kernel_rfl) (by kernel_rfl) (by kernel_rfl) (by kernel_rfl) (fun _ _ _ h => h) hS0 (RegF.yld rfl (fun W hW => by obtain ⟨q1, q2, q3⟩ := hW; have q := q3.boxed; go_simp)) ?_
  simp only [List.getElem_toArray, List.getElem_cons_succ, List.getElem_cons_zero, Act.put, List.setIfInBounds_toArray, List.set_cons_zero, List.set_cons_succ]
  refine RegF.one 4 (by kernel_rfl) (RegF.opV (w' := w.drew) (.pointer (some ⟨l, 0, none⟩)) rfl rfl (by go_simp) ⟨fun _ => hS0, ?_⟩)
  simp only [List.getElem_toArray, List.getElem_cons_succ, List.getElem_cons_zero, Act.put, List.setIfInBounds_toArray, List.set_cons_zero, List.set_cons_succ]
  refine RegF.one 5 (by kernel_rfl) (RegF.opV (w' := w.drew) (.pointer (some ⟨l, 6, none⟩)) rfl rfl (by go_simp) ⟨fun _ => hS0, ?_⟩)
  simp only [List.getElem_toArray, List.getElem_cons_succ, List.getElem_cons_zero, Act.put, List.setIfInBounds_toArray, List.set_cons_zero, List.set_cons_succ]
  refine RegF.one 6 (by kernel_rfl) (RegF.opS (w' := w.drew.setCell ⟨l, 6, none⟩ (.slice Am nm cm)) rfl rfl (by go_simp) ⟨fun _ => hS1, ?_⟩)
  simp only [List.getElem_toArray, List.getElem_cons_succ, List.getElem_cons_zero, Act.put]
  refine RegF.one 7 (by kernel_rfl) (RegF.opV (w' := w.drew.setCell ⟨l, 6, none⟩ (.slice Am nm cm)) (.pointer (some ⟨l, 0, none⟩)) rfl rfl (by go_simp) ⟨fun _ => hS1, ?_⟩)
  simp only [List.getElem_toArray, List.getElem_cons_succ, List.getElem_cons_zero, Act.put, List.setIfInBounds_toArray, List.set_cons_zero, List.set_cons_succ]
  refine RegF.one 8 (by kernel_rfl) (RegF.opV (w' := w.drew.setCell ⟨l, 6, none⟩ (.slice Am nm cm)) (.pointer (some ⟨l, 5, none⟩)) rfl rfl (by go_simp) ⟨fun _ => hS1, ?_⟩)
  simp only [List.getElem_toArray, List.getElem_cons_succ, List.getElem_cons_zero, Act.put, List.setIfInBounds_toArray, List.set_cons_zero, List.set_cons_succ]
  refine RegF.one 9 (by kernel_rfl) (RegF.opS (w' := (w.drew.setCell ⟨l, 6, none⟩ (.slice Am nm cm)).setCell ⟨l, 5, none⟩ (.int .i64 s)) rfl rfl (by go_simp) ⟨fun h => absurd rfl h, RegF.done (by kernel_rfl) ?_⟩)
  simp only [List.getElem_toArray, List.getElem_cons_succ, List.getElem_cons_zero, Act.put]
  clear hS0 hS1
  go_wp2
  go_ret
  exact ⟨rfl, rfl, hl1.set 5 (.int .i64 s)⟩
end
end Go.Proofs.YtocnabpplbeafaaGreat
/- loupelaw05: num, works. -/
namespace Go.Proofs.YtocnabpplbeafaaGreat
open Go Go.RowKit Lou

theorem rowPlan : RowTy Tryz.prog 23 2 := ⟨⟨_, Tryz.underlying23, rfl⟩, by kernel_rfl⟩
def head12 : List UInt8 := [0, 0, 0, 0, 0, 0, 0, 1, 0, 0, 0, 0, 0, 0, 0, 2, 0, 0, 0, 0, 0, 0, 0, 0]
end Go.Proofs.YtocnabpplbeafaaGreat
/- loupelaw05.FrameHolds: the walk. -/
namespace Go.Proofs.YtocnabpplbeafaaGreat
open Go Go.RowKit Lou

theorem frameB_length {e i p : Nat} {f : Bool} {z n : Nat} {y : List UInt8} (hy : y.length = 512) : (frameB (partB e i p f z n) y).length = 576 := by
  simp [frameB, sectB_length, partB_length]; omega
section
variable (e : Nat) (i p : Int) (f : Bool) (z : Int) (n : Nat) (A : Option Addr) (k : Nat) (y : List UInt8) (s e' : Nat) (z' c' : Int) (x0 x1 : Int) (w : World)
end
end Go.Proofs.YtocnabpplbeafaaGreat
namespace Go.Proofs.YtocnabpplbeafaaGreat
open Go Go.RowKit Lou

namespace Reg
variable {L : List (Nat × Fact)} {ops : Array Oper} {w0 : World} {o : Oper}
end Reg

section
variable (e : Nat) (i p : Int) (f : Bool) (z : Int) (n : Nat) (A : Option Addr) (k : Nat) (y : List UInt8) (s e' : Nat) (z' c' : Int) (w : World) (X Y : List UInt8)
end
end Go.Proofs.YtocnabpplbeafaaGreat
namespace Go.Proofs.YtocnabpplbeafaaGreat
open Go Go.RowKit Lou

end Go.Proofs.YtocnabpplbeafaaGreat
/- wal: Append writes its frames: one. -/
namespace Go.Proofs.YtocnabpplbeafaaGreat
open Go Go.RowKit Lou

section
variable (w : World) (l d many lb mb : Nat) (g : Nat → List UInt8) (xs : List (Nat × List UInt8)) (left : Int) (fr pg : Int) (sr ep : Nat) (sz : Int)
set_option maxRecDepth 100000 in
set_option maxHeartbeats 16000000 in
theorem app1_gives (c : Nat) (fg fc : Nat) (e : Nat) (p : Int) (f : Bool) (z : Int) (nl : Nat) (Ay : Option Addr) (ky : Nat) (y : List UInt8) (hD : DkIs w d many g xs left false) (hl : xs.length ≤ 900000) (h1l : -1000000 ≤ left) (h2l : left ≤ 9223372036854775807) (hlg : BlkIs w l 57 (lgC (some ⟨d, 0, none⟩) fr pg sr ep sz none 0 0)) (hlb : BlkIs w lb 33 #[.pointer (some ⟨l, 0, none⟩)]) (hmb : BlkIs w mb 55 #[.slice (some ⟨fg, 0, none⟩) 1 fc])
    (hfc : 1 ≤ fc) (hfm : fc ≤ 9223372036854775807) (hfr : w.rangeAt fg 0 (frCells e 0 p f z nl Ay y.length ky).toList) (hfg : fg < w.heap.size) (hy : InB w w.heap.size Ay ky y) (hlby : ∀ g o, Ay = some ⟨g, o, none⟩ → 0 < y.length → g ≠ d)
    (hld : l ≠ d) (hlbd : lb ≠ d) (hmbd : mb ≠ d) (hfgd : fg ≠ d) (hpl : plE (planOk fr pg) 0 fr = 0) (hok : frOk y.length 0 p f z = true) (hm11 : 11 ≤ many) (hmax : many ≤ 1000000) :
    Calls Tryz.prog 48 #[.pointer (some ⟨mb, 0, none⟩), .pointer (some ⟨lb, 0, none⟩)] w fun e' w' => e' = .returned (.int .i64 0) ∧ (∃ xs', xs'.length ≤ xs.length + 9 ∧ DkIs w' d many g xs' left false) ∧ w.grownBy w' (some d) := by
  have hB0 : Below w.heap.size w w.drew := (Below.refl _ _).drew
  have T0 : ∀ W, Below w.heap.size w W → W.cell? ⟨mb, 0, none⟩ = some (.slice (some ⟨fg, 0, none⟩) 1 fc) := fun W hW => (hmb.below hW hmb.lt).boxed
  have T1 : ∀ W, Below w.heap.size w W → W.cell? ⟨lb, 0, none⟩ = some (.pointer (some ⟨l, 0, none⟩)) := fun W hW => (hlb.below hW hlb.lt).boxed
  have T6 : ∀ W, Below w.heap.size w W → W.cell? ⟨l, 6, none⟩ = some (.slice none 0 0) := fun W hW => by rw [(hlg.below hW hlg.lt).cell]; rfl
  have hdl := hD.lt
  go_enter Tryz.func48, Tryz.ntmps48
  go_wp2_with fail
  refine RegF.start (fun W => Below w.heap.size w W) 99 (by kernel_rfl) ?_
  refine RegF.take0 0 (.slice (some ⟨fg, 0, none⟩) 1 fc) rfl (by kernel_rfl) (by kernel_rfl) (by kernel_rfl) rfl (fun _ _ _ h => h) hB0 (RegF.yld rfl (fun W hW => by have q := T0 W hW; go_simp)) ?_
  simp only [List.getElem_toArray, List.getElem_cons_zero, Act.put, List.setIfInBounds_toArray, List.set_cons_zero, List.set_cons_succ]
  refine RegF.take0 1 (.pointer (some ⟨l, 0, none⟩)) rfl (by kernel_rfl) (by kernel_rfl) (by kernel_rfl) rfl (fun _ _ _ h => h) hB0 (RegF.yld rfl (fun W hW => by have q := T1 W hW; go_simp)) ?_
  simp only [List.getElem_toArray, List.getElem_cons_succ, List.getElem_cons_zero, Act.put, List.setIfInBounds_toArray, List.set_cons_zero, List.set_cons_succ]
  refine RegF.take0 2 (.pointer (some ⟨l, 0, none⟩)) rfl (by kernel_rfl) (by kernel_rfl) (by kernel_rfl) rfl (fun _ _ _ h => h) hB0 (RegF.yld rfl (fun W hW => by go_simp)) ?_
  simp only [List.getElem_toArray, List.getElem_cons_succ, List.getElem_cons_zero, Act.put, List.setIfInBounds_toArray, List.set_cons_zero, List.set_cons_succ]
  refine RegF.take0 3 (.pointer (some ⟨l, 6, none⟩)) rfl (by kernel_rfl) (by kernel_rfl) (by kernel_rfl) rfl (fun _ _ _ h => h) hB0 (RegF.yld rfl (fun W hW => by go_simp)) ?_
  simp only [List.getElem_toArray, List.getElem_cons_succ, List.getElem_cons_zero, Act.put, List.setIfInBounds_toArray, List.set_cons_zero, List.set_cons_succ]
  refine RegF.take0 4 (.slice none 0 0) rfl (by kernel_rfl) (by kernel_rfl) (by kernel_rfl) rfl (fun _ _ _ h => h) hB0 (RegF.yld rfl (fun W hW => by have q := T6 W hW; go_simp)) ?_
  simp only [List.getElem_toArray, List.getElem_cons_succ, List.getElem_cons_zero, Act.put, List.setIfInBounds_toArray, List.set_cons_zero, List.set_cons_succ]
  refine RegF.take0 5 (.int .i64 0) rfl (by kernel_rfl) (by kernel_rfl) (by kernel_rfl) rfl (fun _ _ _ h => h) hB0 (RegF.yld rfl (fun W hW => by go_simp)) ?_
  simp only [List.getElem_toArray, List.getElem_cons_succ, List.getElem_cons_zero, Act.put, List.setIfInBounds_toArray, List.set_cons_zero, List.set_cons_succ]
  refine RegF.take0 6 (.slice (some ⟨fg, 0, none⟩) 1 fc) rfl (by kernel_rfl) (by kernel_rfl) (by kernel_rfl) rfl (fun _ _ _ h => h) hB0 (RegF.yld rfl (fun W hW => by go_simp)) ?_
  simp only [List.getElem_toArray, List.getElem_cons_succ, List.getElem_cons_zero, Act.put, List.setIfInBounds_toArray, List.set_cons_zero, List.set_cons_succ]
  refine RegF.take0 7 (.int .i64 1) rfl (by kernel_rfl) (by kernel_rfl) (by kernel_rfl) rfl (fun _ _ _ h => h) hB0 (RegF.yld rfl (fun W hW => by go_simp)) ?_
  simp only [List.getElem_toArray, List.getElem_cons_succ, List.getElem_cons_zero, Act.put, List.setIfInBounds_toArray, List.set_cons_zero, List.set_cons_succ]
  refine RegF.one 8 (by kernel_rfl) (RegF.opV (w' := w.drew) (.int .i64 0) rfl rfl (by go_simp) ⟨fun _ => hB0, RegF.done (by kernel_rfl) ?_⟩)
  simp only [List.getElem_toArray, List.getElem_cons_succ, List.getElem_cons_zero, Act.put, List.setIfInBounds_toArray, List.set_cons_zero, List.set_cons_succ]
  clear T0 T6
  go_wp2
  go_loopw [18] (fun i wr => (i = .int .i64 0 ∧ Below w.heap.size w wr) ∨ (i = .int .i64 1 ∧ (∃ xs', xs'.length ≤ xs.length + 9 ∧ DkIs wr d many g xs' left false) ∧ w.grownBy wr (some d))) (fun i _ => 2 - (intOf i).toNat)
  case atStart => exact .inl ⟨rfl, hB0⟩
  case round =>
    clear hB0
    rcases hrel with ⟨rfl, hB0⟩ | ⟨rfl, hDx, hGx⟩
    · have hr0 : wr.rangeAt fg 0 (frCells e 0 p f z nl Ay y.length ky).toList := fun j v hj => (hB0.cell (p := ⟨fg, 0 + j, none⟩) hfg).trans (hfr j v hj)
      have hBa : Below w.heap.size w (wr.alloc (.cells #[.int .u64 0, .int .i64 0, .int .i64 0, .bool false, .int .i64 0, .int .u32 0, .slice none 0 0] 97)) := hB0.alloc hB0.size _
      have bz := BlkIs.new wr 97 #[.int .u64 0, .int .i64 0, .int .i64 0, .bool false, .int .i64 0, .int .u32 0, .slice none 0 0]
      have b3 := bz.setRow (frCells e 0 p f z nl Ay y.length ky)
      have hB3 : Below w.heap.size w ((wr.alloc (.cells #[.int .u64 0, .int .i64 0, .int .i64 0, .bool false, .int .i64 0, .int .u32 0, .slice none 0 0] 97)).setRow wr.heap.size (frCells e 0 p f z nl Ay y.length ky)) := below_setRow hBa hB0.size _
      have hwr := hB0.size
      go_wp2_with (first
        | (refine wp_exec rfl (x_loadM rowFrame hr0 rfl rfl rfl) ?_)
        | (refine wp_storeW rfl 97 (.tmp 4) (.tmp 21) rfl wr.heap.size rfl rfl rowFrame bz rfl rfl (frCells_one _ _ _ _ _ _ _ _ _) ?_))
      have hD3 := hD.grow hB3
      have hlg3 := hlg.below hB3 hlg.lt
      have hlb3 := hlb.below hB3 hlb.lt
      have hy3 := (hy.below hB3).more hB3.size
      clear hr0 hBa bz T1 hD hlg hlb hmb hfr hy hB0
      generalize (wr.alloc (.cells #[.int .u64 0, .int .i64 0, .int .i64 0, .bool false, .int .i64 0, .int .u32 0, .slice none 0 0] 97)).setRow wr.heap.size (frCells e 0 p f z nl Ay y.length ky) = W3 at *
      generalize wr.heap.size = fb at *
      have HP : ∀ W, Calls Tryz.prog 49 #[.agg #[.int .i64 fr, .int .i64 pg], .int .i64 0] W fun e w' => e = .returned (.tuple #[.int .i64 2, .int .i64 0]) ∧ Below W.heap.size W w' := fun W => by
        have := frameAt_gives fr pg 0 W
        unfold atV at this
        rw [hpl, if_pos rfl] at this
        exact this
      have T1 : ∀ W, Below W3.heap.size W3 W → W.cell? ⟨lb, 0, none⟩ = some (.pointer (some ⟨l, 0, none⟩)) := fun W hW => (hlb3.below hW hlb3.lt).boxed
      have P1 : ∀ W, Below W3.heap.size W3 W → W.cell? ⟨l, 1, none⟩ = some (.int .i64 fr) := fun W hW => by rw [(hlg3.below hW hlg3.lt).cell]; rfl
      have P2 : ∀ W, Below W3.heap.size W3 W → W.cell? ⟨l, 2, none⟩ = some (.int .i64 pg) := fun W hW => by rw [(hlg3.below hW hlg3.lt).cell]; rfl
      have I1 : ∀ W, Below W3.heap.size W3 W → W.cell? ⟨fb, 1, none⟩ = some (.int .i64 0) := fun W hW => by rw [(b3.below hW b3.lt).cell]; rfl
      have hS0 : Below W3.heap.size W3 W3.drew := (Below.refl _ _).drew
      refine RegF.start (fun W => Below W3.heap.size W3 W) 99 (by kernel_rfl) ?_
      refine RegF.take0 0 (.pointer (some ⟨l, 0, none⟩)) rfl (by kernel_rfl) (by kernel_rfl) (by kernel_rfl) rfl (fun _ _ _ h => h) hS0 (RegF.yld rfl (fun W hW => by have q := T1 W hW; go_simp)) ?_
      simp only [List.getElem_toArray, List.getElem_cons_zero, Act.put, List.setIfInBounds_toArray, List.set_cons_zero, List.set_cons_succ]
      refine RegF.take0 1 (.pointer (some ⟨l, 0, none⟩)) rfl (by kernel_rfl) (by kernel_rfl) (by kernel_rfl) rfl (fun _ _ _ h => h) hS0 (RegF.yld rfl (fun W hW => by go_simp)) ?_
      simp only [List.getElem_toArray, List.getElem_cons_succ, List.getElem_cons_zero, Act.put, List.setIfInBounds_toArray, List.set_cons_zero, List.set_cons_succ]
      refine RegF.take0 2 (.pointer (some ⟨l, 0, none⟩)) rfl (by kernel_rfl) (by kernel_rfl) (by kernel_rfl) rfl (fun _ _ _ h => h) hS0 (RegF.yld rfl (fun W hW => by go_simp)) ?_
      simp only [List.getElem_toArray, List.getElem_cons_succ, List.getElem_cons_zero, Act.put, List.setIfInBounds_toArray, List.set_cons_zero, List.set_cons_succ]
      refine RegF.take0 3 (.pointer (some ⟨l, 1, none⟩)) rfl (by kernel_rfl) (by kernel_rfl) (by kernel_rfl) rfl (fun _ _ _ h => h) hS0 (RegF.yld rfl (fun W hW => by go_simp)) ?_
      simp only [List.getElem_toArray, List.getElem_cons_succ, List.getElem_cons_zero, Act.put, List.setIfInBounds_toArray, List.set_cons_zero, List.set_cons_succ]
      refine RegF.take0 4 (.agg #[.int .i64 fr, .int .i64 pg]) rfl (by kernel_rfl) (by kernel_rfl) (by kernel_rfl) rfl (fun _ _ _ h => h) hS0 (RegF.yld rfl (fun W hW => by have q1 := P1 W hW; have q2 := P2 W hW; go_simp)) ?_
      simp only [List.getElem_toArray, List.getElem_cons_succ, List.getElem_cons_zero, Act.put, List.setIfInBounds_toArray, List.set_cons_zero, List.set_cons_succ]
      refine RegF.take0 5 (.pointer (some ⟨fb, 1, none⟩)) rfl (by kernel_rfl) (by kernel_rfl) (by kernel_rfl) rfl (fun _ _ _ h => h) hS0 (RegF.yld rfl (fun W hW => by go_simp)) ?_
      simp only [List.getElem_toArray, List.getElem_cons_succ, List.getElem_cons_zero, Act.put, List.setIfInBounds_toArray, List.set_cons_zero, List.set_cons_succ]
      refine RegF.take0 6 (.int .i64 0) rfl (by kernel_rfl) (by kernel_rfl) (by kernel_rfl) rfl (fun _ _ _ h => h) hS0 (RegF.yld rfl (fun W hW => by have q1 := I1 W hW; go_simp)) ?_
      simp only [List.getElem_toArray, List.getElem_cons_succ, List.getElem_cons_zero, Act.put, List.setIfInBounds_toArray, List.set_cons_zero, List.set_cons_succ]
      refine RegF.one 7 (by kernel_rfl) ?_
      refine RegF.opC 49 #[.tmp 27, .tmp 29] #[23, 3] rfl rfl rfl (enters_of Tryz.func49 (by kernel_rfl) rfl) #[.agg #[.int .i64 fr, .int .i64 pg], .int .i64 0] (by simp only [List.map_toArray, List.map_cons, List.map_nil]; rfl) ((HP W3.drew).mono ?_)
      rintro e1 w4 ⟨rfl, hB4⟩
      have hS1 : Below W3.heap.size W3 w4 := hS0.trans (hB4.mono (Nat.le_refl _))
      refine ⟨_, rfl, fun _ => hS1, ?_⟩
      simp only [List.getElem_toArray, List.getElem_cons_succ, List.getElem_cons_zero, Act.put, List.setIfInBounds_toArray, List.set_cons_zero, List.set_cons_succ]
      refine RegF.one 8 (by kernel_rfl) (RegF.opV (w' := w4) (.tuple #[.int .i64 2, .int .i64 0]) rfl rfl (by go_simp) ⟨fun _ => hS1, ?_⟩)
      simp only [List.getElem_toArray, List.getElem_cons_succ, List.getElem_cons_zero, Act.put, List.setIfInBounds_toArray, List.set_cons_zero, List.set_cons_succ]
      refine RegF.take0 9 (.int .i64 2) rfl (by kernel_rfl) (by kernel_rfl) (by kernel_rfl) rfl (fun _ _ _ h => h) hS1 (RegF.yld rfl (fun W hW => by go_simp)) ?_
      simp only [List.getElem_toArray, List.getElem_cons_succ, List.getElem_cons_zero, Act.put, List.setIfInBounds_toArray, List.set_cons_zero, List.set_cons_succ]
      refine RegF.take0 10 (.int .i64 0) rfl (by kernel_rfl) (by kernel_rfl) (by kernel_rfl) rfl (fun _ _ _ h => h) hS1 (RegF.yld rfl (fun W hW => by go_simp)) ?_
      simp only [List.getElem_toArray, List.getElem_cons_succ, List.getElem_cons_zero, Act.put, List.setIfInBounds_toArray, List.set_cons_zero, List.set_cons_succ]
      refine RegF.one 11 (by kernel_rfl) (RegF.opV (w' := w4) (.int .i64 2) rfl rfl (by go_simp) ⟨fun _ => hS1, ?_⟩)
      simp only [List.getElem_toArray, List.getElem_cons_succ, List.getElem_cons_zero, Act.put, List.setIfInBounds_toArray, List.set_cons_zero, List.set_cons_succ]
      refine RegF.one 12 (by kernel_rfl) (RegF.opV (w' := w4) (.int .i64 0) rfl rfl (by go_simp) ⟨fun _ => hS1, RegF.done (by kernel_rfl) ?_⟩)
      simp only [List.getElem_toArray, List.getElem_cons_succ, List.getElem_cons_zero, Act.put, List.setIfInBounds_toArray, List.set_cons_zero, List.set_cons_succ]
      have b4 := b3.below hS1 b3.lt
      have hy4 := (hy3.below hS1).more hS1.size
      have hok' := hok
      have HE := encode_gives e 0 p f z nl Ay ky y w4 hy4
      have hlen : (fEnc e 0 p f z nl y).length = 576 := by
        unfold fEnc
        rw [if_pos hok]
        exact frameB_length ((frOk_iff _ _ _ _ _).1 hok).1
      have hE0 : fErr 0 p f z y = 0 := by unfold fErr; rw [if_pos hok]
      rw [hE0] at HE
      unfold GivesBE at HE
      rw [hlen] at HE
      have HLEN := Lib.hid hlen
      clear hlen hE0 hok HP P1 P2 I1 hS0
      go_wp2_with (first
        | (refine wp_loadW rfl 97 (.tmp 4) rfl fb rfl rowFrame b4 rfl ?_)
        | (go_at_call 50; refine HE.mono ?_; rintro e2 w5 ⟨A5, c5, rfl, hin5, hB5⟩; have hB35 := hS1.trans (hB5.mono hS1.size); have t1 := T1 w5 hB35))
      have hc5 : w5.cell? ⟨l, 0, none⟩ = some (.pointer (some ⟨d, 0, none⟩)) := by rw [(hlg3.below hB35 hlg3.lt).cell]; rfl
      have HW := wwrite_gives w5 l d many g xs left (hD3.grow hB35) hl h1l h2l hc5 hld (Nat.lt_of_lt_of_le hlg3.lt hB35.size) 2 9 A5 c5 _ hin5 (by rw [HLEN.out]) (by omega) (by omega) hmax
      rw [HLEN.out, show ((2 : Nat) : Int) = 2 from rfl] at HW
      refine HW.mono ?_
      rintro e3 w6 ⟨rfl, hD6, hg6⟩
      have hGE : w.grownBy w6 (some d) := (below_grownBy (hB3.trans (hB35.mono hB3.size)) d).trans hg6
      clear HE HW T1
      go_wp2
      go_roundw
      case rel => exact .inr ⟨rfl, ⟨_, by rw [List.length_append, wrL_length]; omega, hD6⟩, hGE⟩
      case measure => simp [intOf]
    · go_wp2
      go_ret
      exact ⟨rfl, hDx, hGx⟩
end
end Go.Proofs.YtocnabpplbeafaaGreat
