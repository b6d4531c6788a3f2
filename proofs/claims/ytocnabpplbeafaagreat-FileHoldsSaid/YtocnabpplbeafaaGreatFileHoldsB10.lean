/- Texts that the proof of FileHolds leans on, part 10. -/
import Derived.Test.YtocnabpplbeafaaGreatFileHoldsB9
/- Regions that draw their order, walked by hand: what operations look at stands until the first of a list fs of operations, each of which waits for what is taken first. -/
namespace Go.Proofs.YtocnabpplbeafaaGreat
open Go Go.RowKit Lou
namespace RegM
section
variable {P : Program} {ops : Array Oper} {Q : Exit → Act → World → Prop} {md : Region.Mode} {S : World → Prop} {fs : List Nat}

def wpAnyM (P : Program) (md : Region.Mode) (ops : Array Oper) (Q : Exit → Act → World → Prop) (S : World → Prop) (fs : List Nat) : Nat → Array Bool → Act → World → Prop
  | 0, listed, a, w => Region.ready md ops listed = [] ∧ Q .normal a w
  | fuel + 1, listed, a, w =>
    (Region.ready md ops listed = [] → Q .normal a w) ∧
    ∀ i ∈ Region.ready md ops listed, wpOp P ops Q i (fun a' w' => (fs.contains i = false → S w') ∧ wpAnyM P md ops Q S fs fuel (listed.setIfInBounds i true) a' w') a w
theorem to_any : ∀ (fuel : Nat) (listed : Array Bool) (a : Act) (w : World), wpAnyM P md ops Q S fs fuel listed a w → wpAny P md ops Q fuel listed a w
  | 0, _, _, _, h => h
  | fuel + 1, _, _, _, h => ⟨h.1, fun i hi => wpOp_mono (fun a' w' h' => to_any fuel _ a' w' h'.2) (h.2 i hi)⟩
theorem first1 {i n : Nat} {oi : Oper} {v : Value} (hi : ops[i]? = some oi) (hsel : ∀ (j : Nat) (o : Oper) cs b, ops[j]? = some o → o.op ≠ .select cs b)
    (hQ : ∀ c a w, Q (.panic c) (a.put oi.dst v) w → Q (.panic c) a w) (hfin : (fs.all fun f => RegF.reach md ops n f i) = true) (hif : fs.contains i = false) :
    ∀ (fuel : Nat) (listed : Array Bool) (a : Act) (w : World), RegF.Closed md ops listed →
      (∀ j oj, ops[j]? = some oj → j ≠ i → listed.getD j true = false → (∀ e ∈ oj.after, Region.binds md e = true → e.on ≠ i) → oi.apart ops oj = true) →
      i ∈ Region.ready md ops listed → YieldsIf P ops S oi v a → S w →
      wpAnyM P md ops Q S fs fuel (listed.setIfInBounds i true) (a.put oi.dst v) w → wpAnyM P md ops Q S fs (fuel + 1) listed a w := by
  intro fuel
  induction fuel with
  | zero =>
    intro listed a w _ _ hr hy hS H
    refine ⟨fun h => (by rw [h] at hr; cases hr), fun j hj => ?_⟩
    by_cases hji : j = i
    · subst hji; exact hy.wpOp hi hS ⟨fun _ => hS, H⟩
    · have := ready_mono hj hji
      rw [H.1] at this
      cases this
  | succ fuel ih =>
    intro listed a w hcl hfree hr hy hS H
    refine ⟨fun h => (by rw [h] at hr; cases hr), fun j hj => ?_⟩
    by_cases hji : j = i
    · subst hji; exact hy.wpOp hi hS ⟨fun _ => hS, H⟩
    · have h1 := H.2 j (ready_mono hj hji)
      obtain ⟨hjun, oj, hoj, hall⟩ := mem_ready.1 hj
      have hnot : ∀ e ∈ oj.after, Region.binds md e = true → e.on ≠ i := fun e he hb heq => by
        have h1 := hall e he hb
        rw [heq, RegF.unlisted hr] at h1
        cases h1
      have hjf : fs.contains j = false := by
        cases h : fs.contains j with
        | false => rfl
        | true =>
          have := List.all_eq_true.1 hfin j (by simpa using h)
          exact absurd hj (RegF.not_ready hcl (RegF.unlisted hr) this)
      have h2 := wpOp_putIf hoj (hfree j oj hoj hji hjun hnot) (fun cs b => hsel i oi cs b hi) (fun cs b => hsel j oj cs b hoj) hQ hy h1
      have hfree' : ∀ k ok, ops[k]? = some ok → k ≠ i → (listed.setIfInBounds j true).getD k true = false →
          (∀ e ∈ ok.after, Region.binds md e = true → e.on ≠ i) → oi.apart ops ok = true := fun k ok hk hki hun hno => by
        refine hfree k ok hk hki ?_ hno
        by_cases hjk : j = k
        · subst hjk; exact hjun
        · rw [getD_set_ne true hjk] at hun; exact hun
      refine wpOp_mono (fun a' w' h3 => ⟨h3.2.1, ih (listed.setIfInBounds j true) a' w' (hcl.set hj) hfree' (ready_mono hr (Ne.symm hji)) h3.1 (h3.2.1 hjf) ?_⟩) h2
      rw [Array.setIfInBounds_comm _ _ hji]
      exact h3.2.2
theorem take1 {fuel : Nat} {listed : Array Bool} {a : Act} {w : World} (i : Nat) {oi : Oper} (v : Value) (hi : ops[i]? = some oi)
    (hs : Region.noSelect ops = true) (hf : Region.free md ops listed i = true) (hr : (Region.ready md ops listed).contains i = true) (hcl : RegF.closedB md ops listed = true) (hfin : (fs.all fun f => RegF.reach md ops 30 f i) = true) (hif : fs.contains i = false)
    (hQ : ∀ c a w, Q (.panic c) (a.put oi.dst v) w → Q (.panic c) a w) (hS : S w) (hy : YieldsIf P ops S oi v a)
    (h : wpAnyM P md ops Q S fs fuel (listed.setIfInBounds i true) (a.put oi.dst v) w) : wpAnyM P md ops Q S fs (fuel + 1) listed a w :=
  first1 hi (Region.noSelect_spec hs) hQ hfin hif fuel listed a w (RegF.closedB_spec hcl) (Region.free_spec hi hf) (by simpa using hr) hy hS h
theorem one {fuel : Nat} {listed : Array Bool} {a : Act} {w : World} (i : Nat) (hr : Region.ready md ops listed = [i])
    (h : wpOp P ops Q i (fun a' w' => (fs.contains i = false → S w') ∧ wpAnyM P md ops Q S fs fuel (listed.setIfInBounds i true) a' w') a w) : wpAnyM P md ops Q S fs (fuel + 1) listed a w :=
  ⟨fun h0 => (by rw [hr] at h0; cases h0), fun j hj => by
    rw [hr] at hj
    obtain rfl : j = i := by simpa using hj
    exact h⟩
theorem two {fuel : Nat} {listed : Array Bool} {a : Act} {w : World} (i j : Nat) (hr : Region.ready md ops listed = [i, j])
    (h1 : wpOp P ops Q i (fun a' w' => (fs.contains i = false → S w') ∧ wpAnyM P md ops Q S fs fuel (listed.setIfInBounds i true) a' w') a w)
    (h2 : wpOp P ops Q j (fun a' w' => (fs.contains j = false → S w') ∧ wpAnyM P md ops Q S fs fuel (listed.setIfInBounds j true) a' w') a w) : wpAnyM P md ops Q S fs (fuel + 1) listed a w :=
  ⟨fun h0 => (by rw [hr] at h0; cases h0), fun k hk => by
    rw [hr] at hk
    rcases List.mem_cons.1 hk with rfl | hk
    · exact h1
    · obtain rfl : k = j := by simpa using hk
      exact h2⟩
theorem done {fuel : Nat} {listed : Array Bool} {a : Act} {w : World} (hr : Region.ready md ops listed = []) (h : Q .normal a w) : wpAnyM P md ops Q S fs fuel listed a w := by
  cases fuel with
  | zero => exact ⟨hr, h⟩
  | succ n => exact ⟨fun _ => h, by rw [hr]; simp⟩
theorem start {id : Nat} {a : Act} {w : World} (S : World → Prop) (fs : List Nat) (hm : P.follows .mixedOrders = true) (h : wpAnyM P .any ops Q S fs ops.size (Array.replicate ops.size false) a w.drew) : (Code.region id ops true).wp P Q a w :=
  wp_region_any hm (to_any _ _ _ _ h)
theorem startR {id l m : Nat} {a : Act} {w : World} (S : World → Prop) (fs : List Nat) (hm : P.follows .mixedOrders = true) (hdf : noDefer ops = true) (h : wpAnyM P .any ops (NoOut Q) S fs ops.size (Array.replicate ops.size false) a w.drew) : (Code.region id ops true).wpIn (Fence.wide.inRound l) m P Q a w :=
  wpIn_mono (Q := NoOut Q) (wpIn_region_any hm (wpAny_inRound hdf _ _ _ _ (to_any _ _ _ _ h))) NoOut.imp
end
end RegM
end Go.Proofs.YtocnabpplbeafaaGreat
/- wal: Append where there is no room; a log that tells. -/
namespace Go.Proofs.YtocnabpplbeafaaGreat
open Go Go.RowKit Lou

set_option maxRecDepth 100000 in
set_option maxHeartbeats 8000000 in
theorem append_full (w : World) (l d : Nat) (fr pg : Int) (sr ep : Nat) (sz : Int) (A : Option Addr) (n0 c0 : Nat) (hlg : BlkIs w l 57 (lgC (some ⟨d, 0, none⟩) fr pg sr ep sz A n0 c0)) (hn0 : n0 ≤ 10000) (g o n c : Nat) (xs : Nat → Int × Option Addr × Nat) (h1 : 1 ≤ n) (hn : n ≤ 1000) (hx : PwIn w g o n xs) (hg : g < w.heap.size)
    (hp : ∀ k, k < n → plE (planOk fr pg) (xs k).1 pg = 0) (s : Int) (hs : 0 ≤ s) (hs2 : s ≤ pg) (hfr : fr < (n0 : Int) + (n : Int)) :
    Calls Tryz.prog 14 #[.pointer (some ⟨l, 0, none⟩), .int .i64 s, .slice (some ⟨g, o, none⟩) n c] w fun e w' => e = .returned (.int .i64 160) ∧ Below w.heap.size w w' := by
  have hB : Below w.heap.size w ((w.alloc (.cells #[.pointer (some ⟨l, 0, none⟩)] 33)).alloc (.cells #[.int .i64 s] 3)) := ((Below.refl _ w).alloc (Nat.le_refl _) _).alloc (by simp) _
  have b0 := (BlkIs.new w 33 #[.pointer (some ⟨l, 0, none⟩)]).alloc (.cells #[.int .i64 s] 3)
  have hlg0 := hlg.below hB hlg.lt
  have HN := lnone_gives hlg0
  have HR := lright_ok _ l _ fr pg sr ep sz A n0 c0 hlg0 g o n c xs h1 hn (hx.below hB hg) (by simp; omega) hp s hs hs2
  have hwa : IntKind.i64.wrap ((n0 : Int) + (n : Int)) = (n0 : Int) + (n : Int) := wrap_i64_fr _ (by omega) (by omega)
  clear hx hp
  go_enter Tryz.func14, Tryz.ntmps14
  go_wp2_with (first
    | (go_at_call 42; refine HN.mono ?_; rintro e w' ⟨rfl, rfl⟩)
    | (go_at_call 43; refine HR.mono ?_; rintro e w2 ⟨rfl, hB2⟩; have hlg2 := hlg0.below hB2 hlg0.lt; have b2 := b0.below hB2 b0.lt))
  have hS0 : Below w2.heap.size w2 w2.drew := (Below.refl _ _).drew
  have T0 : ∀ W, Below w2.heap.size w2 W → W.cell? ⟨w.heap.size, 0, none⟩ = some (.pointer (some ⟨l, 0, none⟩)) := fun W hW => (b2.below hW b2.lt).boxed
  have T6 : ∀ W, Below w2.heap.size w2 W → W.cell? ⟨l, 6, none⟩ = some (.slice A n0 c0) := fun W hW => by rw [(hlg2.below hW hlg2.lt).cell]; rfl
  have T1 : ∀ W, Below w2.heap.size w2 W → W.cell? ⟨l, 1, none⟩ = some (.int .i64 fr) := fun W hW => by rw [(hlg2.below hW hlg2.lt).cell]; rfl
  clear HN HR
  refine RegF.start (fun W => Below w2.heap.size w2 W) 99 (by kernel_rfl) ?_
  refine RegF.take0 0 (.pointer (some ⟨l, 0, none⟩)) rfl (by kernel_rfl) (by kernel_rfl) (by kernel_rfl) rfl (fun _ _ _ h => h) hS0 (RegF.yld rfl (fun W hW => by have q := T0 W hW; go_simp)) ?_
  simp only [List.getElem_toArray, List.getElem_cons_zero, Act.put, List.setIfInBounds_toArray, List.set_cons_zero, List.set_cons_succ]
  refine RegF.take0 1 (.pointer (some ⟨l, 0, none⟩)) rfl (by kernel_rfl) (by kernel_rfl) (by kernel_rfl) rfl (fun _ _ _ h => h) hS0 (RegF.yld rfl (fun W hW => by go_simp)) ?_
  simp only [List.getElem_toArray, List.getElem_cons_succ, List.getElem_cons_zero, Act.put, List.setIfInBounds_toArray, List.set_cons_zero, List.set_cons_succ]
  refine RegF.take0 2 (.pointer (some ⟨l, 6, none⟩)) rfl (by kernel_rfl) (by kernel_rfl) (by kernel_rfl) rfl (fun _ _ _ h => h) hS0 (RegF.yld rfl (fun W hW => by go_simp)) ?_
  simp only [List.getElem_toArray, List.getElem_cons_succ, List.getElem_cons_zero, Act.put, List.setIfInBounds_toArray, List.set_cons_zero, List.set_cons_succ]
  refine RegF.take0 3 (.slice A n0 c0) rfl (by kernel_rfl) (by kernel_rfl) (by kernel_rfl) rfl (fun _ _ _ h => h) hS0 (RegF.yld rfl (fun W hW => by have q := T6 W hW; go_simp)) ?_
  simp only [List.getElem_toArray, List.getElem_cons_succ, List.getElem_cons_zero, Act.put, List.setIfInBounds_toArray, List.set_cons_zero, List.set_cons_succ]
  refine RegF.take0 4 (.int .i64 (n0 : Int)) rfl (by kernel_rfl) (by kernel_rfl) (by kernel_rfl) rfl (fun _ _ _ h => h) hS0 (RegF.yld rfl (fun W hW => by go_simp)) ?_
  simp only [List.getElem_toArray, List.getElem_cons_succ, List.getElem_cons_zero, Act.put, List.setIfInBounds_toArray, List.set_cons_zero, List.set_cons_succ]
  refine RegF.take0 5 (.slice (some ⟨g, o, none⟩) n c) rfl (by kernel_rfl) (by kernel_rfl) (by kernel_rfl) rfl (fun _ _ _ h => h) hS0 (RegF.yld rfl (fun W hW => by go_simp)) ?_
  simp only [List.getElem_toArray, List.getElem_cons_succ, List.getElem_cons_zero, Act.put, List.setIfInBounds_toArray, List.set_cons_zero, List.set_cons_succ]
  refine RegF.take0 6 (.int .i64 (n : Int)) rfl (by kernel_rfl) (by kernel_rfl) (by kernel_rfl) rfl (fun _ _ _ h => h) hS0 (RegF.yld rfl (fun W hW => by go_simp)) ?_
  simp only [List.getElem_toArray, List.getElem_cons_succ, List.getElem_cons_zero, Act.put, List.setIfInBounds_toArray, List.set_cons_zero, List.set_cons_succ]
  refine RegF.take0 7 (.int .i64 ((n0 : Int) + (n : Int))) rfl (by kernel_rfl) (by kernel_rfl) (by kernel_rfl) rfl (fun _ _ _ h => h) hS0 (RegF.yld rfl (fun W hW => by go_simp)) ?_
  simp only [List.getElem_toArray, List.getElem_cons_succ, List.getElem_cons_zero, Act.put, List.setIfInBounds_toArray, List.set_cons_zero, List.set_cons_succ]
  refine RegF.take0 8 (.pointer (some ⟨l, 0, none⟩)) rfl (by kernel_rfl) (by kernel_rfl) (by kernel_rfl) rfl (fun _ _ _ h => h) hS0 (RegF.yld rfl (fun W hW => by have q := T0 W hW; go_simp)) ?_
  simp only [List.getElem_toArray, List.getElem_cons_succ, List.getElem_cons_zero, Act.put, List.setIfInBounds_toArray, List.set_cons_zero, List.set_cons_succ]
  refine RegF.take0 9 (.pointer (some ⟨l, 0, none⟩)) rfl (by kernel_rfl) (by kernel_rfl) (by kernel_rfl) rfl (fun _ _ _ h => h) hS0 (RegF.yld rfl (fun W hW => by go_simp)) ?_
  simp only [List.getElem_toArray, List.getElem_cons_succ, List.getElem_cons_zero, Act.put, List.setIfInBounds_toArray, List.set_cons_zero, List.set_cons_succ]
  refine RegF.take0 10 (.pointer (some ⟨l, 0, none⟩)) rfl (by kernel_rfl) (by kernel_rfl) (by kernel_rfl) rfl (fun _ _ _ h => h) hS0 (RegF.yld rfl (fun W hW => by go_simp)) ?_
  simp only [List.getElem_toArray, List.getElem_cons_succ, List.getElem_cons_zero, Act.put, List.setIfInBounds_toArray, List.set_cons_zero, List.set_cons_succ]
  refine RegF.take0 11 (.pointer (some ⟨l, 1, none⟩)) rfl (by kernel_rfl) (by kernel_rfl) (by kernel_rfl) rfl (fun _ _ _ h => h) hS0 (RegF.yld rfl (fun W hW => by go_simp)) ?_
  simp only [List.getElem_toArray, List.getElem_cons_succ, List.getElem_cons_zero, Act.put, List.setIfInBounds_toArray, List.set_cons_zero, List.set_cons_succ]
  refine RegF.take0 12 (.pointer (some ⟨l, 1, none⟩)) rfl (by kernel_rfl) (by kernel_rfl) (by kernel_rfl) rfl (fun _ _ _ h => h) hS0 (RegF.yld rfl (fun W hW => by go_simp)) ?_
  simp only [List.getElem_toArray, List.getElem_cons_succ, List.getElem_cons_zero, Act.put, List.setIfInBounds_toArray, List.set_cons_zero, List.set_cons_succ]
  refine RegF.take0 13 (.int .i64 fr) rfl (by kernel_rfl) (by kernel_rfl) (by kernel_rfl) rfl (fun _ _ _ h => h) hS0 (RegF.yld rfl (fun W hW => by have q := T1 W hW; go_simp)) ?_
  simp only [List.getElem_toArray, List.getElem_cons_succ, List.getElem_cons_zero, Act.put, List.setIfInBounds_toArray, List.set_cons_zero, List.set_cons_succ]
  refine RegF.one 14 (by kernel_rfl) (RegF.opV (w' := w2.drew) (.bool true) rfl rfl (by go_simp) ⟨fun _ => hS0, ?_⟩)
  simp only [List.getElem_toArray, List.getElem_cons_succ, List.getElem_cons_zero, Act.put, List.setIfInBounds_toArray, List.set_cons_zero, List.set_cons_succ]
  refine RegF.one 15 (by kernel_rfl) (RegF.opV (w' := w2.drew) (.bool true) rfl rfl (by go_simp) ⟨fun _ => hS0, RegF.done (by kernel_rfl) ?_⟩)
  simp only [List.getElem_toArray, List.getElem_cons_succ, List.getElem_cons_zero, Act.put, List.setIfInBounds_toArray, List.set_cons_zero, List.set_cons_succ]
  clear T0 T6 T1
  go_wp2
  go_ret
  exact ⟨rfl, hB.trans ((hB2.mono hB.size).trans (hS0.mono (Nat.le_trans hB.size hB2.size)))⟩
end Go.Proofs.YtocnabpplbeafaaGreat
/- wal: what Append does, thing by thing. -/
namespace Go.Proofs.YtocnabpplbeafaaGreat
open Go Go.RowKit Lou

section
variable (w : World) (l d many lb mb : Nat) (g : Nat → List UInt8) (xs : List (Nat × List UInt8)) (left : Int) (fr pg : Int) (sr ep : Nat) (sz : Int)
set_option maxRecDepth 100000 in
set_option maxHeartbeats 8000000 in
theorem app3_gives (szb : Nat) (D : Option Addr) (A : Option Addr) (n c : Nat) (Am : Option Addr) (nm cm : Nat) (s : Int) (hlg : BlkIs w l 57 (lgC D fr pg sr ep sz A n c)) (hlb : BlkIs w lb 33 #[.pointer (some ⟨l, 0, none⟩)]) (hmb : BlkIs w mb 55 #[.slice Am nm cm]) (hsb : BlkIs w szb 3 #[.int .i64 s]) (n1 : l ≠ lb) (n2 : l ≠ mb) (n3 : l ≠ szb) :
    Calls Tryz.prog 54 #[.pointer (some ⟨mb, 0, none⟩), .pointer (some ⟨szb, 0, none⟩), .pointer (some ⟨lb, 0, none⟩)] w fun e w' => e = .returned (.int .i64 0) ∧ w' = (w.drew.setCell ⟨l, 6, none⟩ (.slice Am nm cm)).setCell ⟨l, 5, none⟩ (.int .i64 s) ∧ BlkIs w' l 57 (lgC D fr pg sr ep s Am nm cm) := by
  have g6 : w.cell? ⟨l, 6, none⟩ = some (.slice A n c) := by rw [hlg.cell]; rfl
  have g5 : w.cell? ⟨l, 5, none⟩ = some (.int .i64 sz) := by rw [hlg.cell]; rfl
  have f6 := hlg.free 6
  have f5 := hlg.free 5
  have hl1 := hlg.drew.set 6 (.slice Am nm cm)
  have hS0 : BlkIs w.drew lb 33 #[.pointer (some ⟨l, 0, none⟩)] ∧ BlkIs w.drew mb 55 #[.slice Am nm cm] ∧ BlkIs w.drew szb 3 #[.int .i64 s] := ⟨hlb.drew, hmb.drew, hsb.drew⟩
  have hS1 : BlkIs (w.drew.setCell ⟨l, 6, none⟩ (.slice Am nm cm)) lb 33 #[.pointer (some ⟨l, 0, none⟩)] ∧ BlkIs (w.drew.setCell ⟨l, 6, none⟩ (.slice Am nm cm)) mb 55 #[.slice Am nm cm] ∧ BlkIs (w.drew.setCell ⟨l, 6, none⟩ (.slice Am nm cm)) szb 3 #[.int .i64 s] :=
    ⟨hlb.drew.other (fun e => n1 e.symm) _, hmb.drew.other (fun e => n2 e.symm) _, hsb.drew.other (fun e => n3 e.symm) _⟩
  have g5' : (w.drew.setCell ⟨l, 6, none⟩ (.slice Am nm cm)).cell? ⟨l, 5, none⟩ = some (.int .i64 sz) := by rw [hl1.cell]; rfl
  have f5' := hl1.free 5
  go_enter Tryz.func54, Tryz.ntmps54
  go_wp2_with fail
  refine RegF.start (fun W => BlkIs W lb 33 #[.pointer (some ⟨l, 0, none⟩)] ∧ BlkIs W mb 55 #[.slice Am nm cm] ∧ BlkIs W szb 3 #[.int .i64 s]) 9 (by kernel_rfl) ?_
  refine RegF.take 0 (.pointer (some ⟨l, 0, none⟩)) rfl (by kernel_rfl) (by kernel_rfl) (by kernel_rfl) (by kernel_rfl) (fun _ _ _ h => h) hS0 (RegF.yld rfl (fun W hW => by obtain ⟨q1, q2, q3⟩ := hW; have q := q1.boxed; go_simp)) ?_
  simp only [List.getElem_toArray, List.getElem_cons_zero, Act.put, List.setIfInBounds_toArray, List.set_cons_zero, List.set_cons_succ]
  refine RegF.take 1 (.pointer (some ⟨l, 0, none⟩)) rfl (by kernel_rfl) (by kernel_rfl) (by kernel_rfl) (by kernel_rfl) (fun _ _ _ h => h) hS0 (RegF.yld rfl (fun W hW => by obtain ⟨q1, q2, q3⟩ := hW; have q := q1.boxed; go_simp)) ?_
  simp only [List.getElem_toArray, List.getElem_cons_succ, List.getElem_cons_zero, Act.put, List.setIfInBounds_toArray, List.set_cons_zero, List.set_cons_succ]
  refine RegF.take 2 (.slice Am nm cm) rfl (by kernel_rfl) (by kernel_rfl) (by kernel_rfl) (by kernel_rfl) (fun _ _ _ h => h) hS0 (RegF.yld rfl (fun W hW => by obtain ⟨q1, q2, q3⟩ := hW; have q := q2.boxed; go_simp)) ?_
  simp only [List.getElem_toArray, List.getElem_cons_succ, List.getElem_cons_zero, Act.put, List.setIfInBounds_toArray, List.set_cons_zero, List.set_cons_succ]
  refine RegF.take 3 (.int .i64 s) rfl (by kernel_rfl) (by kernel_rfl) (by kernel_rfl) (by kernel_rfl) (fun _ _ _ h => h) hS0 (RegF.yld rfl (fun W hW => by obtain ⟨q1, q2, q3⟩ := hW; have q := q3.boxed; go_simp)) ?_
  simp only [List.getElem_toArray, List.getElem_cons_succ, List.getElem_cons_zero, Act.put, List.setIfInBounds_toArray, List.set_cons_zero, List.set_cons_succ]
  refine RegF.one 4 (by kernel_rfl) (RegF.opV (w' := w.drew) (.pointer (some ⟨l, 0, none⟩)) rfl rfl (by go_simp) ⟨fun _ => hS0, ?_⟩)
  simp only [List.getElem_toArray, List.getElem_cons_succ, List.getElem_cons_zero, Act.put, List.setIfInBounds_toArray, List.set_cons_zero, List.set_cons_succ]
  refine RegF.one 5 (by kernel_rfl) (RegF.opV (w' := w.drew) (.pointer (some ⟨l, 6, none⟩)) rfl rfl (by go_simp) ⟨fun _ => hS0, ?_⟩)
  simp only [List.getElem_toArray, List.getElem_cons_succ, List.getElem_cons_zero, Act.put, List.setIfInBounds_toArray, List.set_cons_zero, List.set_cons_succ]
  refine RegF.one 6 (by kernel_rfl) (RegF.opS (w' := w.drew.setCell ⟨l, 6, none⟩ (.slice Am nm cm)) rfl rfl (by go_simp) ⟨fun _ => hS1, ?_⟩)
  simp only [List.getElem_toArray, List.getElem_cons_succ, List.getElem_cons_zero, Act.put]
  refine RegF.one 7 (by kernel_rfl) (RegF.opV (w' := w.drew.setCell ⟨l, 6, none⟩ (.slice Am nm cm)) (.pointer (some ⟨l, 0, none⟩)) rfl rfl (by go_simp) ⟨fun _ => hS1, ?_⟩)
  simp only [List.getElem_toArray, List.getElem_cons_succ, List.getElem_cons_zero, Act.put, List.setIfInBounds_toArray, List.set_cons_zero, List.set_cons_succ]
  refine RegF.one 8 (by kernel_rfl) (RegF.opV (w' := w.drew.setCell ⟨l, 6, none⟩ (.slice Am nm cm)) (.pointer (some ⟨l, 5, none⟩)) rfl rfl (by go_simp) ⟨fun _ => hS1, ?_⟩)
  simp only [List.getElem_toArray, List.getElem_cons_succ, List.getElem_cons_zero, Act.put, List.setIfInBounds_toArray, List.set_cons_zero, List.set_cons_succ]
  refine RegF.one 9 (by kernel_rfl) (RegF.opS (w' := (w.drew.setCell ⟨l, 6, none⟩ (.slice Am nm cm)).setCell ⟨l, 5, none⟩ (.int .i64 s)) rfl rfl (by go_simp) ⟨fun h => absurd rfl h, RegF.done (by kernel_rfl) ?_⟩)
  simp only [List.getElem_toArray, List.getElem_cons_succ, List.getElem_cons_zero, Act.put]
  clear hS0 hS1
  go_wp2
  go_ret
  exact ⟨rfl, rfl, hl1.set 5 (.int .i64 s)⟩
end
end Go.Proofs.YtocnabpplbeafaaGreat
/- loupelaw05: num, works. -/
namespace Go.Proofs.YtocnabpplbeafaaGreat
open Go Go.RowKit Lou

theorem rowPlan : RowTy Tryz.prog 23 2 := ⟨⟨_, Tryz.underlying23, rfl⟩, by kernel_rfl⟩
def head12 : List UInt8 := [0, 0, 0, 0, 0, 0, 0, 1, 0, 0, 0, 0, 0, 0, 0, 2, 0, 0, 0, 0, 0, 0, 0, 0]
end Go.Proofs.YtocnabpplbeafaaGreat
/- loupelaw05.FrameHolds: the walk. -/
namespace Go.Proofs.YtocnabpplbeafaaGreat
open Go Go.RowKit Lou

theorem frameB_length {e i p : Nat} {f : Bool} {z n : Nat} {y : List UInt8} (hy : y.length = 512) : (frameB (partB e i p f z n) y).length = 576 := by
  simp [frameB, sectB_length, partB_length]; omega
section
variable (e : Nat) (i p : Int) (f : Bool) (z : Int) (n : Nat) (A : Option Addr) (k : Nat) (y : List UInt8) (s e' : Nat) (z' c' : Int) (x0 x1 : Int) (w : World)
end
end Go.Proofs.YtocnabpplbeafaaGreat
namespace Go.Proofs.YtocnabpplbeafaaGreat
open Go Go.RowKit Lou

namespace Reg
variable {L : List (Nat × Fact)} {ops : Array Oper} {w0 : World} {o : Oper}
end Reg

section
variable (e : Nat) (i p : Int) (f : Bool) (z : Int) (n : Nat) (A : Option Addr) (k : Nat) (y : List UInt8) (s e' : Nat) (z' c' : Int) (w : World) (X Y : List UInt8)
end
end Go.Proofs.YtocnabpplbeafaaGreat
namespace Go.Proofs.YtocnabpplbeafaaGreat
open Go Go.RowKit Lou

end Go.Proofs.YtocnabpplbeafaaGreat
/- wal: Append writes its frames: one. -/
namespace Go.Proofs.YtocnabpplbeafaaGreat
open Go Go.RowKit Lou

section
variable (w : World) (l d many lb mb : Nat) (g : Nat → List UInt8) (xs : List (Nat × List UInt8)) (left : Int) (fr pg : Int) (sr ep : Nat) (sz : Int)
end
end Go.Proofs.YtocnabpplbeafaaGreat
/- wal: the things that Append of one page does, one behind the other. -/
namespace Go.Proofs.YtocnabpplbeafaaGreat
open Go Go.RowKit Lou

section
variable (w : World) (l d many lb mb szb : Nat) (g : Nat → List UInt8) (xs : List (Nat × List UInt8)) (left : Int) (fr pg : Int) (sr ep : Nat) (sz : Int)
def apFs (lb mb szb d : Nat) : List FnV := [⟨48, #[], #[.pointer (some ⟨mb, 0, none⟩), .pointer (some ⟨lb, 0, none⟩)]⟩, ⟨52, #[.pointer (some ⟨d, 0, none⟩)], #[]⟩, ⟨53, #[], #[.pointer (some ⟨lb, 0, none⟩), .pointer (some ⟨mb, 0, none⟩)]⟩, ⟨54, #[], #[.pointer (some ⟨mb, 0, none⟩), .pointer (some ⟨szb, 0, none⟩), .pointer (some ⟨lb, 0, none⟩)]⟩]
def apCs (lb mb szb d : Nat) : Array Value := #[.func (.func 48) #[] #[.pointer (some ⟨mb, 0, none⟩), .pointer (some ⟨lb, 0, none⟩)], .func (.func 52) #[.pointer (some ⟨d, 0, none⟩)] #[], .func (.func 53) #[] #[.pointer (some ⟨lb, 0, none⟩), .pointer (some ⟨mb, 0, none⟩)], .func (.func 54) #[] #[.pointer (some ⟨mb, 0, none⟩), .pointer (some ⟨szb, 0, none⟩), .pointer (some ⟨lb, 0, none⟩)]]
end
end Go.Proofs.YtocnabpplbeafaaGreat
/- wal: Append of one page to a log without frames. -/
namespace Go.Proofs.YtocnabpplbeafaaGreat
open Go Go.RowKit Lou

theorem pw_one (p : Int) (A : Option Addr) (n c : Nat) : ∀ v ∈ (#[.int .i64 p, .slice A n c] : Array Value).toList, v.oneCell' = true := by
  intro v hv
  simp at hv
  rcases hv with rfl | rfl <;> rfl
theorem x_storeR {P : Program} {w : World} {ρ : Operand → Value} {o : Oper} (T : TypeId) (x y : Operand) (ho : o.op = .store T x y) (g : Nat) {t : TypeId} {cs cs' : Array Value} (hx : ρ x = .pointer (some ⟨g, 0, none⟩)) (hy : ρ y = .agg cs') {n : Nat} (hT : RowTy P T n) (hb : BlkIs w g t cs) (hn : cs.size = n)
    (hs : cs'.size = cs.size) (h1 : ∀ v ∈ cs'.toList, v.oneCell' = true) : (execOp ρ o).run P w = .ok .skip (w.setRow g cs') := by
  unfold execOp
  simp only [ho, hx, hy, Instr.storeAt, Instr.sureAddr, Sem.run_bind, Sem.run_pure, Result.andThen_ok, run_storeW (hn ▸ hT) hb hs h1]
theorem zf_no (o : Nat) (x : UInt8) : (#[.int .u64 0, .int .i64 0, .int .i64 0, .bool false, .int .i64 0, .int .u32 0, .slice none 0 0] : Array Value)[o]? ≠ some (b8 x) := by
  match o with
  | 0 => simp [b8]
  | 1 => simp [b8]
  | 2 => simp [b8]
  | 3 => simp [b8]
  | 4 => simp [b8]
  | 5 => simp [b8]
  | 6 => simp [b8]
  | n + 7 => simp
theorem x_sliceFr {w : World} {ρ : Operand → Value} {o : Oper} {x : Operand} (FC : Array Value) (h7 : FC.size = 7) (ho : o.op = .buildSlice 55 1 #[(0, x)]) (h1 : ρ x = .agg FC) : (execOp ρ o).run Tryz.prog w = .ok (.value (.slice (some ⟨w.heap.size, 0, none⟩) 1 1)) (w.alloc (.cells FC 97)) := by
  obtain ⟨l, rfl⟩ : ∃ l : List Value, FC = l.toArray := ⟨FC.toList, by simp⟩
  have hl : l.length = 7 := by simpa using h7
  have key := fun arr hs => fold0 l arr hs
  rw [hl] at key
  simp [execOp, ho, h1, go_sem, Result.andThen, hl, key]
theorem elFrame : ElT 55 97 7 72 (.agg zeroFr) := ⟨Tryz.underlying55, by kernel_rfl, by kernel_rfl, by decide⟩
def Q3 (F : Nat → Option Addr → Nat → World → Prop) (a : Nat → Option Addr → Nat → Act) : Exit → Act → World → Prop
  | .normal, b, w' => ∃ q A c, F q A c w' ∧ b = a q A c
  | _, _, _ => False
theorem wp_stop3 {P : Program} {C : Code} {Q : Exit → Act → World → Prop} {a0 : Act} {w0 : World} (F : Nat → Option Addr → Nat → World → Prop) (a : Nat → Option Addr → Nat → Act) (h1 : C.wp P (Q3 F a) a0 w0) (h2 : ∀ q A c w', F q A c w' → Q .normal (a q A c) w') : C.wp P Q a0 w0 :=
  wp_mono h1 fun e b w' h => by
    cases e with
    | normal =>
      obtain ⟨q, A, c, hf, rfl⟩ := h
      exact h2 q A c w' hf
    | _ => exact h.elim
section
variable (w : World) (l d many : Nat) (gD : Nat → List UInt8) (xs : List (Nat × List UInt8)) (left : Int) (fr pg : Int) (sr ep : Nat) (sz : Int)
end
end Go.Proofs.YtocnabpplbeafaaGreat
/- A disk's state, step by step, in plain words. -/
namespace Go.Proofs.YtocnabpplbeafaaGreat
open Go Go.RowKit Lou

structure DS where
  g : Nat → List UInt8
  xs : List (Nat × List UInt8)
  left : Int
  st : Bool
abbrev DkS (w : World) (d many : Nat) (s : DS) : Prop := DkIs w d many s.g s.xs s.left s.st
def DS.stopped (s : DS) : Bool := s.st && s.left == 0
def DS.push (s : DS) (x : Nat × List UInt8) : DS := ⟨s.g, s.xs ++ [x], lft s.st s.left, s.st⟩
/-- Writes, one behind the other, until one isn't carried out; an error. -/
def wrs : DS → List (Nat × List UInt8) → DS × Int
  | s, [] => (s, 0)
  | s, x :: r => if s.stopped then (s, 140) else wrs (s.push x) r
def synD (s : DS) : DS × Int := if s.stopped then (s, 140) else (⟨laid s.g s.xs, [], lft s.st s.left, s.st⟩, 0)
/-- What a state may be. -/
structure DS.Ok (s : DS) : Prop where
  lo : -1000000 ≤ s.left
  hi : s.left ≤ 9223372036854775807
  pos : s.st = true → 0 ≤ s.left
theorem DS.Ok.lft {s : DS} (h : s.Ok) (hs : s.stopped = false) : -1000000 ≤ lft s.st s.left ∧ lft s.st s.left ≤ 9223372036854775807 ∧ (s.st = true → 0 ≤ lft s.st s.left) := by
  obtain ⟨g, xs, left, st⟩ := s
  obtain ⟨h1, h2, h3⟩ := h
  unfold Proofs.YtocnabpplbeafaaGreat.lft
  simp only [DS.stopped] at *
  cases st
  · simp; omega
  · simp at hs h3 ⊢
    omega
theorem DS.Ok.push {s : DS} (h : s.Ok) (hs : s.stopped = false) (x : Nat × List UInt8) : (s.push x).Ok := by
  obtain ⟨h1, h2, h3⟩ := h.lft hs
  exact ⟨h1, h2, h3⟩
theorem DS.Ok.syn {s : DS} (h : s.Ok) : (synD s).1.Ok := by
  unfold synD
  cases hs : s.stopped
  · obtain ⟨h1, h2, h3⟩ := h.lft hs
    exact ⟨h1, h2, h3⟩
  · exact h
theorem DS.Ok.wrs : ∀ {l : List (Nat × List UInt8)} {s : DS}, s.Ok → (wrs s l).1.Ok
  | [], s, h => h
  | x :: r, s, h => by
    unfold Proofs.YtocnabpplbeafaaGreat.wrs
    cases hs : s.stopped
    · exact DS.Ok.wrs (h.push hs x)
    · exact h
theorem wrs_cons_ok {s : DS} (hs : s.stopped = false) (x : Nat × List UInt8) (r : List (Nat × List UInt8)) : wrs s (x :: r) = wrs (s.push x) r := by simp [wrs, hs]
theorem wrs_cons_bad {s : DS} (hs : s.stopped = true) (x : Nat × List UInt8) (r : List (Nat × List UInt8)) : wrs s (x :: r) = (s, 140) := by simp [wrs, hs]
theorem wrs_append : ∀ (a b : List (Nat × List UInt8)) (s : DS), wrs s (a ++ b) = if (wrs s a).2 = 0 then wrs (wrs s a).1 b else wrs s a
  | [], b, s => by simp [wrs]
  | x :: r, b, s => by
    rw [List.cons_append]
    cases hs : s.stopped
    · rw [wrs_cons_ok hs, wrs_cons_ok hs, wrs_append r b]
    · rw [wrs_cons_bad hs, wrs_cons_bad hs]
      simp
theorem wrs_err : ∀ (l : List (Nat × List UInt8)) (s : DS), (wrs s l).2 = 0 ∨ (wrs s l).2 = 140
  | [], s => .inl rfl
  | x :: r, s => by
    cases hs : s.stopped
    · rw [wrs_cons_ok hs]; exact wrs_err r _
    · rw [wrs_cons_bad hs]; exact .inr rfl
theorem wrs_len : ∀ (l : List (Nat × List UInt8)) (s : DS), (wrs s l).1.xs.length ≤ s.xs.length + l.length
  | [], s => by simp [wrs]
  | x :: r, s => by
    cases hs : s.stopped
    · rw [wrs_cons_ok hs]
      have := wrs_len r (s.push x)
      have e : (s.push x).xs.length = s.xs.length + 1 := by simp [DS.push]
      rw [e] at this
      rw [List.length_cons]
      omega
    · rw [wrs_cons_bad hs]
      simp
theorem wrs_g : ∀ (l : List (Nat × List UInt8)) (s : DS), (wrs s l).1.g = s.g ∧ (wrs s l).1.st = s.st
  | [], s => ⟨rfl, rfl⟩
  | x :: r, s => by
    cases hs : s.stopped
    · rw [wrs_cons_ok hs]; exact wrs_g r (s.push x)
    · rw [wrs_cons_bad hs]; exact ⟨rfl, rfl⟩
theorem wrL_drop (at_ : Nat) (b : List UInt8) (m k : Nat) (hk : k < m) : (wrL at_ b m).drop k = (at_ + k, chunkB b k) :: (wrL at_ b m).drop (k + 1) := by
  have hl : k < (wrL at_ b m).length := by rw [wrL_length]; exact hk
  rw [List.drop_eq_getElem_cons hl]
  simp [wrL]
theorem wrL_drop_all (at_ : Nat) (b : List UInt8) (m : Nat) : (wrL at_ b m).drop m = [] := List.drop_eq_nil_of_le (by rw [wrL_length]; exact Nat.le_refl _)
end Go.Proofs.YtocnabpplbeafaaGreat
/- wal: writing sectors to a log's disk, whatever stop is set. -/
namespace Go.Proofs.YtocnabpplbeafaaGreat
open Go Go.RowKit Lou Go.Shelf
attribute [local go_sem] Oper.semAt_some

set_option maxRecDepth 100000 in
set_option maxHeartbeats 8000000 in
theorem wwriteS_in (n : Nat) (hn : 8 ≤ n) (w : World) (l d many : Nat) (s : DS) (hD : DkS w d many s) (hO : s.Ok) (hl : s.xs.length ≤ 900000)
    (hc : w.cell? ⟨l, 0, none⟩ = some (.pointer (some ⟨d, 0, none⟩))) (hld : l ≠ d) (hll : l < w.heap.size) (at_ m : Nat) (A : Option Addr) (c : Nat) (b : List UInt8) (hin : InB w w.heap.size A c b) (hbl : b.length = 64 * m) (hm : m ≤ 16) (ham : at_ + m ≤ many) (hmax : many ≤ 1000000) :
    CallsIn Fence.wide n Tryz.prog 51 #[.pointer (some ⟨l, 0, none⟩), .int .i64 (at_ : Int), .slice A b.length c] w fun e w' => e = .returned (.int .i64 (wrs s (wrL at_ b m)).2) ∧ DkS w' d many (wrs s (wrL at_ b m)).1 ∧ w.grownBy w' (some d) := by
  have h1 : 1 ≤ n := by omega
  have hdl := hD.lt
  have b0 := ((BlkIs.new w 143 #[.pointer (some ⟨l, 0, none⟩)]).alloc (.cells #[.int .i64 (at_ : Int)] 3)).alloc (.cells #[.int .i64 0] 29)
  have b1 := (BlkIs.new (w.alloc (.cells #[.pointer (some ⟨l, 0, none⟩)] 143)) 3 #[.int .i64 (at_ : Int)]).alloc (.cells #[.int .i64 0] 29)
  have b2 := BlkIs.new ((w.alloc (.cells #[.pointer (some ⟨l, 0, none⟩)] 143)).alloc (.cells #[.int .i64 (at_ : Int)] 3)) 29 #[.int .i64 0]
  rw [World.size_alloc] at b1
  rw [World.size_alloc, World.size_alloc] at b2
  have hB0 : Below w.heap.size w (((w.alloc (.cells #[.pointer (some ⟨l, 0, none⟩)] 143)).alloc (.cells #[.int .i64 (at_ : Int)] 3)).alloc (.cells #[.int .i64 0] 29)) :=
    (((Below.refl _ w).alloc (Nat.le_refl _) _).alloc (by simp) _).alloc (by simp; omega) _
  have HC := cut_gives _ A c b ((hin.below hB0).more hB0.size) (by omega)
  have HBL := Lib.hid hbl
  have hb9 : b.length ≤ 1024 := by omega
  clear hbl
  refine callsIn_of_wp_marks Tryz.func51 rfl trivial ?_ rfl
  simp only [Tryz.ntmps51, List.size_toArray, List.length_cons, List.length_nil, Nat.reduceAdd, Nat.reduceSub, Array.replicate_succ, Array.replicate_zero, List.push_toArray, List.append_toArray, List.nil_append, List.cons_append]
  gi_wp2_with (refine ⟨trivial, ?_⟩; gi_at_call 91; refine (callsIn_wide.2 HC).mono ?_; rintro e W4 ⟨gB, A2, c2, rfl, hgb, hin2, hB4⟩)
  obtain ⟨hBw⟩ : Nonempty (Below w.heap.size w W4) := ⟨hB0.trans (hB4.mono hB0.size)⟩
  have hsz0 : w.heap.size + 3 ≤ W4.heap.size := by have := hB4.size; simp at this; omega
  have hD4 := hD.grow hBw
  have c0 := b0.below hB4 b0.lt
  have c1 := b1.below hB4 b1.lt
  have c2' := b2.below hB4 b2.lt
  have hc4 : W4.cell? ⟨l, 0, none⟩ = some (.pointer (some ⟨d, 0, none⟩)) := (hBw.cell (p := ⟨l, 0, none⟩) hll).trans hc
  have hG4 : w.grownBy W4 (some d) := ⟨hBw.os, hBw.tape, hBw.output, hBw.size, fun k hk _ => hBw.block k hk⟩
  have hMu : 0 < b.length → ∀ g o, A2 = some ⟨g, o, none⟩ → ¬ g = d := fun h0 g o e => by
    subst e
    obtain ⟨r, A', c', hb, _⟩ := hD4.has
    exact hin2.notDisk h0 hb
  clear b0 b1 b2 hB0 HC hD hc hin hB4
  · refine wpIn_rangeFunc_S rfl h1 (gf := 120) (lb := #[.pointer (some ⟨gB, 0, none⟩)]) rfl trivial (enters_of Tryz.func120 (by kernel_rfl) rfl)
      (cut1_seqS (n₀ := W4.heap.size) (n - 1) (by omega) gB A2 c2 b (by omega) (fun k => k = d) hMu W4 hgb.lt (Nat.le_refl _) hgb.boxed hin2) (Below.refl _ _) (fun _ => rfl)
      (fun pre V => (∃ s' : DS, DkS V d many s' ∧ s'.Ok ∧ s'.xs.length ≤ s.xs.length + pre.length ∧ wrs s (wrL at_ b m) = wrs s' ((wrL at_ b m).drop pre.length)) ∧ BlkIs V w.heap.size 143 #[.pointer (some ⟨l, 0, none⟩)] ∧ BlkIs V (w.heap.size + 1) 3 #[.int .i64 (at_ : Int)] ∧ BlkIs V (w.heap.size + 1 + 1) 29 #[.int .i64 0] ∧ V.cell? ⟨l, 0, none⟩ = some (.pointer (some ⟨d, 0, none⟩)) ∧ w.grownBy V (some d) ∧ W4.heap.size ≤ V.heap.size)
      (fun c _ V => c = .ret ∧ DkS V d many (wrs s (wrL at_ b m)).1 ∧ (wrs s (wrL at_ b m)).2 = 140 ∧ BlkIs V (w.heap.size + 1 + 1) 29 #[.int .i64 140] ∧ w.grownBy V (some d) ∧ W4.heap.size ≤ V.heap.size)
      ?own ?own2 ?ownR ⟨⟨s, hD4, hO, Nat.le_add_right _ _, rfl⟩, c0, c1, c2', hc4, hG4, Nat.le_refl _⟩ ?act ?assign ?body ?done ?stop
    case own =>
      rintro pre X Y row ⟨⟨s', i1, io⟩, i2, i3, i4, i5, i6, i7⟩ hgr hr
      have hr1 : ∀ r, row = some r → W4.heap.size ≤ r := fun r e => (hr r e).1
      exact ⟨⟨s', i1.abSm (B := W4.heap.size) (by omega) hgr hr, io⟩, i2.abN (B := W4.heap.size) (by omega) hgr hr1, i3.abN (B := W4.heap.size) (by omega) hgr hr1, i4.abN (B := W4.heap.size) (by omega) hgr hr1, cell_grown i5 hgr (by simp; omega) (fun e => by have := hr1 _ e.symm; simp at this; omega), grownBy_rest i6 hgr (by omega) hr1, Nat.le_trans i7 hgr.size⟩
    case own2 =>
      rintro c pre X Y row ⟨e1, i1, e2, i4, i6, i7⟩ hgr hr
      have hr1 : ∀ r, row = some r → W4.heap.size ≤ r := fun r e => (hr r e).1
      exact ⟨e1, i1.abSm (B := W4.heap.size) (by omega) hgr hr, e2, i4.abN (B := W4.heap.size) (by omega) hgr hr1, grownBy_rest i6 hgr (by omega) hr1, Nat.le_trans i7 hgr.size⟩
    case ownR =>
      rintro pre x _ X Y row ⟨e1, e2, e3⟩ hgr hr
      exact ⟨e1, e2, InB.ownFrom (B := W4.heap.size) _ _ _ () X Y row e3 hgr hr⟩
    case assign =>
      intro l1 x V K hK
      simp only [cutEnc]
      gi_wp2
      exact hK
    case body =>
      rintro l1 pre ⟨x1, A6, c6⟩ V ⟨⟨s', i1, io, il, ie⟩, i2, i3, i4, i5, i6, i7⟩ ⟨hx1, hx2, hx3⟩
      simp only at hx1 hx2 hx3
      subst hx1
      have hbl := HBL.out
      have hk : pre.length < m := by omega
      have hch : chLen b.length pre.length = 64 := by unfold chLen; omega
      have hcl : (chunkB b pre.length).length = 64 := by rw [chunkB_length, hch]
      have hWR : Calls Tryz.prog 92 #[.pointer (some ⟨d, 0, none⟩), .int .i64 ((at_ + pre.length : Nat) : Int), .slice A6 64 c6] V.drew fun e w' => ∃ (x : Int) (s6 : DS), e = .returned (.int .i64 x) ∧ ((x = 0 ∧ s'.stopped = false ∧ s6 = s'.push (at_ + pre.length, chunkB b pre.length)) ∨ (x = 140 ∧ s'.stopped = true ∧ s6 = s')) ∧ DkS w' d many s6 ∧ V.drew.grownBy w' (some d) := by
        cases hs : s'.stopped
        · refine (write_ok V.drew d many s'.g s'.xs s'.left s'.st (i1.grow (Below.refl _ _).drew) hs (at_ + pre.length) (by omega) A6 c6 _ hcl (hx3.drew) (by omega) io.lo io.hi).mono ?_
          rintro e w' ⟨rfl, hD6, hg6, _⟩
          exact ⟨0, _, rfl, .inl ⟨rfl, rfl, rfl⟩, hD6, hg6⟩
        · refine (write_stop V.drew d many s'.g s'.xs s'.left s'.st (i1.grow (Below.refl _ _).drew) hs (at_ + pre.length) (by omega) A6 c6).mono ?_
          rintro e w' ⟨rfl, hB6⟩
          exact ⟨140, _, rfl, .inr ⟨rfl, rfl, rfl⟩, (i1.grow (Below.refl _ _).drew).grow hB6, ⟨hB6.os, hB6.tape, hB6.output, hB6.size, fun k hk _ => hB6.block k hk⟩⟩
      have HW := hWR
      rw [Int.natCast_add] at HW
      have h11 : 1 ≤ n - 1 - 1 := by omega
      have k0 := i2.boxed
      have k1 := i3.boxed
      have k2 := i4.boxed
      have hwa : IntKind.i64.wrap ((at_ : Int) + (pre.length : Int)) = (at_ : Int) + (pre.length : Int) := by rw [wrap_i64_fr _ (by omega) (by omega)]
      simp only [hch]
      clear hbl hch hcl hx2 hMu hWR
      have hS0 : V.drew.cell? ⟨w.heap.size, 0, none⟩ = some (.pointer (some ⟨l, 0, none⟩)) ∧ V.drew.cell? ⟨l, 0, none⟩ = some (.pointer (some ⟨d, 0, none⟩)) ∧ V.drew.cell? ⟨w.heap.size + 1, 0, none⟩ = some (.int .i64 (at_ : Int)) := ⟨k0, i5, k1⟩
      gi_wp2_with fail
      refine RegF.startR (fun W : World => W.cell? ⟨w.heap.size, 0, none⟩ = some (.pointer (some ⟨l, 0, none⟩)) ∧ W.cell? ⟨l, 0, none⟩ = some (.pointer (some ⟨d, 0, none⟩)) ∧ W.cell? ⟨w.heap.size + 1, 0, none⟩ = some (.int .i64 (at_ : Int))) 9 (by kernel_rfl) (by kernel_rfl) ?_
      refine RegF.take 0 (.pointer (some ⟨l, 0, none⟩)) rfl (by kernel_rfl) (by kernel_rfl) (by kernel_rfl) (by kernel_rfl) (fun _ _ _ h => h) hS0 (RegF.yld rfl (fun W hW => by obtain ⟨e0, e1, e2⟩ := hW; go_simp)) ?_
      simp only [List.getElem_toArray, List.getElem_cons_zero, Act.put, List.setIfInBounds_toArray, List.set_cons_zero, List.set_cons_succ]
      refine RegF.take 1 (.pointer (some ⟨l, 0, none⟩)) rfl (by kernel_rfl) (by kernel_rfl) (by kernel_rfl) (by kernel_rfl) (fun _ _ _ h => h) hS0 (RegF.yld rfl (fun W hW => by obtain ⟨e0, e1, e2⟩ := hW; go_simp)) ?_
      simp only [List.getElem_toArray, List.getElem_cons_succ, List.getElem_cons_zero, Act.put, List.setIfInBounds_toArray, List.set_cons_zero, List.set_cons_succ]
      refine RegF.take 2 (.pointer (some ⟨l, 0, none⟩)) rfl (by kernel_rfl) (by kernel_rfl) (by kernel_rfl) (by kernel_rfl) (fun _ _ _ h => h) hS0 (RegF.yld rfl (fun W hW => by obtain ⟨e0, e1, e2⟩ := hW; go_simp)) ?_
      simp only [List.getElem_toArray, List.getElem_cons_succ, List.getElem_cons_zero, Act.put, List.setIfInBounds_toArray, List.set_cons_zero, List.set_cons_succ]
      refine RegF.take 3 (.pointer (some ⟨d, 0, none⟩)) rfl (by kernel_rfl) (by kernel_rfl) (by kernel_rfl) (by kernel_rfl) (fun _ _ _ h => h) hS0 (RegF.yld rfl (fun W hW => by obtain ⟨e0, e1, e2⟩ := hW; go_simp)) ?_
      simp only [List.getElem_toArray, List.getElem_cons_succ, List.getElem_cons_zero, Act.put, List.setIfInBounds_toArray, List.set_cons_zero, List.set_cons_succ]
      refine RegF.take 4 (.int .i64 (at_ : Int)) rfl (by kernel_rfl) (by kernel_rfl) (by kernel_rfl) (by kernel_rfl) (fun _ _ _ h => h) hS0 (RegF.yld rfl (fun W hW => by obtain ⟨e0, e1, e2⟩ := hW; go_simp)) ?_
      simp only [List.getElem_toArray, List.getElem_cons_succ, List.getElem_cons_zero, Act.put, List.setIfInBounds_toArray, List.set_cons_zero, List.set_cons_succ]
      refine RegF.take 5 (.int .i64 (pre.length : Int)) rfl (by kernel_rfl) (by kernel_rfl) (by kernel_rfl) (by kernel_rfl) (fun _ _ _ h => h) hS0 (RegF.yld rfl (fun W hW => by obtain ⟨e0, e1, e2⟩ := hW; go_simp)) ?_
      simp only [List.getElem_toArray, List.getElem_cons_succ, List.getElem_cons_zero, Act.put, List.setIfInBounds_toArray, List.set_cons_zero, List.set_cons_succ]
      refine RegF.take 6 (.int .i64 ((at_ : Int) + (pre.length : Int))) rfl (by kernel_rfl) (by kernel_rfl) (by kernel_rfl) (by kernel_rfl) (fun _ _ _ h => h) hS0 (RegF.yld rfl (fun W hW => by obtain ⟨e0, e1, e2⟩ := hW; go_simp)) ?_
      simp only [List.getElem_toArray, List.getElem_cons_succ, List.getElem_cons_zero, Act.put, List.setIfInBounds_toArray, List.set_cons_zero, List.set_cons_succ]
      refine RegF.take 7 (.slice A6 64 c6) rfl (by kernel_rfl) (by kernel_rfl) (by kernel_rfl) (by kernel_rfl) (fun _ _ _ h => h) hS0 (RegF.yld rfl (fun W hW => by obtain ⟨e0, e1, e2⟩ := hW; go_simp)) ?_
      simp only [List.getElem_toArray, List.getElem_cons_succ, List.getElem_cons_zero, Act.put, List.setIfInBounds_toArray, List.set_cons_zero, List.set_cons_succ]
      refine RegF.one 8 (by kernel_rfl) ?_
      refine RegF.opC 92 #[.tmp 17, .tmp 20, .tmp 21] #[28, 3, 38] rfl rfl rfl (enters_of Tryz.func92 (by kernel_rfl) rfl) #[.pointer (some ⟨d, 0, none⟩), .int .i64 ((at_ : Int) + (pre.length : Int)), .slice A6 64 c6] (by simp only [List.map_toArray, List.map_cons, List.map_nil]; rfl) (HW.mono ?_)
      rintro e W6 ⟨z, s6, rfl, hz, hD6, hg6⟩
      have gV6 : V.grownBy W6 (some d) := (grownBy_drew V (some d)).trans hg6
      have q0 := i2.grown gV6 (fun e => by injection e with e; omega)
      have q1 := i3.grown gV6 (fun e => by injection e with e; omega)
      have q2 := i4.grown gV6 (fun e => by injection e with e; omega)
      have q3 : W6.cell? ⟨l, 0, none⟩ = some (.pointer (some ⟨d, 0, none⟩)) := cell_grown i5 gV6 (by show l < V.heap.size; omega) (fun e => by injection e with e; exact hld e)
      have q6 := gV6.size
      refine ⟨_, rfl, fun _ => ⟨q0.boxed, q3, q1.boxed⟩, ?_⟩
      simp only [List.getElem_toArray, List.getElem_cons_succ, List.getElem_cons_zero, Act.put, List.setIfInBounds_toArray, List.set_cons_zero, List.set_cons_succ]
      refine RegF.one 9 (by kernel_rfl) (RegF.opV (w' := W6) (.int .i64 z) rfl rfl (by go_simp) ⟨fun h => absurd rfl h, RegF.done (by kernel_rfl) ?_⟩)
      simp only [List.getElem_toArray, List.getElem_cons_succ, List.getElem_cons_zero, Act.put, List.setIfInBounds_toArray, List.set_cons_zero, List.set_cons_succ]
      have hKO : KeepOut (fun k => k = d) W4.heap.size V W6 := ⟨q6, fun k o hk hm => (gV6.block k (Array.getElem?_eq_some_iff.1 hk).1 (fun e => by injection e with e; exact hm (by omega) e)).trans hk⟩
      have hGW := i6.trans gV6
      have hdr := wrL_drop at_ b m pre.length hk
      have q2c := q2.boxed
      have q2f := q2.free 0
      clear HW hS0 hg6 k0 k1 k2 hwa hx3
      dsimp only [NoOut]
      rcases hz with ⟨rfl, hs, rfl⟩ | ⟨rfl, hs, rfl⟩
      · gi_wp2
        refine ⟨hKO, ⟨_, hD6, io.push hs _, ?_, ?_⟩, q0, q1, q2, q3, hGW, by omega⟩
        · simp [DS.push]
          omega
        · rw [ie, hdr, wrs_cons_ok hs]
          simp
      · gi_wp2
        have q7 := q2.set 0 (.int .i64 140)
        have g7 := setCell_grown W6 ⟨w.heap.size + 1 + 1, 0, none⟩ (.int .i64 140)
        have e7 : wrs s (wrL at_ b m) = (s6, 140) := by rw [ie, hdr, wrs_cons_bad hs]
        refine ⟨⟨Nat.le_trans hKO.1 g7.size, fun k o hk hm => (Below.heap_setCell W6 _ _ k (fun e => by subst e; exact hm (by simp; omega) trivial)).trans (hKO.2 k o hk (fun hb h => hm hb trivial))⟩, rfl, ?_, ?_, q7, ?_, ?_⟩
        · rw [e7]
          exact hD6.setOther q2 (by show 1 ≤ 64; decide) (by omega) ⟨w.heap.size + 1 + 1, 0, none⟩ _ rfl
        · rw [e7]
        · exact grownBy_rest hGW g7 (Nat.le_refl _) (fun r e => by injection e with e; simp at e; omega)
        · simp
          omega
    case done =>
      rintro D ys V hD hS ⟨⟨s', i1, io, il, ie⟩, i2, i3, i4, i5, i6, i7⟩ hK
      have hbl := HBL.out
      have hm3 : ys.length = m := by rw [hS]; unfold chAll; omega
      rw [hm3, wrL_drop_all] at ie
      have e1 : (wrs s (wrL at_ b m)).1 = s' := by rw [ie]; rfl
      have e2 : (wrs s (wrL at_ b m)).2 = 0 := by rw [ie]; rfl
      clear ie
      have k3 := i4.boxed
      have f3 := i4.free 0
      gi_wp2
      have b6 := i4.set 0 (.int .i64 0)
      have hE1 : (V.setCell ⟨w.heap.size + 1 + 1, 0, none⟩ (.int .i64 0)).heap[D]? = some (.deferred (some [])) := (Below.heap_setCell V ⟨w.heap.size + 1 + 1, 0, none⟩ (.int .i64 0) D (by simp; omega)).trans hK
      have g1 := setCell_grown V ⟨w.heap.size + 1 + 1, 0, none⟩ (.int .i64 0)
      have hD1 := i1.abSm (B := w.heap.size) hdl g1 (fun r e => by cases e; exact ⟨by simp; omega, _, i4, by decide, rfl⟩)
      have hG1 := grownBy_rest i6 g1 (Nat.le_refl _) (fun r e => by cases e; simp; omega)
      clear k3 f3 g1 i1 i2 i3 i4 i5 i6 hK
      generalize V.setCell ⟨w.heap.size + 1 + 1, 0, none⟩ (.int .i64 0) = Z at *
      have g2 := grownBy_putObj' Z D (.deferred none)
      have hD2 := hD1.abSm (B := w.heap.size) hdl g2 (fun r e => by cases e; exact ⟨by omega, _, hE1, trivial⟩)
      have hG2 := grownBy_rest hG1 g2 (Nat.le_refl _) (fun r e => by cases e; omega)
      refine ⟨by simp, .inl ⟨D, _, rfl, run_takeDeferred hE1, ?_⟩⟩
      have b7 : BlkIs (Z.putObj D (.deferred none)) (w.heap.size + 1 + 1) 29 #[.int .i64 0] := (putObj_oth Z D (.deferred none) (g := w.heap.size + 1 + 1) (by omega)).trans b6
      exact ⟨.int .i64 0, results_cellQ (p := ⟨w.heap.size + 1 + 1, 0, none⟩) 6 rfl rfl (by simp [go_sem]) b7.boxed, by rw [e2], by rw [e1]; exact hD2, hG2⟩
    case stop =>
      rintro D c pre V hD hS ⟨rfl, i1, ie, i4, i6, i7⟩ hK
      gi_wp2
      have g2 := grownBy_putObj' V D (.deferred none)
      have hD2 := i1.abSm (B := w.heap.size) hdl g2 (fun r e => by cases e; exact ⟨by omega, _, hK, trivial⟩)
      have hG2 := grownBy_rest i6 g2 (Nat.le_refl _) (fun r e => by cases e; omega)
      refine ⟨by simp, .inl ⟨D, _, rfl, run_takeDeferred hK, ?_⟩⟩
      have b7 : BlkIs (V.putObj D (.deferred none)) (w.heap.size + 1 + 1) 29 #[.int .i64 140] := (putObj_oth V D (.deferred none) (g := w.heap.size + 1 + 1) (by omega)).trans i4
      exact ⟨.int .i64 140, results_cellQ (p := ⟨w.heap.size + 1 + 1, 0, none⟩) 6 rfl rfl (by simp [go_sem]) b7.boxed, by rw [ie], hD2, hG2⟩
theorem wwriteS_gives (w : World) (l d many : Nat) (s : DS) (hD : DkS w d many s) (hO : s.Ok) (hl : s.xs.length ≤ 900000)
    (hc : w.cell? ⟨l, 0, none⟩ = some (.pointer (some ⟨d, 0, none⟩))) (hld : l ≠ d) (hll : l < w.heap.size) (at_ m : Nat) (A : Option Addr) (c : Nat) (b : List UInt8) (hin : InB w w.heap.size A c b) (hbl : b.length = 64 * m) (hm : m ≤ 16) (ham : at_ + m ≤ many) (hmax : many ≤ 1000000) :
    Calls Tryz.prog 51 #[.pointer (some ⟨l, 0, none⟩), .int .i64 (at_ : Int), .slice A b.length c] w fun e w' => e = .returned (.int .i64 (wrs s (wrL at_ b m)).2) ∧ DkS w' d many (wrs s (wrL at_ b m)).1 ∧ w.grownBy w' (some d) :=
  callsIn_wide.1 (wwriteS_in 8 (Nat.le_refl _) w l d many s hD hO hl hc hld hll at_ m A c b hin hbl hm ham hmax)
end Go.Proofs.YtocnabpplbeafaaGreat
/- wal: a head is laid, whatever stop is set. -/
namespace Go.Proofs.YtocnabpplbeafaaGreat
open Go Go.RowKit Lou

/-- A head written, and synced; an error. -/
def layD (s : DS) (L : List (Nat × List UInt8)) : DS × Int := if (wrs s L).2 = 0 then synD (wrs s L).1 else wrs s L
theorem DS.Ok.lay {s : DS} (h : s.Ok) (L : List (Nat × List UInt8)) : (layD s L).1.Ok := by
  unfold layD
  split
  · exact DS.Ok.syn (DS.Ok.wrs h)
  · exact DS.Ok.wrs h
theorem syncS_gives (w : World) (d many : Nat) (s : DS) (hD : DkS w d many s) (hO : s.Ok) (hl : s.xs.length ≤ 1000000) : Calls Tryz.prog 52 #[.pointer (some ⟨d, 0, none⟩)] w fun e w' => e = .returned (.int .i64 (synD s).2) ∧ DkS w' d many (synD s).1 ∧ w.grownBy w' (some d) := by
  unfold synD
  cases hs : s.stopped
  · exact sync_gives w d many s.g s.xs s.left s.st hD hs hl hO.lo hO.hi
  · refine (sync_bad w d many s.g s.xs s.left s.st hD (by have := hs; unfold DS.stopped at this; rw [relL_stopped] at this; exact of_decide_eq_true this)).mono ?_
    rintro e w' ⟨rfl, hB⟩
    exact ⟨rfl, hD.grow hB, ⟨hB.os, hB.tape, hB.output, hB.size, fun k hk _ => hB.block k hk⟩⟩
theorem layOut {w2 w : World} {d many l : Nat} {s : DS} {L : List (Nat × List UInt8)} {hs he sr ep : Nat} {fr pg sz : Int} {A : Option Addr} {n c : Nat} {e : Ending} {X : Prop}
    (hx : (e = .returned (.int .i64 0) ∧ X ∧ ((layD s L).2 = 0 ∧ DkS w2 d many (layD s L).1) ∧ BlkIs w2 l 57 (lgC (some ⟨d, 0, none⟩) fr pg hs he sz A n c) ∧ GrowBut (fun k => k = d ∨ k = l) w w2) ∨
      ∃ x : Int, x ≠ 0 ∧ e = .returned (.int .i64 x) ∧ x = (layD s L).2 ∧ DkS w2 d many (layD s L).1 ∧ BlkIs w2 l 57 (lgC (some ⟨d, 0, none⟩) fr pg sr ep sz A n c) ∧ GrowBut (fun k => k = d ∨ k = l) w w2) :
    ∃ x : Int, e = .returned (.int .i64 x) ∧ x = (layD s L).2 ∧ DkS w2 d many (layD s L).1 ∧ (∃ sr' ep', (((layD s L).2 = 0 ∧ sr' = hs ∧ ep' = he) ∨ (¬ (layD s L).2 = 0 ∧ sr' = sr ∧ ep' = ep)) ∧ BlkIs w2 l 57 (lgC (some ⟨d, 0, none⟩) fr pg sr' ep' sz A n c)) ∧ GrowBut (fun k => k = d ∨ k = l) w w2 := by
  rcases hx with ⟨rfl, _, ⟨h1, h2⟩, h3, h4⟩ | ⟨x, hx, rfl, rfl, h2, h3, h4⟩
  · exact ⟨0, rfl, h1.symm, h2, ⟨_, _, .inl ⟨h1, rfl, rfl⟩, h3⟩, h4⟩
  · exact ⟨_, rfl, rfl, h2, ⟨_, _, .inr ⟨hx, rfl, rfl⟩, h3⟩, h4⟩
section
variable (w : World) (l d many lb hb : Nat) (s : DS) (hs he : Nat) (hz hc : Int)
set_option maxRecDepth 100000 in
set_option maxHeartbeats 8000000 in
theorem lay1S_gives (hD : DkS w d many s) (hO : s.Ok) (hl : s.xs.length ≤ 900000) (hlb : BlkIs w lb 33 #[.pointer (some ⟨l, 0, none⟩)]) (hhb : BlkIs w hb 89 #[.int .u64 (hs : Int), .int .u64 (he : Int), .int .i64 hz, .int .i64 hc])
    (hcl : w.cell? ⟨l, 0, none⟩ = some (.pointer (some ⟨d, 0, none⟩))) (hld : l ≠ d) (hlbd : lb ≠ d) (hhbd : hb ≠ d) (hll : l < w.heap.size) (hok : headOk hz hc = true) (hm2 : 2 ≤ many) (hmax : many ≤ 1000000) :
    Calls Tryz.prog 79 #[.pointer (some ⟨hb, 0, none⟩), .pointer (some ⟨lb, 0, none⟩)] w fun e w' => e = .returned (.int .i64 (wrs s (wrL (hs % 2) (hEnc hs he hz hc) 1)).2) ∧ DkS w' d many (wrs s (wrL (hs % 2) (hEnc hs he hz hc) 1)).1 ∧ w.grownBy w' (some d) := by
  have hlen : (hEnc hs he hz hc).length = 64 := by
    unfold hEnc
    rw [if_pos hok]
    exact headW_length _ _ _ _
  have hE0 : hErr hz hc = 0 := by unfold hErr; rw [if_pos hok]
  have HE := encodeHead_gives hs he hz hc w
  rw [hE0] at HE
  unfold GivesBE at HE
  rw [hlen] at HE
  have HLEN := Lib.hid hlen
  have hdl := hD.lt
  obtain ⟨r, hr⟩ : ∃ r, r = hs % 2 := ⟨_, rfl⟩
  have HMOD := Lib.hid (show Int.tmod (hs : Int) 2 = (r : Int) by rw [hr]; exact (Int.ofNat_tmod hs 2).symm)
  have HWR := Lib.hid (show IntKind.i64.wrap (r : Int) = (r : Int) from wrap_i64_fr _ (by omega) (by omega))
  have hr2 : r < 2 := by omega
  rw [← hr]
  clear hr
  generalize hR : wrs s (wrL r (hEnc hs he hz hc) 1) = R
  obtain ⟨s6, z⟩ := R
  simp only
  clear hlen hE0
  go_enter Tryz.func79, Tryz.ntmps79
  go_wp2_with (first
    | (refine wp_loadW rfl 89 (.tmp 0) rfl hb rfl rowHead hhb rfl ?_)
    | (go_at_call 80; refine HE.mono ?_; rintro e w1 ⟨A, c, rfl, hin, hB1⟩))
  have hD1 := hD.grow hB1
  have hlb1 := hlb.below hB1 hlb.lt
  have hhb1 := hhb.below hB1 hhb.lt
  have hcl1 : w1.cell? ⟨l, 0, none⟩ = some (.pointer (some ⟨d, 0, none⟩)) := (hB1.cell (p := ⟨l, 0, none⟩) hll).trans hcl
  have hs1 := hB1.size
  have c1 : w1.cell? ⟨hb, 0, none⟩ = some (.int .u64 (hs : Int)) := by rw [hhb1.cell]; rfl
  have hS0 : w1.drew.cell? ⟨lb, 0, none⟩ = some (.pointer (some ⟨l, 0, none⟩)) ∧ w1.drew.cell? ⟨hb, 0, none⟩ = some (.int .u64 (hs : Int)) := ⟨hlb1.boxed, c1⟩
  have HW := wwriteS_gives w1.drew l d many s (hD1.grow (Below.refl _ _).drew) hO hl hcl1 hld (by show l < w1.heap.size; omega) r 1 A c _ hin.drew (by rw [HLEN.out]) (by omega) (by omega) hmax
  rw [HLEN.out, hR] at HW
  simp only at HW
  clear HE hD hlb hhb hcl hR
  refine RegF.start (fun W : World => W.cell? ⟨lb, 0, none⟩ = some (.pointer (some ⟨l, 0, none⟩)) ∧ W.cell? ⟨hb, 0, none⟩ = some (.int .u64 (hs : Int))) 9 (by kernel_rfl) ?_
  refine RegF.take 0 (.pointer (some ⟨l, 0, none⟩)) rfl (by kernel_rfl) (by kernel_rfl) (by kernel_rfl) (by kernel_rfl) (fun _ _ _ h => h) hS0 (RegF.yld rfl (fun W hW => by obtain ⟨e0, e1⟩ := hW; go_simp)) ?_
  simp only [List.getElem_toArray, List.getElem_cons_zero, Act.put, List.setIfInBounds_toArray, List.set_cons_zero, List.set_cons_succ]
  refine RegF.take 1 (.pointer (some ⟨l, 0, none⟩)) rfl (by kernel_rfl) (by kernel_rfl) (by kernel_rfl) (by kernel_rfl) (fun _ _ _ h => h) hS0 (RegF.yld rfl (fun W hW => by obtain ⟨e0, e1⟩ := hW; go_simp)) ?_
  simp only [List.getElem_toArray, List.getElem_cons_succ, List.getElem_cons_zero, Act.put, List.setIfInBounds_toArray, List.set_cons_zero, List.set_cons_succ]
  refine RegF.take 2 (.pointer (some ⟨l, 0, none⟩)) rfl (by kernel_rfl) (by kernel_rfl) (by kernel_rfl) (by kernel_rfl) (fun _ _ _ h => h) hS0 (RegF.yld rfl (fun W hW => by obtain ⟨e0, e1⟩ := hW; go_simp)) ?_
  simp only [List.getElem_toArray, List.getElem_cons_succ, List.getElem_cons_zero, Act.put, List.setIfInBounds_toArray, List.set_cons_zero, List.set_cons_succ]
  refine RegF.take 3 (.pointer (some ⟨hb, 0, none⟩)) rfl (by kernel_rfl) (by kernel_rfl) (by kernel_rfl) (by kernel_rfl) (fun _ _ _ h => h) hS0 (RegF.yld rfl (fun W hW => by obtain ⟨e0, e1⟩ := hW; go_simp)) ?_
  simp only [List.getElem_toArray, List.getElem_cons_succ, List.getElem_cons_zero, Act.put, List.setIfInBounds_toArray, List.set_cons_zero, List.set_cons_succ]
  refine RegF.take 4 (.int .u64 (hs : Int)) rfl (by kernel_rfl) (by kernel_rfl) (by kernel_rfl) (by kernel_rfl) (fun _ _ _ h => h) hS0 (RegF.yld rfl (fun W hW => by obtain ⟨e0, e1⟩ := hW; go_simp)) ?_
  simp only [List.getElem_toArray, List.getElem_cons_succ, List.getElem_cons_zero, Act.put, List.setIfInBounds_toArray, List.set_cons_zero, List.set_cons_succ]
  refine RegF.take 5 (.int .u64 (r : Int)) rfl (by kernel_rfl) (by kernel_rfl) (by kernel_rfl) (by kernel_rfl) (fun _ _ _ h => h) hS0 (RegF.yld rfl (fun W hW => by obtain ⟨e0, e1⟩ := hW; have e9 := HMOD.out; go_simp)) ?_
  simp only [List.getElem_toArray, List.getElem_cons_succ, List.getElem_cons_zero, Act.put, List.setIfInBounds_toArray, List.set_cons_zero, List.set_cons_succ]
  refine RegF.take 6 (.int .i64 (r : Int)) rfl (by kernel_rfl) (by kernel_rfl) (by kernel_rfl) (by kernel_rfl) (fun _ _ _ h => h) hS0 (RegF.yld rfl (fun W hW => by obtain ⟨e0, e1⟩ := hW; have e9 := HWR.out; go_simp)) ?_
  simp only [List.getElem_toArray, List.getElem_cons_succ, List.getElem_cons_zero, Act.put, List.setIfInBounds_toArray, List.set_cons_zero, List.set_cons_succ]
  refine RegF.take 7 (.slice A 64 c) rfl (by kernel_rfl) (by kernel_rfl) (by kernel_rfl) (by kernel_rfl) (fun _ _ _ h => h) hS0 (RegF.yld rfl (fun W hW => by obtain ⟨e0, e1⟩ := hW; go_simp)) ?_
  simp only [List.getElem_toArray, List.getElem_cons_succ, List.getElem_cons_zero, Act.put, List.setIfInBounds_toArray, List.set_cons_zero, List.set_cons_succ]
  refine RegF.one 8 (by kernel_rfl) ?_
  refine RegF.opC 51 #[.tmp 12, .tmp 16, .tmp 17] #[53, 3, 38] rfl rfl rfl (enters_of Tryz.func51 (by kernel_rfl) rfl) #[.pointer (some ⟨l, 0, none⟩), .int .i64 (r : Int), .slice A 64 c] (by simp only [List.map_toArray, List.map_cons, List.map_nil]; rfl) (HW.mono ?_)
  rintro e w2 ⟨rfl, hD2, hg2⟩
  have g12 : w1.grownBy w2 (some d) := (grownBy_drew w1 (some d)).trans hg2
  have q0 := hlb1.grown g12 (fun e => by injection e with e; omega)
  have q1 := hhb1.grown g12 (fun e => by injection e with e; omega)
  have q1c : w2.cell? ⟨hb, 0, none⟩ = some (.int .u64 (hs : Int)) := by rw [q1.cell]; rfl
  refine ⟨_, rfl, fun _ => ⟨q0.boxed, q1c⟩, ?_⟩
  simp only [List.getElem_toArray, List.getElem_cons_succ, List.getElem_cons_zero, Act.put, List.setIfInBounds_toArray, List.set_cons_zero, List.set_cons_succ]
  refine RegF.one 9 (by kernel_rfl) (RegF.opV (w' := w2) (.int .i64 z) rfl rfl (by go_simp) ⟨fun h => absurd rfl h, RegF.done (by kernel_rfl) ?_⟩)
  simp only [List.getElem_toArray, List.getElem_cons_succ, List.getElem_cons_zero, Act.put, List.setIfInBounds_toArray, List.set_cons_zero, List.set_cons_succ]
  clear HW hS0
  go_wp2
  go_ret
  exact ⟨rfl, hD2, (below_grownBy hB1 d).trans g12⟩
set_option maxRecDepth 100000 in
set_option maxHeartbeats 8000000 in
theorem layS_gives (fr pg : Int) (sr ep : Nat) (sz : Int) (A : Option Addr) (n c : Nat) (hD : DkS w d many s) (hO : s.Ok) (hl : s.xs.length ≤ 800000) (hlg : BlkIs w l 57 (lgC (some ⟨d, 0, none⟩) fr pg sr ep sz A n c)) (hld : l ≠ d) (hok : headOk hz hc = true) (hm2 : 2 ≤ many) (hmax : many ≤ 1000000) :
    Calls Tryz.prog 40 #[.pointer (some ⟨l, 0, none⟩), .agg #[.int .u64 (hs : Int), .int .u64 (he : Int), .int .i64 hz, .int .i64 hc]] w fun e w' => e = .returned (.int .i64 (layD s (wrL (hs % 2) (hEnc hs he hz hc) 1)).2) ∧ DkS w' d many (layD s (wrL (hs % 2) (hEnc hs he hz hc) 1)).1 ∧ (∃ sr' ep', (((layD s (wrL (hs % 2) (hEnc hs he hz hc) 1)).2 = 0 ∧ sr' = hs ∧ ep' = he) ∨ (¬ (layD s (wrL (hs % 2) (hEnc hs he hz hc) 1)).2 = 0 ∧ sr' = sr ∧ ep' = ep)) ∧ BlkIs w' l 57 (lgC (some ⟨d, 0, none⟩) fr pg sr' ep' sz A n c)) ∧ GrowBut (fun k => k = d ∨ k = l) w w' := by
  have hdl := hD.lt
  have hll := hlg.lt
  have k0 : w.cell? ⟨l, 0, none⟩ = some (.pointer (some ⟨d, 0, none⟩)) := by rw [hlg.cell]; rfl
  obtain ⟨W1, hW1⟩ : ∃ W1, W1 = (((w.alloc (.cells #[.pointer (some ⟨l, 0, none⟩)] 33)).alloc (.cells #[.int .u64 (hs : Int), .int .u64 (he : Int), .int .i64 hz, .int .i64 hc] 89)).alloc (.cells #[.func (.func 79) #[] #[.pointer (some ⟨w.heap.size + 1, 0, none⟩), .pointer (some ⟨w.heap.size, 0, none⟩)], .func (.func 52) #[.pointer (some ⟨d, 0, none⟩)] #[], .func (.func 81) #[] #[.pointer (some ⟨w.heap.size + 1, 0, none⟩), .pointer (some ⟨w.heap.size, 0, none⟩)]] 42)) := ⟨_, rfl⟩
  have hB1 : Below w.heap.size w W1 := by rw [hW1]; exact (((Below.refl _ w).alloc (Nat.le_refl _) _).alloc (by simp) _).alloc (by simp; omega) _
  have b0 : BlkIs W1 w.heap.size 33 #[.pointer (some ⟨l, 0, none⟩)] := by rw [hW1]; exact ((BlkIs.new w _ _).alloc _).alloc _
  have b1 : BlkIs W1 (w.heap.size + 1) 89 #[.int .u64 (hs : Int), .int .u64 (he : Int), .int .i64 hz, .int .i64 hc] := by
    have := (BlkIs.new (w.alloc (.cells #[.pointer (some ⟨l, 0, none⟩)] 33)) 89 #[.int .u64 (hs : Int), .int .u64 (he : Int), .int .i64 hz, .int .i64 hc])
    rw [World.size_alloc] at this
    rw [hW1]
    exact this.alloc _
  have b2 : BlkIs W1 (w.heap.size + 1 + 1) 42 #[.func (.func 79) #[] #[.pointer (some ⟨w.heap.size + 1, 0, none⟩), .pointer (some ⟨w.heap.size, 0, none⟩)], .func (.func 52) #[.pointer (some ⟨d, 0, none⟩)] #[], .func (.func 81) #[] #[.pointer (some ⟨w.heap.size + 1, 0, none⟩), .pointer (some ⟨w.heap.size, 0, none⟩)]] := by
    have := BlkIs.new ((w.alloc (.cells #[.pointer (some ⟨l, 0, none⟩)] 33)).alloc (.cells #[.int .u64 (hs : Int), .int .u64 (he : Int), .int .i64 hz, .int .i64 hc] 89)) 42 #[.func (.func 79) #[] #[.pointer (some ⟨w.heap.size + 1, 0, none⟩), .pointer (some ⟨w.heap.size, 0, none⟩)], .func (.func 52) #[.pointer (some ⟨d, 0, none⟩)] #[], .func (.func 81) #[] #[.pointer (some ⟨w.heap.size + 1, 0, none⟩), .pointer (some ⟨w.heap.size, 0, none⟩)]]
    rw [World.size_alloc, World.size_alloc] at this
    rw [hW1]
    exact this
  obtain ⟨fs, hfs⟩ : ∃ fs : List FnV, fs = [⟨79, #[], #[.pointer (some ⟨w.heap.size + 1, 0, none⟩), .pointer (some ⟨w.heap.size, 0, none⟩)]⟩, ⟨52, #[.pointer (some ⟨d, 0, none⟩)], #[]⟩, ⟨81, #[], #[.pointer (some ⟨w.heap.size + 1, 0, none⟩), .pointer (some ⟨w.heap.size, 0, none⟩)]⟩] := ⟨_, rfl⟩
  have H1 : ∀ W, DkS W d many s → BlkIs W w.heap.size 33 #[.pointer (some ⟨l, 0, none⟩)] → BlkIs W (w.heap.size + 1) 89 #[.int .u64 (hs : Int), .int .u64 (he : Int), .int .i64 hz, .int .i64 hc] → W.cell? ⟨l, 0, none⟩ = some (.pointer (some ⟨d, 0, none⟩)) → l < W.heap.size → Calls Tryz.prog 79 #[.pointer (some ⟨w.heap.size + 1, 0, none⟩), .pointer (some ⟨w.heap.size, 0, none⟩)] W fun e w' => e = .returned (.int .i64 (wrs s (wrL (hs % 2) (hEnc hs he hz hc) 1)).2) ∧ DkS w' d many (wrs s (wrL (hs % 2) (hEnc hs he hz hc) 1)).1 ∧ W.grownBy w' (some d) := fun W hDw h1 h2 k0' hlw =>
    lay1S_gives W l d many w.heap.size (w.heap.size + 1) s hs he hz hc hDw hO (by omega) h1 h2 k0' hld (by omega) (by omega) hlw hok hm2 hmax
  have HX : (wrs s (wrL (hs % 2) (hEnc hs he hz hc) 1)).1.xs.length ≤ 900000 := by
    have := wrs_len (wrL (hs % 2) (hEnc hs he hz hc) 1) s
    rw [wrL_length] at this
    omega
  have hO1 : (wrs s (wrL (hs % 2) (hEnc hs he hz hc) 1)).1.Ok := hO.wrs
  have hOS := hO1.syn
  have herr := wrs_err (wrL (hs % 2) (hEnc hs he hz hc) 1) s
  generalize wrL (hs % 2) (hEnc hs he hz hc) 1 = L at *
  have HS := steps_gives W1 (w.heap.size + 1 + 1) 3 fs
    (fun k V => (BlkIs V w.heap.size 33 #[.pointer (some ⟨l, 0, none⟩)] ∧ BlkIs V (w.heap.size + 1) 89 #[.int .u64 (hs : Int), .int .u64 (he : Int), .int .i64 hz, .int .i64 hc] ∧ BlkIs V (w.heap.size + 1 + 1) 42 #[.func (.func 79) #[] #[.pointer (some ⟨w.heap.size + 1, 0, none⟩), .pointer (some ⟨w.heap.size, 0, none⟩)], .func (.func 52) #[.pointer (some ⟨d, 0, none⟩)] #[], .func (.func 81) #[] #[.pointer (some ⟨w.heap.size + 1, 0, none⟩), .pointer (some ⟨w.heap.size, 0, none⟩)]] ∧ GrowBut (fun k => k = d ∨ k = l) w V) ∧
      (k = 0 → DkS V d many s ∧ BlkIs V l 57 (lgC (some ⟨d, 0, none⟩) fr pg sr ep sz A n c)) ∧
      (k = 1 → ((wrs s L).2 = 0 ∧ DkS V d many (wrs s L).1) ∧ BlkIs V l 57 (lgC (some ⟨d, 0, none⟩) fr pg sr ep sz A n c)) ∧
      (k = 2 → ((layD s L).2 = 0 ∧ DkS V d many (layD s L).1) ∧ BlkIs V l 57 (lgC (some ⟨d, 0, none⟩) fr pg sr ep sz A n c)) ∧
      (k = 3 → ((layD s L).2 = 0 ∧ DkS V d many (layD s L).1) ∧ BlkIs V l 57 (lgC (some ⟨d, 0, none⟩) fr pg hs he sz A n c)))
    (fun x V => x = (layD s L).2 ∧ DkS V d many (layD s L).1 ∧ BlkIs V l 57 (lgC (some ⟨d, 0, none⟩) fr pg sr ep sz A n c) ∧ GrowBut (fun k => k = d ∨ k = l) w V) (by rw [hfs]; simp)
    (by
      rintro k hk W ⟨⟨_, _, h3, _⟩, _⟩
      rw [h3.cell]
      subst hfs
      match k, hk with
      | 0, _ => rfl
      | 1, _ => rfl
      | 2, _ => rfl
      | k + 3, h => exact absurd h (by simp))
    (by
      rintro k hk W ⟨⟨h1, h2, h3, h4⟩, q0, q1, q2, q3⟩
      have hsz := h4.size
      subst hfs
      match k, hk with
      | 0, _ =>
        obtain ⟨hDw, hlw⟩ := q0 rfl
        have k0' : W.cell? ⟨l, 0, none⟩ = some (.pointer (some ⟨d, 0, none⟩)) := by rw [hlw.cell]; rfl
        refine ⟨enters_of Tryz.func79 (by kernel_rfl) rfl, (H1 W hDw h1 h2 k0' (by omega)).mono ?_⟩
        rintro e w2 ⟨rfl, hD2, hg2⟩
        have n0 : some w.heap.size ≠ some d := fun e => by injection e with e; omega
        have n1 : some (w.heap.size + 1) ≠ some d := fun e => by injection e with e; omega
        have n2 : some (w.heap.size + 1 + 1) ≠ some d := fun e => by injection e with e; omega
        have hG2 := h4.trans (GrowBut.grown hg2 (fun r e => by cases e; exact .inl (.inl rfl)))
        have hl2 := hlw.grown hg2 (fun e => by injection e with e; exact hld e)
        by_cases hz0 : (wrs s L).2 = 0
        · exact .inl ⟨by rw [hz0], ⟨h1.grown hg2 n0, h2.grown hg2 n1, h3.grown hg2 n2, hG2⟩, (fun e => by cases e), (fun _ => ⟨⟨hz0, hD2⟩, hl2⟩), (fun e => by cases e), (fun e => by cases e)⟩
        · have el : layD s L = wrs s L := by unfold layD; rw [if_neg hz0]
          exact .inr ⟨_, hz0, rfl, by rw [el], by rw [el]; exact hD2, hl2, hG2⟩
      | 1, _ =>
        obtain ⟨⟨hz0, hDw⟩, hlw⟩ := q1 rfl
        have el : layD s L = synD (wrs s L).1 := by unfold layD; rw [if_pos hz0]
        have n0 : some w.heap.size ≠ some d := fun e => by injection e with e; omega
        have n1 : some (w.heap.size + 1) ≠ some d := fun e => by injection e with e; omega
        have n2 : some (w.heap.size + 1 + 1) ≠ some d := fun e => by injection e with e; omega
        refine ⟨enters_of Tryz.func52 (by kernel_rfl) rfl, (syncS_gives W d many _ hDw hO1 (by omega)).mono ?_⟩
        rintro e w2 ⟨rfl, hD2, hg2⟩
        have hG2 := h4.trans (GrowBut.grown hg2 (fun r e => by cases e; exact .inl (.inl rfl)))
        have hl2 := hlw.grown hg2 (fun e => by injection e with e; exact hld e)
        rw [← el] at hD2 ⊢
        by_cases hz1 : (layD s L).2 = 0
        · exact .inl ⟨by rw [hz1], ⟨h1.grown hg2 n0, h2.grown hg2 n1, h3.grown hg2 n2, hG2⟩, (fun e => by cases e), (fun e => by cases e), (fun _ => ⟨⟨hz1, hD2⟩, hl2⟩), (fun e => by cases e)⟩
        · exact .inr ⟨_, hz1, rfl, rfl, hD2, hl2, hG2⟩
      | 2, _ =>
        obtain ⟨⟨hz0, hDw⟩, hlw⟩ := q2 rfl
        refine ⟨enters_of Tryz.func81 (by kernel_rfl) rfl, (lay2_gives W l w.heap.size (w.heap.size + 1) hs he hz hc (some ⟨d, 0, none⟩) fr pg sr ep sz A n c h1 h2 hlw (by omega) (by omega)).mono ?_⟩
        rintro e w2 ⟨rfl, rfl, hl2⟩
        have hld' : d ≠ l := fun e => hld e.symm
        have hl1 := hlw.drew.set 3 (.int .u64 (hs : Int))
        exact .inl ⟨rfl, ⟨(h1.drew.other (by show ¬ _ = l; omega) _).other (by show ¬ _ = l; omega) _, (h2.drew.other (by show ¬ _ = l; omega) _).other (by show ¬ _ = l; omega) _, (h3.drew.other (by show ¬ _ = l; omega) _).other (by show ¬ _ = l; omega) _,
          ((h4.trans (GrowBut.grown (grownBy_drew W none) (fun r e => by cases e))).trans (GrowBut.setCell _ _ _ (.inr rfl))).trans (GrowBut.setCell _ _ _ (.inr rfl))⟩, (fun e => by cases e), (fun e => by cases e), (fun e => by cases e), (fun _ => ⟨⟨hz0, ((hDw.grow (Below.refl _ _).drew).setOther hlw.drew (by show 7 ≤ 64; decide) hld' _ _ rfl).setOther hl1 (by simp; show 7 ≤ 64; decide) hld' _ _ rfl⟩, hl2⟩)⟩
      | k + 3, h => exact absurd h (by simp))
    ⟨⟨b0, b1, b2, GrowBut.below hB1⟩, (fun _ => ⟨hD.grow hB1, hlg.below hB1 hll⟩), (fun e => by cases e), (fun e => by cases e), (fun e => by cases e)⟩
  have hfl : fs.length = 3 := by rw [hfs]; rfl
  rw [hfl, hW1] at HS
  have HT := HS.mono (R' := fun e w2 => ∃ x : Int, e = .returned (.int .i64 x) ∧ x = (layD s L).2 ∧ DkS w2 d many (layD s L).1 ∧ (∃ sr' ep', (((layD s L).2 = 0 ∧ sr' = hs ∧ ep' = he) ∨ (¬ (layD s L).2 = 0 ∧ sr' = sr ∧ ep' = ep)) ∧ BlkIs w2 l 57 (lgC (some ⟨d, 0, none⟩) fr pg sr' ep' sz A n c)) ∧ GrowBut (fun k => k = d ∨ k = l) w w2) (fun e w2 hx => layOut (X := True) (by
    rcases hx with ⟨h1, ⟨_, _, _, h4⟩, _, _, _, q3⟩ | hx
    · obtain ⟨q4, q5⟩ := q3 rfl
      exact .inl ⟨h1, trivial, q4, q5, h4⟩
    · exact .inr hx))
  clear hW1 b0 b1 b2 hB1 hfs hD H1 HS HX hO1 hOS herr
  go_enter Tryz.func40, Tryz.ntmps40
  go_wp2_with (go_at_call 47; refine HT.mono ?_; rintro e w2 ⟨x, rfl, hx⟩)
  go_ret
  obtain ⟨rfl, hx⟩ := hx
  exact ⟨rfl, hx⟩
end
end Go.Proofs.YtocnabpplbeafaaGreat
/- Frames' bytes are read as what they were made of. -/
namespace Go.Proofs.YtocnabpplbeafaaGreat
open Go Go.RowKit Lou

/-- What lies in a frame's bytes where its sum does. -/
theorem sectB_sum (p y r : List UInt8) (hp : p.length = 25) : rfix (((sectB p y ++ r).drop 25).take 4) = sumL (p ++ y) := by
  have e : (sectB p y ++ r).drop 25 = fixL 4 (sumL (p ++ y)) ++ (List.replicate 35 0 ++ r) := by
    rw [← hp]
    simp only [sectB, List.append_assoc, List.drop_left]
  rw [e, List.take_append_of_le_length (by rw [fixL_length]; omega), List.take_of_length_le (by rw [fixL_length]; omega)]
  have := sumL_lt (p ++ y)
  exact rfix_fixL_lt (by have e4 : (256 : Nat) ^ 4 = 4294967296 := by decide
                         omega)
def fSum (e : Nat) (i p : Int) (f : Bool) (z : Int) (n : Nat) (y : List UInt8) : Nat := if frOk y.length i p f z then sumL (partB e i.toNat p.toNat f z.toNat n ++ y) else 0
end Go.Proofs.YtocnabpplbeafaaGreat
/- louperef05.Encode. -/
namespace Go.Proofs.YtocnabpplbeafaaGreat
open Go Go.RowKit Lou

end Go.Proofs.YtocnabpplbeafaaGreat
/- louperef05.Same, Sum; frame.Sum. -/
namespace Go.Proofs.YtocnabpplbeafaaGreat
open Go Go.RowKit Lou

set_option maxRecDepth 100000 in
set_option maxHeartbeats 8000000 in
theorem fsum_gives (e : Nat) (i p : Int) (f : Bool) (z : Int) (n : Nat) (A : Option Addr) (k : Nat) (y : List UInt8) (w : World) (hin : InB w w.heap.size A k y) :
    Calls Tryz.prog 86 #[.agg (frCells e i p f z n A y.length k)] w fun x w' => x = .returned (.tuple #[.int .u32 (fSum e i p f z n y : Int), .int .i64 (fErr i p f z y)]) ∧ Below w.heap.size w w' := by
  have hbh := BlkIs.new w 97 (frCells e i p f z n A y.length k)
  have hBw : Below w.heap.size w (w.alloc (.cells (frCells e i p f z n A y.length k) 97)) := (Below.refl _ w).alloc (Nat.le_refl _) _
  have H := right_gives e i p f z n A y.length k (w.alloc (.cells (frCells e i p f z n A y.length k) 97))
  cases hk : frOk y.length i p f z with
  | false =>
    have h1 : fSum e i p f z n y = 0 := by simp [fSum, hk]
    have h2 : fErr i p f z y = 2 := by simp [fErr, hk]
    rw [h1, h2]
    rw [hk] at H
    clear h1 h2 hk
    unfold frCells at *
    go_enter Tryz.func86, Tryz.ntmps86
    go_wp2_with (first
      | (go_at_call 88; refine H.mono ?_; rintro x w2 ⟨rfl, hB2⟩)
      | (refine wp_loadW rfl 97 (.tmp 1) rfl w.heap.size rfl rowFrame hbh (by rfl) ?_))
    exact bodyPost_ret (results_tmp2 rfl _ _ _) rfl ⟨rfl, hBw.trans (hB2.mono hBw.size)⟩
  | true =>
    obtain ⟨hy, ⟨hi0, hi1⟩, ⟨hp0, hp1⟩, ⟨hz0, hz1⟩, _⟩ := (frOk_iff _ _ _ _ _).1 hk
    obtain ⟨i, rfl⟩ : ∃ q : Nat, i = q := ⟨i.toNat, by omega⟩
    obtain ⟨p, rfl⟩ : ∃ q : Nat, p = q := ⟨p.toNat, by omega⟩
    obtain ⟨z, rfl⟩ : ∃ q : Nat, z = q := ⟨z.toNat, by omega⟩
    rw [hk] at H
    have h1 : fSum e (i : Int) (p : Int) f (z : Int) n y = sumL (partB e i p f z n ++ y) := by simp [fSum, hk]
    have h2 : fErr (i : Int) (p : Int) f (z : Int) y = 0 := by simp [fErr, hk]
    rw [h1, h2]
    have hin1 := (hin.below hBw).more hBw.size
    have HF := fun W (h : InB W W.heap.size A k y) => front_gives e i p z n f A k y W (by omega) (by omega) (by omega) h hy
    have hl25 := partB_length e i p f z n
    have hsl : (sectB (partB e i p f z n) y).length = 64 := by rw [sectB_length, hl25]
    have hsum := sectB_sum (partB e i p f z n) y [] hl25
    rw [List.append_nil] at hsum
    generalize sectB (partB e i p f z n) y = s at *
    generalize sumL (partB e i p f z n ++ y) = S at *
    have HSL := Lib.hid hsl
    have HYL := Lib.hid hy
    have HSUM := Lib.hid hsum
    have hRow : RowTy Tryz.prog 140 (s.map b8).toArray.size := by
      have : (s.map b8).toArray.size = 64 := by simp [hsl]
      rw [this]
      exact rowSector
    clear h1 h2 hk hin hl25 hsl hy hsum
    unfold frCells at *
    go_enter Tryz.func86, Tryz.ntmps86
    go_wp2_with (first
      | (go_at_call 88; refine H.mono ?_; rintro x w2 ⟨rfl, hB2⟩; have hbh2 := hbh.below hB2 hbh.lt; have hB02 := hBw.trans (hB2.mono hBw.size); have hin2 := (hin1.below hB2).more hB2.size; clear H hbh hin1)
      | (go_at_call 89; refine (HF _ hin2).mono ?_; rintro x w3 ⟨rfl, hB3⟩; have hB03 := hB02.trans (hB3.mono hB02.size); clear HF hbh2 hin2)
      | (refine wp_loadW rfl 97 (.tmp 1) rfl w.heap.size rfl rowFrame (by assumption) (by rfl) ?_)
      | (refine wp_storeW rfl 140 (.tmp 4) (.tmp 10) rfl w3.heap.size rfl rfl rowSector (BlkIs.new w3 140 #[.int .u8 0, .int .u8 0, .int .u8 0, .int .u8 0, .int .u8 0, .int .u8 0, .int .u8 0, .int .u8 0, .int .u8 0, .int .u8 0, .int .u8 0, .int .u8 0, .int .u8 0, .int .u8 0, .int .u8 0, .int .u8 0, .int .u8 0, .int .u8 0, .int .u8 0, .int .u8 0, .int .u8 0, .int .u8 0, .int .u8 0, .int .u8 0, .int .u8 0, .int .u8 0, .int .u8 0, .int .u8 0, .int .u8 0, .int .u8 0, .int .u8 0, .int .u8 0, .int .u8 0, .int .u8 0, .int .u8 0, .int .u8 0, .int .u8 0, .int .u8 0, .int .u8 0, .int .u8 0, .int .u8 0, .int .u8 0, .int .u8 0, .int .u8 0, .int .u8 0, .int .u8 0, .int .u8 0, .int .u8 0, .int .u8 0, .int .u8 0, .int .u8 0, .int .u8 0, .int .u8 0, .int .u8 0, .int .u8 0, .int .u8 0, .int .u8 0, .int .u8 0, .int .u8 0, .int .u8 0, .int .u8 0, .int .u8 0, .int .u8 0, .int .u8 0]) (by rfl) (by have := HSL.out; simp; omega) (b8_one _) ?_))
    have hb4 := (BlkIs.new w3 140 #[.int .u8 0, .int .u8 0, .int .u8 0, .int .u8 0, .int .u8 0, .int .u8 0, .int .u8 0, .int .u8 0, .int .u8 0, .int .u8 0, .int .u8 0, .int .u8 0, .int .u8 0, .int .u8 0, .int .u8 0, .int .u8 0, .int .u8 0, .int .u8 0, .int .u8 0, .int .u8 0, .int .u8 0, .int .u8 0, .int .u8 0, .int .u8 0, .int .u8 0, .int .u8 0, .int .u8 0, .int .u8 0, .int .u8 0, .int .u8 0, .int .u8 0, .int .u8 0, .int .u8 0, .int .u8 0, .int .u8 0, .int .u8 0, .int .u8 0, .int .u8 0, .int .u8 0, .int .u8 0, .int .u8 0, .int .u8 0, .int .u8 0, .int .u8 0, .int .u8 0, .int .u8 0, .int .u8 0, .int .u8 0, .int .u8 0, .int .u8 0, .int .u8 0, .int .u8 0, .int .u8 0, .int .u8 0, .int .u8 0, .int .u8 0, .int .u8 0, .int .u8 0, .int .u8 0, .int .u8 0, .int .u8 0, .int .u8 0, .int .u8 0, .int .u8 0]).setRow (s.map b8).toArray
    have hB34 : Below w3.heap.size w3 ((w3.alloc (.cells #[.int .u8 0, .int .u8 0, .int .u8 0, .int .u8 0, .int .u8 0, .int .u8 0, .int .u8 0, .int .u8 0, .int .u8 0, .int .u8 0, .int .u8 0, .int .u8 0, .int .u8 0, .int .u8 0, .int .u8 0, .int .u8 0, .int .u8 0, .int .u8 0, .int .u8 0, .int .u8 0, .int .u8 0, .int .u8 0, .int .u8 0, .int .u8 0, .int .u8 0, .int .u8 0, .int .u8 0, .int .u8 0, .int .u8 0, .int .u8 0, .int .u8 0, .int .u8 0, .int .u8 0, .int .u8 0, .int .u8 0, .int .u8 0, .int .u8 0, .int .u8 0, .int .u8 0, .int .u8 0, .int .u8 0, .int .u8 0, .int .u8 0, .int .u8 0, .int .u8 0, .int .u8 0, .int .u8 0, .int .u8 0, .int .u8 0, .int .u8 0, .int .u8 0, .int .u8 0, .int .u8 0, .int .u8 0, .int .u8 0, .int .u8 0, .int .u8 0, .int .u8 0, .int .u8 0, .int .u8 0, .int .u8 0, .int .u8 0, .int .u8 0, .int .u8 0] 140)).setRow w3.heap.size (s.map b8).toArray) := below_setRow ((Below.refl _ w3).alloc (Nat.le_refl _) _) (Nat.le_refl _) _
    have hB4 : Below w.heap.size w ((w3.alloc (.cells #[.int .u8 0, .int .u8 0, .int .u8 0, .int .u8 0, .int .u8 0, .int .u8 0, .int .u8 0, .int .u8 0, .int .u8 0, .int .u8 0, .int .u8 0, .int .u8 0, .int .u8 0, .int .u8 0, .int .u8 0, .int .u8 0, .int .u8 0, .int .u8 0, .int .u8 0, .int .u8 0, .int .u8 0, .int .u8 0, .int .u8 0, .int .u8 0, .int .u8 0, .int .u8 0, .int .u8 0, .int .u8 0, .int .u8 0, .int .u8 0, .int .u8 0, .int .u8 0, .int .u8 0, .int .u8 0, .int .u8 0, .int .u8 0, .int .u8 0, .int .u8 0, .int .u8 0, .int .u8 0, .int .u8 0, .int .u8 0, .int .u8 0, .int .u8 0, .int .u8 0, .int .u8 0, .int .u8 0, .int .u8 0, .int .u8 0, .int .u8 0, .int .u8 0, .int .u8 0, .int .u8 0, .int .u8 0, .int .u8 0, .int .u8 0, .int .u8 0, .int .u8 0, .int .u8 0, .int .u8 0, .int .u8 0, .int .u8 0, .int .u8 0, .int .u8 0] 140)).setRow w3.heap.size (s.map b8).toArray) := hB03.trans (hB34.mono hB03.size)
    have s4 : ((w3.alloc (.cells #[.int .u8 0, .int .u8 0, .int .u8 0, .int .u8 0, .int .u8 0, .int .u8 0, .int .u8 0, .int .u8 0, .int .u8 0, .int .u8 0, .int .u8 0, .int .u8 0, .int .u8 0, .int .u8 0, .int .u8 0, .int .u8 0, .int .u8 0, .int .u8 0, .int .u8 0, .int .u8 0, .int .u8 0, .int .u8 0, .int .u8 0, .int .u8 0, .int .u8 0, .int .u8 0, .int .u8 0, .int .u8 0, .int .u8 0, .int .u8 0, .int .u8 0, .int .u8 0, .int .u8 0, .int .u8 0, .int .u8 0, .int .u8 0, .int .u8 0, .int .u8 0, .int .u8 0, .int .u8 0, .int .u8 0, .int .u8 0, .int .u8 0, .int .u8 0, .int .u8 0, .int .u8 0, .int .u8 0, .int .u8 0, .int .u8 0, .int .u8 0, .int .u8 0, .int .u8 0, .int .u8 0, .int .u8 0, .int .u8 0, .int .u8 0, .int .u8 0, .int .u8 0, .int .u8 0, .int .u8 0, .int .u8 0, .int .u8 0, .int .u8 0, .int .u8 0] 140)).setRow w3.heap.size (s.map b8).toArray).heap.size = w3.heap.size + 1 := by simp [World.setRow]
    have hs4 := hb4.inBT (by rw [HSL.out]; omega)
    generalize (w3.alloc (.cells #[.int .u8 0, .int .u8 0, .int .u8 0, .int .u8 0, .int .u8 0, .int .u8 0, .int .u8 0, .int .u8 0, .int .u8 0, .int .u8 0, .int .u8 0, .int .u8 0, .int .u8 0, .int .u8 0, .int .u8 0, .int .u8 0, .int .u8 0, .int .u8 0, .int .u8 0, .int .u8 0, .int .u8 0, .int .u8 0, .int .u8 0, .int .u8 0, .int .u8 0, .int .u8 0, .int .u8 0, .int .u8 0, .int .u8 0, .int .u8 0, .int .u8 0, .int .u8 0, .int .u8 0, .int .u8 0, .int .u8 0, .int .u8 0, .int .u8 0, .int .u8 0, .int .u8 0, .int .u8 0, .int .u8 0, .int .u8 0, .int .u8 0, .int .u8 0, .int .u8 0, .int .u8 0, .int .u8 0, .int .u8 0, .int .u8 0, .int .u8 0, .int .u8 0, .int .u8 0, .int .u8 0, .int .u8 0, .int .u8 0, .int .u8 0, .int .u8 0, .int .u8 0, .int .u8 0, .int .u8 0, .int .u8 0, .int .u8 0, .int .u8 0, .int .u8 0] 140)).setRow w3.heap.size (s.map b8).toArray = W4 at *
    rw [HSL.out] at hs4
    generalize w3.heap.size = g3 at *
    have hr5 : RdrAt (W4.alloc (.cells #[.slice (some ⟨g3, 0, none⟩) 64 64] 160)) (g3 + 1) (some ⟨g3, 0, none⟩) 64 s := by
      refine ⟨?_, ?_⟩
      · have := BlkIs.new W4 160 #[.slice (some ⟨g3, 0, none⟩) 64 64]
        rw [s4] at this
        rw [HSL.out]
        exact this
      · have := hs4.below ((Below.refl _ W4).alloc (Nat.le_refl _) (.cells #[.slice (some ⟨g3, 0, none⟩) 64 64] 160))
        rw [s4] at this
        exact this
    have hB5 : Below w.heap.size w (W4.alloc (.cells #[.slice (some ⟨g3, 0, none⟩) 64 64] 160)) := hB4.alloc hB4.size _
    have hg3 : w.heap.size ≤ g3 + 1 := by have := hB4.size; omega
    generalize W4.alloc (.cells #[.slice (some ⟨g3, 0, none⟩) 64 64] 160) = W5 at *
    have T := ftake_gives W5 (g3 + 1) 0 (some ⟨g3, 0, none⟩) 64 64 25 (by omega) (by omega) (by omega) (by rw [hr5.blk.cell, HSL.out]; rfl) (hr5.blk.free 0)
    have hr6 := hr5.cut 25 (by rw [HSL.out]; omega)
    rw [HSL.out] at hr6
    have hB6 : Below w.heap.size w (W5.setCell ⟨g3 + 1, 0, none⟩ (.slice (cutA (some ⟨g3, 0, none⟩) 64 25) (64 - 25) (64 - 25))) := hB5.setCell (p := ⟨g3 + 1, 0, none⟩) hg3 _
    refine T.mono ?_
    rintro x w' ⟨rfl, rfl⟩
    generalize W5.setCell ⟨g3 + 1, 0, none⟩ (.slice (cutA (some ⟨g3, 0, none⟩) 64 25) (64 - 25) (64 - 25)) = W6 at *
    have N := number32_gives W6 _ _ _ _ hr6 (by rw [List.length_drop, HSL.out]; omega)
    rw [HSUM.out] at N
    clear T hr5 hr6 hB5
    go_wp2_with (go_at_call 106; refine N.mono ?_; rintro x W7 ⟨rfl, _, hB⟩)
    exact bodyPost_ret (results_tmp2 rfl _ _ _) rfl ⟨rfl, hB6.trans (hB.mono hg3)⟩

end Go.Proofs.YtocnabpplbeafaaGreat
/- wal: rows of frames; their clones; the link. -/
namespace Go.Proofs.YtocnabpplbeafaaGreat
open Go Go.RowKit Lou

/-- A frame, in plain words. -/
structure FrP where
  e : Nat
  i : Int
  p : Int
  f : Bool
  z : Int
  n : Nat
  y : List UInt8
/-- A frame and its bytes' slice. -/
abbrev FrV := FrP × Option Addr × Nat
def FrV.arr (v : FrV) : Array Value := frCells v.1.e v.1.i v.1.p v.1.f v.1.z v.1.n v.2.1 v.1.y.length v.2.2
theorem FrV.arr_len (v : FrV) : v.arr.toList.length = 7 := rfl
theorem FrV.arr_one (v : FrV) : ∀ x ∈ v.arr.toList, x.oneCell' = true := frCells_one _ _ _ _ _ _ _ _ _
def vsC (vs : List FrV) : List Value := (vs.map fun v => v.arr.toList).flatten
theorem vsC_cons (v : FrV) (vs : List FrV) : vsC (v :: vs) = v.arr.toList ++ vsC vs := rfl
theorem vsC_append (xs ys : List FrV) : vsC (xs ++ ys) = vsC xs ++ vsC ys := by simp [vsC]
theorem vsC_one1 (v : FrV) : vsC [v] = v.arr.toList := by simp [vsC]
theorem vsC_length : ∀ vs : List FrV, (vsC vs).length = vs.length * 7
  | [] => rfl
  | v :: vs => by rw [vsC_cons, List.length_append, vsC_length vs, FrV.arr_len, List.length_cons]; omega
theorem vsC_one (vs : List FrV) : ∀ x ∈ vsC vs, x.oneCell' = true := by
  intro x hx
  unfold vsC at hx
  obtain ⟨l, hl, hx⟩ := List.mem_flatten.1 hx
  obtain ⟨v, _, rfl⟩ := List.mem_map.1 hl
  exact v.arr_one x hx
theorem vsC_elem (vs : List FrV) (j : Nat) (hj : j < vs.length) : ((vsC vs).drop (j * 7)).take 7 = vs[j].arr.toList := by
  have e : vsC vs = vsC (vs.take j) ++ (vs[j].arr.toList ++ vsC (vs.drop (j + 1))) := by
    rw [← vsC_cons, ← vsC_append, ← List.drop_eq_getElem_cons hj, List.take_append_drop]
  have hl : (vsC (vs.take j)).length = j * 7 := by rw [vsC_length, List.length_take]; congr 1; omega
  rw [e, ← hl, List.drop_left, List.take_left' (FrV.arr_len _)]
/-- A row of frames, and their bytes; nothing of it lies where Mu holds. -/
structure FrsIs (Mu : Nat → Prop) (w : World) (A : Option Addr) (c : Nat) (vs : List FrV) : Prop where
  row : InG w w.heap.size 7 A vs.length c (vsC vs)
  out : ∀ g o, A = some ⟨g, o, none⟩ → ¬ Mu g ∧ o = 0
  nil : vs = [] → A = none
  bys : ∀ v ∈ vs, InB w w.heap.size v.2.1 v.2.2 v.1.y ∧ ∀ g o, v.2.1 = some ⟨g, o, none⟩ → ¬ Mu g
theorem FrsIs.mt (Mu : Nat → Prop) (w : World) : FrsIs Mu w none 0 [] := ⟨InG.mt _ _ _, (fun _ _ e => by cases e), fun _ => rfl, fun v h => by cases h⟩
theorem InG.keepG {Mu : Nat → Prop} {w w' : World} {sz : Nat} {A : Option Addr} {n c : Nat} {cs : List Value} (h : InG w w.heap.size sz A n c cs) (hg : GrowBut Mu w w') (hn : ∀ g o, A = some ⟨g, o, none⟩ → ¬ Mu g) : InG w' w'.heap.size sz A n c cs :=
  ⟨h.le, h.max, h.nil, h.len, h.one, fun h0 => by
    obtain ⟨g, o, e, hgl, hr⟩ := h.lies h0
    exact ⟨g, o, e, Nat.lt_of_lt_of_le hgl hg.size, fun j v hj => hg.cell (hr j v hj) hgl (hn g o e)⟩⟩
theorem FrsIs.keep {Mu Nu : Nat → Prop} {w w' : World} {A : Option Addr} {c : Nat} {vs : List FrV} (h : FrsIs Mu w A c vs) (hg : GrowBut Nu w w') (hn : ∀ k, Nu k → k < w.heap.size → Mu k) : FrsIs Mu w' A c vs :=
  have hg2 : GrowBut Mu w w' := hg.more hn
  ⟨h.row.keepG hg2 (fun g o e => (h.out g o e).1), h.out, h.nil, fun v hv => ⟨GrowBut.inB hg2 (h.bys v hv).1 (fun g o e _ => (h.bys v hv).2 g o e), (h.bys v hv).2⟩⟩
theorem FrsIs.grow {Mu : Nat → Prop} {w w' : World} {A : Option Addr} {c : Nat} {vs : List FrV} (h : FrsIs Mu w A c vs) (hB : Below w.heap.size w w') : FrsIs Mu w' A c vs := h.keep (GrowBut.below (Mu := fun _ => False) hB) (fun _ h _ => h.elim)
set_option maxRecDepth 100000 in
set_option maxHeartbeats 1000000 in
theorem fclone_gives (w : World) (A : Option Addr) (c : Nat) (vs : List FrV) (hx : InG w w.heap.size 7 A vs.length c (vsC vs)) (hl : vs.length ≤ 10000) :
    Calls Tryz.prog 44 #[.slice A vs.length c] w fun e w' => ∃ v, e = .returned v ∧ w'.ownsRow w.heap.size 97 7 v vs.length (vsC vs) ∧ Below w.heap.size w w' := by
  rcases A with _ | ad
  · have hc := hx.nil rfl
    subst hc
    have hle := hx.le
    obtain rfl : vs = [] := List.eq_nil_of_length_eq_zero (by omega)
    have hq := fun W => run_eq_nil (P := Tryz.prog) W 55 97 none 0 0 Tryz.underlying55
    go_enter Tryz.func44, Tryz.ntmps44
    go_wp2
    go_ret
    exact ⟨_, rfl, World.ownsRow_nil _ _ _ _, Below.refl _ _⟩
  · have e0 : (w.alloc (.cells #[] 97)).ownsRow w.heap.size 97 7 (.slice (some ⟨w.heap.size, 0, none⟩) 0 0) 0 [] := World.ownsRow_lit w #[] 0 (Nat.le_refl _) (by unfold maxLen; omega) rfl
    have hB0 : Below w.heap.size w (w.alloc (.cells #[] 97)) := (Below.refl _ w).alloc (Nat.le_refl _) _
    have h1 := hx.below hB0
    have hq := fun W => run_eq_nil (P := Tryz.prog) W 55 97 (some ad) vs.length c Tryz.underlying55
    go_enter Tryz.func44, Tryz.ntmps44
    go_wp2_with (at_builtin; refine wp_appG rfl elFrame (.tmp 5) (.tmp 6) rfl w.heap.size (.slice (some ⟨w.heap.size, 0, none⟩) 0 0) 0 [] rfl e0 _ (some ad) vs.length c (vsC vs) rfl h1 (by unfold maxLen; omega) (by omega) (by simp) ?_; intro v1 w1 own1 hg1)
    go_ret
    rw [List.nil_append, Nat.zero_add] at own1
    exact ⟨_, rfl, own1, hB0.trans (grown_below hg1 hB0.size (ownG_ge e0))⟩
def FrP.sum (x : FrP) : Nat := fSum x.e x.i x.p x.f x.z x.n x.y
def linkOf (fs : List FrP) : Nat := match fs.getLast? with | some x => x.sum | none => 0
set_option maxRecDepth 100000 in
set_option maxHeartbeats 2000000 in
theorem link_gives (w : World) (A : Option Addr) (c : Nat) (vs : List FrV) (hx : InG w w.heap.size 7 A vs.length c (vsC vs)) (hb : ∀ v ∈ vs, InB w w.heap.size v.2.1 v.2.2 v.1.y) (hl : vs.length ≤ 10000) :
    Calls Tryz.prog 45 #[.slice A vs.length c] w fun e w' => e = .returned (.int .u32 (linkOf (vs.map (·.1)) : Int)) ∧ Below w.heap.size w w' := by
  rcases Nat.eq_zero_or_pos vs.length with h0 | h0
  · obtain rfl : vs = [] := List.eq_nil_of_length_eq_zero h0
    have hle := hx.le
    go_enter Tryz.func45, Tryz.ntmps45
    go_wp2
    go_ret
    exact ⟨rfl, Below.refl _ _⟩
  · obtain ⟨g, o, rfl, hg, hr⟩ := hx.lies h0
    have hel := hx.elem (vs.length - 1) (by omega)
    rw [vsC_elem vs (vs.length - 1) (by omega)] at hel
    obtain ⟨v, hv⟩ : ∃ v, v = vs[vs.length - 1]'(by omega) := ⟨_, rfl⟩
    have hm : v ∈ vs := by rw [hv]; exact List.getElem_mem _
    have hlk : linkOf (vs.map (·.1)) = v.1.sum := by
      unfold linkOf
      rw [List.getLast?_map, List.getLast?_eq_getElem?, List.getElem?_eq_getElem (by omega), ← hv]
      rfl
    rw [hlk]
    rw [← hv] at hel
    have hle := hx.le
    have HS := fsum_gives v.1.e v.1.i v.1.p v.1.f v.1.z v.1.n v.2.1 v.2.2 v.1.y w (hb v hm)
    have h7 : v.arr.toList.length = 7 := rfl
    have hwn : IntKind.i64.wrap ((vs.length : Int) - 1) = ((vs.length - 1 : Nat) : Int) := by rw [wrap_i64_fr _ (by omega) (by omega)]; omega
    have e1 : (.agg v.arr.toList.toArray : Value) = .agg (frCells v.1.e v.1.i v.1.p v.1.f v.1.z v.1.n v.2.1 v.1.y.length v.2.2) := rfl
    have hsum : v.1.sum = fSum v.1.e v.1.i v.1.p v.1.f v.1.z v.1.n v.1.y := rfl
    rw [← hsum, ← e1] at HS
    generalize fErr v.1.i v.1.p v.1.f v.1.z v.1.y = er at HS
    generalize v.1.sum = S at *
    generalize v.arr.toList = C at *
    clear hsum e1 hlk hv hm hb hr hx
    generalize hn : vs.length = n at *
    have hlt : n - 1 < n := by omega
    go_enter Tryz.func45, Tryz.ntmps45
    go_wp2_with (first
      | (refine wp_exec rfl (x_loadM rowFrame hel h7 rfl rfl) ?_)
      | (go_at_call 86; refine HS.mono ?_; rintro e w2 ⟨rfl, hB2⟩))
    go_ret
    exact ⟨rfl, hB2⟩
end Go.Proofs.YtocnabpplbeafaaGreat
