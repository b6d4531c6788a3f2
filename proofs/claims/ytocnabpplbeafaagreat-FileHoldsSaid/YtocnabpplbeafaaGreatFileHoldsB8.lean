/- Texts that the proof of FileHolds leans on, part 8. -/
import Derived.Test.YtocnabpplbeafaaGreatFileHoldsB7
/- disk: Crash. -/
namespace Go.Proofs.YtocnabpplbeafaaGreat
open Go Go.RowKit Lou

/-- The loose writes that are kept, of the first i. -/
def keptTo (xs : List (Nat × List UInt8)) (bs : List Bool) : Nat → List (Nat × List UInt8)
  | 0 => []
  | i + 1 => if bs.getD i false then keptTo xs bs i ++ [xs.getD i (0, zer64)] else keptTo xs bs i
theorem keptTo_le (xs : List (Nat × List UInt8)) (bs : List Bool) : ∀ i, (keptTo xs bs i).length ≤ i
  | 0 => Nat.le_refl _
  | i + 1 => by
    unfold keptTo
    have := keptTo_le xs bs i
    split
    · simp; omega
    · omega
theorem keptTo_wide {xs : List (Nat × List UInt8)} (hw : Wide xs) (bs : List Bool) : ∀ i, Wide (keptTo xs bs i)
  | 0 => fun x h => by simp [keptTo] at h
  | i + 1 => by
    unfold keptTo
    split
    · intro x hx
      rcases List.mem_append.1 hx with h | h
      · exact keptTo_wide hw bs i x h
      · obtain rfl : x = xs.getD i (0, zer64) := by simpa using h
        rw [List.getD_eq_getElem?_getD]
        cases hq : xs[i]? with
        | none => decide
        | some y => exact hw y (List.mem_of_getElem? hq)
    · exact keptTo_wide hw bs i
/-- The last of the writes that are kept may be torn: of it the first t bytes alone have come. -/
def torn (g : Nat → List UInt8) (ks : List (Nat × List UInt8)) (t : Nat) : List (Nat × List UInt8) :=
  if ks = [] ∨ t = 0 then ks else ks.dropLast ++ [((ks.getLastD (0, zer64)).1, (ks.getLastD (0, zer64)).2.take t ++ (laid g ks.dropLast (ks.getLastD (0, zer64)).1).drop t)]
theorem torn_none (g : Nat → List UInt8) (ks : List (Nat × List UInt8)) (t : Nat) (h : ks = [] ∨ t = 0) : torn g ks t = ks := if_pos h
theorem setRow_grownBy (w : World) (p : Nat) (cs : Array Value) : w.grownBy (w.setRow p cs) (some p) := ⟨rfl, rfl, rfl, by simp [World.setRow], fun k _ hk => setRow_other w p k cs (fun e => hk (by rw [e]))⟩
section
variable (w : World) (p many : Nat) (g : Nat → List UInt8) (xs : List (Nat × List UInt8)) (left : Int) (stops : Bool)
set_option maxRecDepth 100000 in
set_option maxHeartbeats 4000000 in
theorem crash_gives (hD : DkIs w p many g xs left stops) (t : Nat) (ht : t ≤ 63) (K : Option Addr) (kc : Nat) (bs : List Bool) (hk : InG w w.heap.size 1 K bs.length kc (bs.map Value.bool)) (hl : xs.length ≤ 1000000) :
    Calls Tryz.prog 19 #[.pointer (some ⟨p, 0, none⟩), .int .i64 (t : Int), .slice K bs.length kc] w fun e w' => e = .returned (.int .i64 0) ∧ DkIs w' p many (laid g (torn g (keptTo xs bs xs.length) t)) [] 0 false ∧ w.grownBy w' (some p) := by
  have hB0 : Below w.heap.size w (w.alloc (.cells #[.int .i64 (t : Int)] 3)) := (Below.refl _ w).alloc (Nat.le_refl _) _
  have b0 := BlkIs.new w 3 #[.int .i64 (t : Int)]
  have HA : Calls Tryz.prog 58 #[.pointer (some ⟨p, 0, none⟩), .slice (some ⟨w.heap.size + 1, 0, none⟩) 1 1] ((w.alloc (.cells #[.int .i64 (t : Int)] 3)).alloc (.cells #[.func (.func 60) #[] #[.pointer (some ⟨w.heap.size, 0, none⟩)], .int .i64 2] 113)) fun e w' => e = .returned (.int .i64 0) ∧ Below (w.heap.size + 1) (w.alloc (.cells #[.int .i64 (t : Int)] 3)) w' := by
    have h := asked1_gives (w.alloc (.cells #[.int .i64 (t : Int)] 3)) p many g xs left stops (hD.grow hB0) (askTear w.heap.size t) (ans_tear _ w.heap.size t b0)
    have hf : firstE [askTear w.heap.size t] = 0 := firstE_none _ (fun j h => by
      have : j = 0 := by simp at h; omega
      subst this
      simp [askTear]
      omega)
    rw [hf, World.size_alloc] at h
    exact h
  have hkm := hk.le
  have hkx := hk.max
  go_enter Tryz.func19, Tryz.ntmps19
  go_wp2_with (go_at_call 58; refine HA.mono ?_; rintro e w2 ⟨rfl, hB2⟩; have hB3 : Below w.heap.size w w2 := hB0.trans (hB2.mono (by omega)); have b2 := b0.below hB2 (Nat.lt_succ_self _); obtain ⟨r, A, c, hb, hm, hw, hx⟩ := (hD.grow hB3).has; have k2 : w2.cell? ⟨p, 2, none⟩ = some (.slice A xs.length c) := (by rw [hb.cell]; rfl))
  have hxk := hk.grow hB3
  go_loopw [8, 26] (fun v i wr => ∃ (k : Nat) (A8 : Option Addr) (c8 : Nat), k ≤ xs.length ∧ i = .int .i64 k ∧ v = .slice A8 (keptTo xs bs k).length c8 ∧ wr.ownsRow w2.heap.size 110 65 (.slice A8 (keptTo xs bs k).length c8) (keptTo xs bs k).length (flC (keptTo xs bs k)) ∧ Below w2.heap.size w2 wr) (fun _ i _ => xs.length - (intOf i).toNat)
  case atStart => exact ⟨0, none, 0, by omega, rfl, rfl, World.ownsRow_nil _ _ _ _, Below.refl _ _⟩
  case round =>
    obtain ⟨k, A8, c8, hkl, rfl, rfl, own, hBr⟩ := hrel
    by_cases hlt : k < xs.length
    · obtain ⟨gA, oA, rfl, hgA, _⟩ := hx.lies (by omega)
      have hr : wr.rangeAt gA (oA + k * 65) (lsC xs[k]) := fun j v hj => (hBr.cell (p := ⟨gA, oA + k * 65 + j, none⟩) hgA).trans (InW.elem ⟨hw, hx⟩ k hlt j v hj)
      have hw6 : xs[k].2.length = 64 := hw _ (List.getElem_mem hlt)
      have hwk : IntKind.i64.wrap ((k : Int) + 1) = (k : Int) + 1 := wrap_i64_fr _ (by omega) (by omega)
      have hyes : bs.getD k false = true → keptTo xs bs (k + 1) = keptTo xs bs k ++ [xs[k]] := fun h => by
        have e : keptTo xs bs (k + 1) = if bs.getD k false then keptTo xs bs k ++ [xs.getD k (0, zer64)] else keptTo xs bs k := rfl
        rw [e, if_pos h, List.getD_eq_getElem?_getD, List.getElem?_eq_getElem hlt]
        rfl
      have hnot : bs.getD k false = false → keptTo xs bs (k + 1) = keptTo xs bs k := fun h => by
        rw [keptTo, h]
        rfl
      have hkn : (keptTo xs bs k).length ≤ k := keptTo_le xs bs k
      obtain ⟨x, hxe⟩ : ∃ x, x = xs[k] := ⟨_, rfl⟩
      rw [← hxe] at hr hw6 hyes
      obtain ⟨x1, x2⟩ := x
      simp only at hw6
      have L65 := lsC_length (x := (x1, x2)) hw6
      have hz1 : (lsC (x1, x2)).toArray.size = (lsC (0, zer64)).toArray.size := by rw [List.size_toArray, List.size_toArray, L65]; rfl
      have n0 := BlkIs.new wr 110 (lsC (0, zer64)).toArray
      have nb := n0.setRow (lsC (x1, x2)).toArray
      have nB : Below wr.heap.size wr ((wr.alloc (.cells (lsC (0, zer64)).toArray 110)).setRow wr.heap.size (lsC (x1, x2)).toArray) := below_setRow ((Below.refl _ wr).alloc (Nat.le_refl _) _) (Nat.le_refl _) _
      obtain ⟨W, hW⟩ : ∃ W, W = (wr.alloc (.cells (lsC (0, zer64)).toArray 110)).setRow wr.heap.size (lsC (x1, x2)).toArray := ⟨_, rfl⟩
      rw [← hW] at nb nB
      have hBW := hBr.trans (nB.mono hBr.size)
      have ownW := ownG_grow own nB
      have hsz65 : (lsC (x1, x2)).toArray.size = 65 := by rw [List.size_toArray, L65]
      have HW := Lib.hid hW
      have H6 := Lib.hid hw6
      have H65 := Lib.hid L65
      have HR := Lib.hid hr
      have HZ1 := Lib.hid hz1
      have HS65 := Lib.hid hsz65
      clear hW hw6 L65 hr hz1 hsz65 hxe HA hBr own
      rcases hkb : decide (k < bs.length) with _ | _
      · have hN := Lib.hid (hnot (by
          have : ¬ k < bs.length := of_decide_eq_false hkb
          rw [List.getD_eq_getElem?_getD, List.getElem?_eq_none (by omega)]
          rfl))
        clear hyes hnot
        go_wp2_with (first
          | (refine wp_exec rfl (x_loadM rowLoose HR.out H65.out rfl rfl) ?_)
          | (refine wp_exec rfl (x_allocLs rfl) ?_)
          | (refine wp_storeW rfl 110 (.tmp 10) (.tmp 30) rfl wr.heap.size rfl rfl rowLoose n0 (by rfl) HZ1.out (lsC_one _) ?_; rw [← HW.out]))
        refine ⟨⟨k + 1, A8, c8, by omega, by simp, by rw [hN.out], ?_, hBW⟩, by simp [intOf]; omega⟩
        rw [hN.out]
        exact ownW
      · have hkl2 : k < bs.length := of_decide_eq_true hkb
        have hgd : bs.getD k false = bs[k] := by rw [List.getD_eq_getElem?_getD, List.getElem?_eq_getElem hkl2]; rfl
        obtain ⟨gK, oK, rfl, hgK, hrK⟩ := hk.lies (by omega)
        have hcK : W.cell? ⟨gK, oK + k, none⟩ = some (.bool bs[k]) := by
          rw [hBW.cell (p := ⟨gK, oK + k, none⟩) (Nat.lt_of_lt_of_le hgK hB3.size), hB3.cell (p := ⟨gK, oK + k, none⟩) hgK]
          exact hrK k _ (by simp [hkl2])
        have h0k : (0 : Int) ≤ (k : Int) := by omega
        have hkk : (k : Int) < (bs.length : Int) := by omega
        rw [hgd] at hyes hnot
        generalize bs[k] = bk at *
        cases bk with
        | false =>
          have hN := Lib.hid (hnot rfl)
          clear hyes hnot hgd
          go_wp2_with (first
            | (refine wp_exec rfl (x_loadM rowLoose HR.out H65.out rfl rfl) ?_)
            | (refine wp_exec rfl (x_allocLs rfl) ?_)
            | (refine wp_storeW rfl 110 (.tmp 10) (.tmp 30) rfl wr.heap.size rfl rfl rowLoose n0 (by rfl) HZ1.out (lsC_one _) ?_; rw [← HW.out]))
          refine ⟨⟨k + 1, A8, c8, by omega, by simp, by rw [hN.out], ?_, hBW⟩, by simp [intOf]; omega⟩
          rw [hN.out]
          exact ownW
        | true =>
          have hN := Lib.hid (hyes rfl)
          have hBa : Below W.heap.size W (W.alloc (.cells (lsC (x1, x2)).toArray 110)) := (Below.refl _ W).alloc (Nat.le_refl _) _
          clear hyes hnot hgd
          go_wp2_with (first
            | (refine wp_exec rfl (x_loadM rowLoose HR.out H65.out rfl rfl) ?_)
            | (refine wp_exec rfl (x_allocLs rfl) ?_)
            | (refine wp_storeW rfl 110 (.tmp 10) (.tmp 30) rfl wr.heap.size rfl rfl rowLoose n0 (by rfl) HZ1.out (lsC_one _) ?_; rw [← HW.out])
            | (refine wp_loadW rfl 110 (.tmp 10) rfl wr.heap.size rfl rowLoose nb HS65.out ?_)
            | (refine wp_exec rfl (x_sliceLs x1 x2 H6.out rfl rfl) ?_)
            | (at_builtin; refine wp_appG rfl elLoose (.tmp 41) (.tmp 43) rfl w2.heap.size (.slice A8 (keptTo xs bs k).length c8) (keptTo xs bs k).length (flC (keptTo xs bs k)) rfl (ownG_grow ownW hBa) _ _ 1 1 (lsC (x1, x2)) rfl (row_new W x1 x2 H6.out) (by unfold maxLen; omega) (by omega) (hBW.trans (hBa.mono hBW.size)).size ?_; intro v5 w5 own5 hg5))
          have e1 : flC [(x1, x2)] = lsC (x1, x2) := by simp [flC]
          have hB5 := (hBW.trans (hBa.mono hBW.size)).trans (grown_below hg5 (hBW.trans (hBa.mono hBW.size)).size (ownG_ge (ownG_grow ownW hBa)))
          rw [← e1, ← flC_append] at own5
          obtain ⟨A5, c5, rfl, _⟩ := ownG_in own5 (flC_one _)
          refine ⟨⟨k + 1, A5, c5, by omega, by simp, by rw [hN.out, List.length_append]; rfl, ?_, hB5⟩, by simp [intOf]; omega⟩
          rw [hN.out, List.length_append]
          exact own5
    · obtain rfl : k = xs.length := by omega
      have hwks := keptTo_wide hw bs xs.length
      have hkn := keptTo_le xs bs xs.length
      have hc4 : wr.cell? ⟨w.heap.size, 0, none⟩ = some (.int .i64 (t : Int)) := (hBr.cell (p := ⟨w.heap.size, 0, none⟩) b2.lt).trans b2.boxed
      obtain ⟨ks, hks⟩ : ∃ ks, ks = keptTo xs bs xs.length := ⟨_, rfl⟩
      rw [← hks] at hwks hkn own
      rw [← hks]
      have HKS := Lib.hid hks
      clear hks
      have hwk : IntKind.i64.wrap ((ks.length : Int) - 1) = (ks.length : Int) - 1 := wrap_i64_fr _ (by omega) (by omega)
      have hin8 : InW wr wr.heap.size A8 c8 ks := by
        obtain ⟨A', c', e, h⟩ := ownG_in own (flC_one _)
        injection e with e1 e2 e3
        subst e1 e3
        exact ⟨hwks, h⟩
      have hBw : Below w.heap.size w wr := hB3.trans (hBr.mono hB3.size)
      have hbr := hb.below hBr hb.lt
      have hmr := hm.below hBr hm.lt
      have hplt := hbr.lt
      have hmlt := hmr.lt
      by_cases htr : ks = [] ∨ t = 0
      · have HTQ := Lib.hid htr
        have HTR := Lib.hid (torn_none g ks t htr)
        clear htr
        obtain ⟨A9, c9, ks9, wz, h9a, h9b, h9c, h9d⟩ : ∃ (A9 : Option Addr) (c9 : Nat) (ks9 : List (Nat × List UInt8)) (wz : World), A9 = A8 ∧ c9 = c8 ∧ ks9 = ks ∧ wz = wr := ⟨_, _, _, _, rfl, rfl, rfl, rfl⟩
        subst h9a h9b h9c h9d
        go_wp2
        all_goals first
          | (exfalso; rcases HTQ.out with h | h; (have h' : ks9.length = 0 := (by rw [h]; rfl); omega); omega)
          | skip
        all_goals
          have HP : ∀ W, Below wz.heap.size wz W → W.cell? ⟨p, 0, none⟩ = some (.map (some r)) ∧ W.cell? ⟨p, 1, none⟩ = some (.int .i64 (many : Int)) := fun W hW => by
            have b := hbr.below hW hplt
            exact ⟨by rw [b.cell]; rfl, by rw [b.cell]; rfl⟩
          have hBd : Below wz.heap.size wz wz.drew := (Below.refl _ wz).drew
          have HN := now_gives wz.drew r g A9 c9 ks9 (hmr.grow hBd) (hin8.grow hBd) (by omega)
          refine RegF.start (fun W => Below wz.heap.size wz W) 13 (by kernel_rfl) ?_
          refine RegF.take 0 (.pointer (some ⟨p, 0, none⟩)) rfl (by kernel_rfl) (by kernel_rfl) (by kernel_rfl) (by kernel_rfl) (fun _ _ _ h => h) hBd (RegF.yld rfl (fun W hW => by go_simp)) ?_
          simp only [List.getElem_toArray, List.getElem_cons_zero, Act.put, List.setIfInBounds_toArray, List.set_cons_zero, List.set_cons_succ]
          refine RegF.take 1 (.pointer (some ⟨p, 0, none⟩)) rfl (by kernel_rfl) (by kernel_rfl) (by kernel_rfl) (by kernel_rfl) (fun _ _ _ h => h) hBd (RegF.yld rfl (fun W hW => by go_simp)) ?_
          simp only [List.getElem_toArray, List.getElem_cons_succ, List.getElem_cons_zero, Act.put, List.setIfInBounds_toArray, List.set_cons_zero, List.set_cons_succ]
          refine RegF.take 2 (.pointer (some ⟨p, 0, none⟩)) rfl (by kernel_rfl) (by kernel_rfl) (by kernel_rfl) (by kernel_rfl) (fun _ _ _ h => h) hBd (RegF.yld rfl (fun W hW => by go_simp)) ?_
          simp only [List.getElem_toArray, List.getElem_cons_succ, List.getElem_cons_zero, Act.put, List.setIfInBounds_toArray, List.set_cons_zero, List.set_cons_succ]
          refine RegF.take 3 (.pointer (some ⟨p, 0, none⟩)) rfl (by kernel_rfl) (by kernel_rfl) (by kernel_rfl) (by kernel_rfl) (fun _ _ _ h => h) hBd (RegF.yld rfl (fun W hW => by go_simp)) ?_
          simp only [List.getElem_toArray, List.getElem_cons_succ, List.getElem_cons_zero, Act.put, List.setIfInBounds_toArray, List.set_cons_zero, List.set_cons_succ]
          refine RegF.take 4 (.map (some r)) rfl (by kernel_rfl) (by kernel_rfl) (by kernel_rfl) (by kernel_rfl) (fun _ _ _ h => h) hBd (RegF.yld rfl (fun W hW => by have e := (HP W hW).1; go_simp)) ?_
          simp only [List.getElem_toArray, List.getElem_cons_succ, List.getElem_cons_zero, Act.put, List.setIfInBounds_toArray, List.set_cons_zero, List.set_cons_succ]
          refine RegF.take 5 (.slice A9 ks9.length c9) rfl (by kernel_rfl) (by kernel_rfl) (by kernel_rfl) (by kernel_rfl) (fun _ _ _ h => h) hBd (RegF.yld rfl (fun W hW => by go_simp)) ?_
          simp only [List.getElem_toArray, List.getElem_cons_succ, List.getElem_cons_zero, Act.put, List.setIfInBounds_toArray, List.set_cons_zero, List.set_cons_succ]
          refine RegF.take 7 (.pointer (some ⟨p, 0, none⟩)) rfl (by kernel_rfl) (by kernel_rfl) (by kernel_rfl) (by kernel_rfl) (fun _ _ _ h => h) hBd (RegF.yld rfl (fun W hW => by go_simp)) ?_
          simp only [List.getElem_toArray, List.getElem_cons_succ, List.getElem_cons_zero, Act.put, List.setIfInBounds_toArray, List.set_cons_zero, List.set_cons_succ]
          refine RegF.take 8 (.pointer (some ⟨p, 0, none⟩)) rfl (by kernel_rfl) (by kernel_rfl) (by kernel_rfl) (by kernel_rfl) (fun _ _ _ h => h) hBd (RegF.yld rfl (fun W hW => by go_simp)) ?_
          simp only [List.getElem_toArray, List.getElem_cons_succ, List.getElem_cons_zero, Act.put, List.setIfInBounds_toArray, List.set_cons_zero, List.set_cons_succ]
          refine RegF.take 9 (.pointer (some ⟨p, 1, none⟩)) rfl (by kernel_rfl) (by kernel_rfl) (by kernel_rfl) (by kernel_rfl) (fun _ _ _ h => h) hBd (RegF.yld rfl (fun W hW => by go_simp)) ?_
          simp only [List.getElem_toArray, List.getElem_cons_succ, List.getElem_cons_zero, Act.put, List.setIfInBounds_toArray, List.set_cons_zero, List.set_cons_succ]
          refine RegF.take 10 (.int .i64 (many : Int)) rfl (by kernel_rfl) (by kernel_rfl) (by kernel_rfl) (by kernel_rfl) (fun _ _ _ h => h) hBd (RegF.yld rfl (fun W hW => by have e := (HP W hW).2; go_simp)) ?_
          simp only [List.getElem_toArray, List.getElem_cons_succ, List.getElem_cons_zero, Act.put, List.setIfInBounds_toArray, List.set_cons_zero, List.set_cons_succ]
          refine RegF.one 6 (by kernel_rfl) ?_
          refine RegF.opC 61 #[.tmp 89, .tmp 90] #[82, 83] rfl rfl rfl (enters_of Tryz.func61 (by kernel_rfl) rfl) #[.map (some r), .slice A9 ks9.length c9] (by simp only [List.map_toArray, List.map_cons, List.map_nil]; rfl) (HN.mono ?_)
          rintro e w6 ⟨rfl, hm6, hB6⟩
          have hB6w : Below wz.heap.size wz w6 := hBd.trans (hB6.mono hBd.size)
          have hb6 := hbr.below hB6w hplt
          refine ⟨_, rfl, fun _ => hB6w, ?_⟩
          simp only [List.getElem_toArray, List.getElem_cons_succ, List.getElem_cons_zero, Act.put, List.setIfInBounds_toArray, List.set_cons_zero, List.set_cons_succ]
          refine RegF.one 11 (by kernel_rfl) ?_
          refine RegF.opV (.agg (dkC wz.heap.size many none 0 0 0 false)) rfl rfl (by unfold dkC; go_simp) ⟨fun _ => hB6w, ?_⟩
          simp only [List.getElem_toArray, List.getElem_cons_succ, List.getElem_cons_zero, Act.put, List.setIfInBounds_toArray, List.set_cons_zero, List.set_cons_succ]
          refine RegF.one 12 (by kernel_rfl) ?_
          refine RegF.opV (.pointer (some ⟨p, 0, none⟩)) rfl rfl (by go_simp) ⟨fun _ => hB6w, ?_⟩
          simp only [List.getElem_toArray, List.getElem_cons_succ, List.getElem_cons_zero, Act.put, List.setIfInBounds_toArray, List.set_cons_zero, List.set_cons_succ]
          refine RegF.one 13 (by kernel_rfl) ?_
          refine RegF.opS (w' := w6.setRow p (dkC wz.heap.size many none 0 0 0 false)) rfl rfl (x_storeW _ (.tmp 97) (.tmp 96) rfl p rfl rfl rowDisk hb6 rfl rfl (dkC_one _ _ _ _ _ _ _)) ⟨fun h => absurd rfl h, ?_⟩
          simp only [List.getElem_toArray, List.getElem_cons_succ, List.getElem_cons_zero, Act.put]
          refine RegF.done (by kernel_rfl) ?_
          have hfin : DkIs (w6.setRow p (dkC wz.heap.size many none 0 0 0 false)) p many (laid g ks9) [] 0 false := ⟨wz.heap.size, none, 0, hb6.setRow _, hm6.keep (setRow_other _ _ _ _ (show wz.heap.size ≠ p by omega)), InW.mt _ _⟩
          have hgfin : w.grownBy (w6.setRow p (dkC wz.heap.size many none 0 0 0 false)) (some p) := grownBy_trans (below_grownBy (hBw.trans (hB6w.mono hBw.size)) p) (setRow_grownBy w6 p _)
          generalize w6.setRow p (dkC wz.heap.size many none 0 0 0 false) = w7 at *
          go_wp2
          go_ret
          exact ⟨rfl, (by rw [← HKS.out, HTR.out]; exact hfin), hgfin⟩
      · have hne : ks ≠ [] := fun h => htr (.inl h)
        have ht0 : 0 < t := by
          rcases Nat.eq_zero_or_pos t with h | h
          · exact absurd (.inr h) htr
          · exact h
        obtain ⟨ki, ⟨x1, x2⟩, hke⟩ : ∃ ki x, ks = ki ++ [x] := ⟨ks.dropLast, ks.getLast hne, (List.dropLast_concat_getLast hne).symm⟩
        obtain ⟨m, hm1⟩ : ∃ m, m = ki.length := ⟨_, rfl⟩
        have hlen : ks.length = m + 1 := by rw [hke, hm1]; simp
        rw [hlen] at own hkn hwk
        have hin8' := hin8.2
        rw [hlen] at hin8'
        obtain ⟨g8, o8, e8, hg8, hr8⟩ := hin8'.lies (by omega)
        have hc8 := hin8'.le
        have ho8 : o8 = 0 := by
          rcases own.2 with ⟨e, _⟩ | ⟨g', cap, cur, e, _⟩
          · cases e
          · injection e with e1 e2 e3
            rw [e8] at e1
            injection e1 with e1
            injection e1
        subst ho8
        subst e8
        rw [hlen]
        have hE : wr.cell? ⟨g8, m * 65, none⟩ = some (.int .i64 (x1 : Int)) := by
          have h := InW.elem hin8 m (by rw [hlen]; omega) 0
          have e : ks[m]'(by rw [hlen]; omega) = (x1, x2) := by simp [hke, hm1]
          rw [e] at h
          have := h _ rfl
          simpa using this
        have HP : ∀ W, Below wr.heap.size wr W → W.cell? ⟨p, 0, none⟩ = some (.map (some r)) := fun W hW => by
          have b := hbr.below hW hplt
          rw [b.cell]; rfl
        have HE : ∀ W, Below wr.heap.size wr W → W.cell? ⟨g8, m * 65, none⟩ = some (.int .i64 (x1 : Int)) := fun W hW => (hW.cell (p := ⟨g8, m * 65, none⟩) hg8).trans hE
        have hBd : Below wr.heap.size wr wr.drew := (Below.refl _ wr).drew
        have hwm : IntKind.i64.wrap (((m + 1 : Nat) : Int) - 1) = (m : Int) := by rw [hwk]; omega
        have hm0 : (0 : Int) ≤ (m : Int) := by omega
        have hmc : (m : Int) ≤ (c8 : Int) := by omega
        have hmm : (m : Int) < ((m + 1 : Nat) : Int) := by omega
        have HM := Lib.hid hm1
        have HL := Lib.hid hlen
        have HE2 := Lib.hid hke
        clear hwk htr hm1 hlen hke hne
        go_wp2
        refine RegF.start (fun W => Below wr.heap.size wr W) 16 (by kernel_rfl) ?_
        refine RegF.take 0 (.pointer (some ⟨p, 0, none⟩)) rfl (by kernel_rfl) (by kernel_rfl) (by kernel_rfl) (by kernel_rfl) (fun _ _ _ h => h) hBd (RegF.yld rfl (fun W hW => by go_simp)) ?_
        simp only [List.getElem_toArray, List.getElem_cons_zero, Act.put, List.setIfInBounds_toArray, List.set_cons_zero, List.set_cons_succ]
        refine RegF.take 1 (.pointer (some ⟨p, 0, none⟩)) rfl (by kernel_rfl) (by kernel_rfl) (by kernel_rfl) (by kernel_rfl) (fun _ _ _ h => h) hBd (RegF.yld rfl (fun W hW => by go_simp)) ?_
        simp only [List.getElem_toArray, List.getElem_cons_succ, List.getElem_cons_zero, Act.put, List.setIfInBounds_toArray, List.set_cons_zero, List.set_cons_succ]
        refine RegF.take 2 (.pointer (some ⟨p, 0, none⟩)) rfl (by kernel_rfl) (by kernel_rfl) (by kernel_rfl) (by kernel_rfl) (fun _ _ _ h => h) hBd (RegF.yld rfl (fun W hW => by go_simp)) ?_
        simp only [List.getElem_toArray, List.getElem_cons_succ, List.getElem_cons_zero, Act.put, List.setIfInBounds_toArray, List.set_cons_zero, List.set_cons_succ]
        refine RegF.take 3 (.map (some r)) rfl (by kernel_rfl) (by kernel_rfl) (by kernel_rfl) (by kernel_rfl) (fun _ _ _ h => h) hBd (RegF.yld rfl (fun W hW => by have e := HP W hW; go_simp)) ?_
        simp only [List.getElem_toArray, List.getElem_cons_succ, List.getElem_cons_zero, Act.put, List.setIfInBounds_toArray, List.set_cons_zero, List.set_cons_succ]
        refine RegF.take 4 (.slice (some ⟨g8, 0, none⟩) (m + 1) c8) rfl (by kernel_rfl) (by kernel_rfl) (by kernel_rfl) (by kernel_rfl) (fun _ _ _ h => h) hBd (RegF.yld rfl (fun W hW => by go_simp)) ?_
        simp only [List.getElem_toArray, List.getElem_cons_succ, List.getElem_cons_zero, Act.put, List.setIfInBounds_toArray, List.set_cons_zero, List.set_cons_succ]
        refine RegF.take 5 (.int .i64 (m : Int)) rfl (by kernel_rfl) (by kernel_rfl) (by kernel_rfl) (by kernel_rfl) (fun _ _ _ h => h) hBd (RegF.yld rfl (fun W hW => by go_simp)) ?_
        simp only [List.getElem_toArray, List.getElem_cons_succ, List.getElem_cons_zero, Act.put, List.setIfInBounds_toArray, List.set_cons_zero, List.set_cons_succ]
        refine RegF.take 6 (.int .i64 (m : Int)) rfl (by kernel_rfl) (by kernel_rfl) (by kernel_rfl) (by kernel_rfl) (fun _ _ _ h => h) hBd (RegF.yld rfl (fun W hW => by go_simp)) ?_
        simp only [List.getElem_toArray, List.getElem_cons_succ, List.getElem_cons_zero, Act.put, List.setIfInBounds_toArray, List.set_cons_zero, List.set_cons_succ]
        refine RegF.take 7 (.slice (some ⟨g8, 0, none⟩) m m) rfl (by kernel_rfl) (by kernel_rfl) (by kernel_rfl) (by kernel_rfl) (fun _ _ _ h => h) hBd (RegF.yld rfl (fun W hW => by go_simp)) ?_
        simp only [List.getElem_toArray, List.getElem_cons_succ, List.getElem_cons_zero, Act.put, List.setIfInBounds_toArray, List.set_cons_zero, List.set_cons_succ]
        refine RegF.take 9 (.slice (some ⟨g8, 0, none⟩) (m + 1) c8) rfl (by kernel_rfl) (by kernel_rfl) (by kernel_rfl) (by kernel_rfl) (fun _ _ _ h => h) hBd (RegF.yld rfl (fun W hW => by go_simp)) ?_
        simp only [List.getElem_toArray, List.getElem_cons_succ, List.getElem_cons_zero, Act.put, List.setIfInBounds_toArray, List.set_cons_zero, List.set_cons_succ]
        refine RegF.take 10 (.int .i64 (m : Int)) rfl (by kernel_rfl) (by kernel_rfl) (by kernel_rfl) (by kernel_rfl) (fun _ _ _ h => h) hBd (RegF.yld rfl (fun W hW => by go_simp)) ?_
        simp only [List.getElem_toArray, List.getElem_cons_succ, List.getElem_cons_zero, Act.put, List.setIfInBounds_toArray, List.set_cons_zero, List.set_cons_succ]
        refine RegF.take 11 (.pointer (some ⟨g8, m * 65, none⟩)) rfl (by kernel_rfl) (by kernel_rfl) (by kernel_rfl) (by kernel_rfl) (fun _ _ _ h => h) hBd (RegF.yld rfl (fun W hW => by go_simp; intro h; omega)) ?_
        simp only [List.getElem_toArray, List.getElem_cons_succ, List.getElem_cons_zero, Act.put, List.setIfInBounds_toArray, List.set_cons_zero, List.set_cons_succ]
        refine RegF.take 12 (.pointer (some ⟨g8, m * 65, none⟩)) rfl (by kernel_rfl) (by kernel_rfl) (by kernel_rfl) (by kernel_rfl) (fun _ _ _ h => h) hBd (RegF.yld rfl (fun W hW => by go_simp)) ?_
        simp only [List.getElem_toArray, List.getElem_cons_succ, List.getElem_cons_zero, Act.put, List.setIfInBounds_toArray, List.set_cons_zero, List.set_cons_succ]
        refine RegF.take 13 (.int .i64 (x1 : Int)) rfl (by kernel_rfl) (by kernel_rfl) (by kernel_rfl) (by kernel_rfl) (fun _ _ _ h => h) hBd (RegF.yld rfl (fun W hW => by have e := HE W hW; go_simp)) ?_
        simp only [List.getElem_toArray, List.getElem_cons_succ, List.getElem_cons_zero, Act.put, List.setIfInBounds_toArray, List.set_cons_zero, List.set_cons_succ]
        have HN : ∀ W, Below wr.heap.size wr W → Calls Tryz.prog 61 #[.map (some r), .slice (some ⟨g8, 0, none⟩) m m] W fun e w' => e = .returned (.map (some W.heap.size)) ∧ MapF w' W.heap.size (laid g ki) ∧ Below W.heap.size W w' := by
          intro W hW
          have hwki : Wide ki := fun x hx => hwks x (by rw [HE2.out]; simp [hx])
          have ht := hin8'.take m m (by omega) (Nat.le_refl _) (by omega)
          rw [flC_take hwks m (by rw [HL.out]; omega)] at ht
          have e : ks.take m = ki := by rw [HE2.out, HM.out]; simp
          rw [e] at ht
          have hmk := HM.out
          have h := now_gives W r g (some ⟨g8, 0, none⟩) m ki (hmr.grow hW) ⟨hwki, by rw [← hmk]; exact ht.grow hW⟩ (by omega)
          rw [← hmk] at h
          exact h
        have HBa : ∀ W cs T, Below wr.heap.size wr W → Below wr.heap.size wr (W.alloc (.cells cs T)) := fun W cs T h => h.alloc h.size _
        have HZY : Hid (((laid g ki x1).map b8).toArray.size = (zer64.map b8).toArray.size) := Lib.hid (by
          rw [List.size_toArray, List.length_map, laid_len ki g hm.len (fun x hx => hwks x (by rw [HE2.out]; simp [hx]))]
          rfl)
        refine RegF.two 8 15 (by kernel_rfl) ?p8 ?p15
        case' p8 =>
          refine RegF.opC 61 #[.tmp 58, .tmp 62] #[82, 83] rfl rfl rfl (enters_of Tryz.func61 (by kernel_rfl) rfl) #[.map (some r), .slice (some ⟨g8, 0, none⟩) m m] (by simp only [List.map_toArray, List.map_cons, List.map_nil]; rfl) ((HN _ hBd).mono ?_)
          rintro e w6 ⟨rfl, hm6, hB6⟩
          have hB6w : Below wr.heap.size wr w6 := hBd.trans (hB6.mono (hBd).size)
          refine ⟨_, rfl, fun _ => hB6w, ?_⟩
          simp only [List.getElem_toArray, List.getElem_cons_succ, List.getElem_cons_zero, Act.put, List.setIfInBounds_toArray, List.set_cons_zero, List.set_cons_succ]
          refine RegF.two 14 15 (by kernel_rfl) ?q14 ?q15
          case' q14 =>
            refine RegF.opV _ rfl rfl (x_lookup hm6 rfl rfl rfl) ⟨fun _ => hB6w, ?_⟩
            simp only [List.getElem_toArray, List.getElem_cons_succ, List.getElem_cons_zero, Act.put, List.setIfInBounds_toArray, List.set_cons_zero, List.set_cons_succ]
            refine RegF.one 15 (by kernel_rfl) ?_
            refine RegF.opV _ rfl rfl (x_allocSec rfl) ⟨fun _ => HBa _ _ _ hB6w, ?_⟩
            simp only [List.getElem_toArray, List.getElem_cons_succ, List.getElem_cons_zero, Act.put, List.setIfInBounds_toArray, List.set_cons_zero, List.set_cons_succ]
            refine RegF.one 16 (by kernel_rfl) ?_
            refine RegF.opS (w' := (w6.alloc (.cells (zer64.map b8).toArray 107)).setRow w6.heap.size ((laid g ki x1).map b8).toArray) rfl rfl (x_storeW _ (.tmp 12) (.tmp 69) rfl w6.heap.size rfl rfl rowDSec (BlkIs.new w6 107 (zer64.map b8).toArray) (by rfl) HZY.out (b8_one _)) ⟨fun h => absurd rfl h, ?_⟩
            simp only [List.getElem_toArray, List.getElem_cons_succ, List.getElem_cons_zero, Act.put]
            refine RegF.done (by kernel_rfl) ?_
            have bq := (BlkIs.new w6 107 (zer64.map b8).toArray).setRow ((laid g ki x1).map b8).toArray
            have hBE : Below wr.heap.size wr ((w6.alloc (.cells (zer64.map b8).toArray 107)).setRow w6.heap.size ((laid g ki x1).map b8).toArray) := below_setRow (HBa _ _ _ hB6w) hB6w.size _
            have hqq : wr.heap.size ≤ w6.heap.size := hB6w.size
            generalize (w6.alloc (.cells (zer64.map b8).toArray 107)).setRow w6.heap.size ((laid g ki x1).map b8).toArray = wE at *
            obtain ⟨q, hq⟩ : ∃ q, q = w6.heap.size := ⟨_, rfl⟩
            rw [← hq] at bq hqq ⊢
            clear hq
          case' q15 =>
            refine RegF.opV _ rfl rfl (x_allocSec rfl) ⟨fun _ => HBa _ _ _ hB6w, ?_⟩
            simp only [List.getElem_toArray, List.getElem_cons_succ, List.getElem_cons_zero, Act.put, List.setIfInBounds_toArray, List.set_cons_zero, List.set_cons_succ]
            refine RegF.one 14 (by kernel_rfl) ?_
            refine RegF.opV _ rfl rfl (x_lookup (hm6.grow ((Below.refl _ w6).alloc (Nat.le_refl _) _)) rfl rfl rfl) ⟨fun _ => HBa _ _ _ hB6w, ?_⟩
            simp only [List.getElem_toArray, List.getElem_cons_succ, List.getElem_cons_zero, Act.put, List.setIfInBounds_toArray, List.set_cons_zero, List.set_cons_succ]
            refine RegF.one 16 (by kernel_rfl) ?_
            refine RegF.opS (w' := (w6.alloc (.cells (zer64.map b8).toArray 107)).setRow w6.heap.size ((laid g ki x1).map b8).toArray) rfl rfl (x_storeW _ (.tmp 12) (.tmp 69) rfl w6.heap.size rfl rfl rowDSec (BlkIs.new w6 107 (zer64.map b8).toArray) (by rfl) HZY.out (b8_one _)) ⟨fun h => absurd rfl h, ?_⟩
            simp only [List.getElem_toArray, List.getElem_cons_succ, List.getElem_cons_zero, Act.put]
            refine RegF.done (by kernel_rfl) ?_
            have bq := (BlkIs.new w6 107 (zer64.map b8).toArray).setRow ((laid g ki x1).map b8).toArray
            have hBE : Below wr.heap.size wr ((w6.alloc (.cells (zer64.map b8).toArray 107)).setRow w6.heap.size ((laid g ki x1).map b8).toArray) := below_setRow (HBa _ _ _ hB6w) hB6w.size _
            have hqq : wr.heap.size ≤ w6.heap.size := hB6w.size
            generalize (w6.alloc (.cells (zer64.map b8).toArray 107)).setRow w6.heap.size ((laid g ki x1).map b8).toArray = wE at *
            obtain ⟨q, hq⟩ : ∃ q, q = w6.heap.size := ⟨_, rfl⟩
            rw [← hq] at bq hqq ⊢
            clear hq
        case' p15 =>
          refine RegF.opV _ rfl rfl (x_allocSec rfl) ⟨fun _ => HBa _ _ _ hBd, ?_⟩
          simp only [List.getElem_toArray, List.getElem_cons_succ, List.getElem_cons_zero, Act.put, List.setIfInBounds_toArray, List.set_cons_zero, List.set_cons_succ]
          refine RegF.one 8 (by kernel_rfl) ?_
          refine RegF.opC 61 #[.tmp 58, .tmp 62] #[82, 83] rfl rfl rfl (enters_of Tryz.func61 (by kernel_rfl) rfl) #[.map (some r), .slice (some ⟨g8, 0, none⟩) m m] (by simp only [List.map_toArray, List.map_cons, List.map_nil]; rfl) ((HN _ (HBa _ _ _ hBd)).mono ?_)
          rintro e w6 ⟨rfl, hm6, hB6⟩
          have hB6w : Below wr.heap.size wr w6 := (HBa _ _ _ hBd).trans (hB6.mono ((HBa _ _ _ hBd)).size)
          refine ⟨_, rfl, fun _ => hB6w, ?_⟩
          simp only [List.getElem_toArray, List.getElem_cons_succ, List.getElem_cons_zero, Act.put, List.setIfInBounds_toArray, List.set_cons_zero, List.set_cons_succ]
          refine RegF.one 14 (by kernel_rfl) ?_
          refine RegF.opV _ rfl rfl (x_lookup hm6 rfl rfl rfl) ⟨fun _ => hB6w, ?_⟩
          simp only [List.getElem_toArray, List.getElem_cons_succ, List.getElem_cons_zero, Act.put, List.setIfInBounds_toArray, List.set_cons_zero, List.set_cons_succ]
          refine RegF.one 16 (by kernel_rfl) ?_
          refine RegF.opS (w' := (w6).setRow wr.heap.size ((laid g ki x1).map b8).toArray) rfl rfl (x_storeW _ (.tmp 12) (.tmp 69) rfl wr.heap.size rfl rfl rowDSec ((BlkIs.new wr.drew 107 (zer64.map b8).toArray).below hB6 (by simp)) (by rfl) HZY.out (b8_one _)) ⟨fun h => absurd rfl h, ?_⟩
          simp only [List.getElem_toArray, List.getElem_cons_succ, List.getElem_cons_zero, Act.put]
          refine RegF.done (by kernel_rfl) ?_
          have bq : BlkIs (w6.setRow wr.heap.size ((laid g ki x1).map b8).toArray) wr.heap.size 107 ((laid g ki x1).map b8).toArray := ((BlkIs.new wr.drew 107 (zer64.map b8).toArray).below hB6 (by simp)).setRow ((laid g ki x1).map b8).toArray
          have hBE : Below wr.heap.size wr (w6.setRow wr.heap.size ((laid g ki x1).map b8).toArray) := below_setRow hB6w (Nat.le_refl _) _
          have hqq : wr.heap.size ≤ wr.heap.size := Nat.le_refl _
          generalize w6.setRow wr.heap.size ((laid g ki x1).map b8).toArray = wE at *
          obtain ⟨q, hq⟩ : ∃ q, q = wr.heap.size := ⟨_, rfl⟩
          rw [← hq] at bq
          replace hqq : wr.heap.size ≤ q := (by omega)
          rw [show wr.drew.heap.size = wr.heap.size from rfl, ← hq]
          clear hq
        all_goals
          have hylen : (laid g ki x1).length = 64 := laid_len ki g hm.len (fun x hx => hwks x (by rw [HE2.out]; simp [hx])) x1
          have hcE : wE.cell? ⟨w.heap.size, 0, none⟩ = some (.int .i64 (t : Int)) := (hBE.cell (p := ⟨w.heap.size, 0, none⟩) (Nat.lt_of_lt_of_le b2.lt hBr.size)).trans hc4
          generalize hy : laid g ki x1 = y at *
          have HY := Lib.hid hy
          clear hy
          have hcd : wE.drew.cell? ⟨w.heap.size, 0, none⟩ = some (.int .i64 (t : Int)) := hcE
          have ht1 : (0 : Int) ≤ (t : Int) := by omega
          have hb1 : ¬ ((m : Int) + 1 ≤ (m : Int)) := by omega
          have hx26 : x2.length = 64 := hwks (x1, x2) (by rw [HE2.out]; simp)
          have hl2 : (x2.take t).length = t := by rw [List.length_take, hx26]; omega
          have hinx : InB wE.drew wr.heap.size (some ⟨g8, m * 65 + 1, none⟩) t (x2.take t) := by
            refine ⟨by rw [hl2]; exact Nat.le_refl _, by omega, (fun h => by cases h), fun _ => ⟨g8, m * 65 + 1, rfl, hg8, fun j hj => ?_⟩⟩
            have e : ks[m]'(by rw [HL.out]; omega) = (x1, x2) := by simp [HE2.out, HM.out]
            have h := InW.elem hin8 m (by rw [HL.out]; omega) (j + 1)
            rw [e] at h
            have hj2 : j < x2.length := by rw [hl2] at hj; omega
            have h2 := h (b8 x2[j]) (by simp [lsC, hj2])
            show wE.cell? ⟨g8, m * 65 + 1 + j, none⟩ = _
            rw [hBE.cell (p := ⟨g8, m * 65 + 1 + j, none⟩) hg8]
            rw [show 0 + m * 65 + (j + 1) = m * 65 + 1 + j from by omega] at h2
            rw [h2]
            simp [b8]
          have hc7 : (wE.drew.setRow q ((spliceB y 0 t (x2.take t)).map b8).toArray).cell? ⟨w.heap.size, 0, none⟩ = some (.int .i64 (t : Int)) :=
            (World.cell?_of_block (setRow_other wE.drew q w.heap.size _ (by have := b2.lt; have := hBr.size; omega))).trans hcd
          have HL2 := Lib.hid hl2
          have HYL := Lib.hid hylen
          clear hl2 hx26 hylen
          have ht2 : (t : Int) ≤ 64 := by omega
          go_wp2
          go_region_held3 (fun W => W.cell? ⟨w.heap.size, 0, none⟩ = some (.int .i64 (t : Int))) (first | exact hcd | (with_reducible assumption)) (first
            | (refine step_copyB (by rfl) (.tmp 71) (.tmp 78) (by rfl) q 0 y (x2.take t) (some ⟨g8, m * 65 + 1, none⟩) t wr.heap.size t 64 (by rfl) (by rw [HL2.out]; rfl) bq hinx (by rw [HYL.out]; omega) ?_))
        all_goals
          obtain ⟨z, hz⟩ : ∃ z, z = spliceB y 0 t (x2.take t) := ⟨_, rfl⟩
          have hzq : z = x2.take t ++ y.drop t := by
            rw [hz]
            unfold spliceB
            simp [HL2.out]
            exact List.take_of_length_le (Nat.le_of_eq HL2.out)
          have hzl : z.length = 64 := by rw [hzq, List.length_append, HL2.out, List.length_drop, HYL.out]; omega
          rw [← hz] at hc7 ⊢
          have hB7 : Below wr.heap.size wr (wE.drew.setRow q (z.map b8).toArray) := below_setRow hBE.drew hqq _
          have bq7 : BlkIs (wE.drew.setRow q (z.map b8).toArray) q 107 (z.map b8).toArray := bq.drew.setRow _
          have own7 := ownG_grow own hB7
          have hin7 : InW (wE.drew.setRow q (z.map b8).toArray) (wE.drew.setRow q (z.map b8).toArray).heap.size (some ⟨g8, 0, none⟩) c8 (ki ++ [(x1, x2)]) := by
            have := hin8.grow hB7
            rw [HE2.out] at this
            exact this
          generalize wE.drew.setRow q (z.map b8).toArray = W7 at *
          have hth : W7.there g8 (m * 65 + 1) (z.map b8).toArray.size := own_there own7 (m * 65 + 1) _ (by rw [List.size_toArray, List.length_map, hzl]; omega)
          have HTH := Lib.hid hth
          have HSI : Hid ((Tryz.prog.info? 107).map (·.size) = some (z.map b8).toArray.size) := Lib.hid (by rw [rowDSec.size, List.size_toArray, List.length_map, hzl])
          have HS1 : Hid ((z.map b8).toArray.all (·.oneCell') = true) := Lib.hid (all_oneCell_toArray (b8_one _))
          have HSP : Hid ((z.map b8).toArray.size = 64) := Lib.hid (by rw [List.size_toArray, List.length_map, hzl])
          have hin9 := inW_mid hin7 HM.out hzl
          have hgw : w2.heap.size ≤ g8 := ownG_ge own _ rfl
          have hBwz : Below w.heap.size w (W7.setCells g8 (m * 65 + 1) (z.map b8)) := below_setCellsL (Nat.le_trans hB3.size hgw) _ _ (hBw.trans (hB7.mono hBw.size))
          have hB2z : Below w2.heap.size w2 (W7.setCells g8 (m * 65 + 1) (z.map b8)) := below_setCellsL hgw _ _ (hBr.trans (hB7.mono hBr.size))
          have hbrz := hb.below hB2z hb.lt
          have hmrz := hm.grow hB2z
          have hpltz := hbrz.lt
          have hin9 : InW (W7.setCells g8 (m * 65 + 1) (z.map b8)) (W7.setCells g8 (m * 65 + 1) (z.map b8)).heap.size (some ⟨g8, 0, none⟩) c8 (ki ++ [(x1, z)]) := by rw [size_setCellsL]; exact hin9
          have HTR : Hid (torn g ks t = ki ++ [(x1, z)]) := Lib.hid (by
            unfold torn
            rw [if_neg (by rw [HE2.out]; simp; omega), HE2.out, hzq]
            simp [HY.out])
          have HK9 : Hid ((ki ++ [(x1, z)]).length = m + 1) := Lib.hid (by simp [HM.out])
          clear hz hzq hzl hth hin7 own7 hin8 hin8' own hinx hc7 hcd hcE hE HE HP hr8
          go_wp2_with (first
            | (refine wp_loadW rfl 107 (.tmp 12) rfl q rfl rowDSec bq7 HSP.out ?_)
            | (refine wpList_store_mid rfl 107 (.tmp 84) (.tmp 82) rfl g8 (m * 65 + 1) (z.map b8).toArray rfl rfl HTH.out HSI.out HS1.out ?_; rw [List.toList_toArray]))
          generalize W7.setCells g8 (m * 65 + 1) (z.map b8) = wz at *
          generalize ki ++ [(x1, z)] = ks9 at *
          have HP : ∀ W, Below wz.heap.size wz W → W.cell? ⟨p, 0, none⟩ = some (.map (some r)) ∧ W.cell? ⟨p, 1, none⟩ = some (.int .i64 (many : Int)) := fun W hW => by
            have b := hbrz.below hW hpltz
            exact ⟨by rw [b.cell]; rfl, by rw [b.cell]; rfl⟩
          have hBd : Below wz.heap.size wz wz.drew := (Below.refl _ wz).drew
          have HN := now_gives wz.drew r g (some ⟨g8, 0, none⟩) c8 ks9 (hmrz.grow hBd) (hin9.grow hBd) (by rw [HK9.out]; omega)
          rw [HK9.out] at HN
          refine RegF.start (fun W => Below wz.heap.size wz W) 13 (by kernel_rfl) ?_
          refine RegF.take 0 (.pointer (some ⟨p, 0, none⟩)) rfl (by kernel_rfl) (by kernel_rfl) (by kernel_rfl) (by kernel_rfl) (fun _ _ _ h => h) hBd (RegF.yld rfl (fun W hW => by go_simp)) ?_
          simp only [List.getElem_toArray, List.getElem_cons_zero, Act.put, List.setIfInBounds_toArray, List.set_cons_zero, List.set_cons_succ]
          refine RegF.take 1 (.pointer (some ⟨p, 0, none⟩)) rfl (by kernel_rfl) (by kernel_rfl) (by kernel_rfl) (by kernel_rfl) (fun _ _ _ h => h) hBd (RegF.yld rfl (fun W hW => by go_simp)) ?_
          simp only [List.getElem_toArray, List.getElem_cons_succ, List.getElem_cons_zero, Act.put, List.setIfInBounds_toArray, List.set_cons_zero, List.set_cons_succ]
          refine RegF.take 2 (.pointer (some ⟨p, 0, none⟩)) rfl (by kernel_rfl) (by kernel_rfl) (by kernel_rfl) (by kernel_rfl) (fun _ _ _ h => h) hBd (RegF.yld rfl (fun W hW => by go_simp)) ?_
          simp only [List.getElem_toArray, List.getElem_cons_succ, List.getElem_cons_zero, Act.put, List.setIfInBounds_toArray, List.set_cons_zero, List.set_cons_succ]
          refine RegF.take 3 (.pointer (some ⟨p, 0, none⟩)) rfl (by kernel_rfl) (by kernel_rfl) (by kernel_rfl) (by kernel_rfl) (fun _ _ _ h => h) hBd (RegF.yld rfl (fun W hW => by go_simp)) ?_
          simp only [List.getElem_toArray, List.getElem_cons_succ, List.getElem_cons_zero, Act.put, List.setIfInBounds_toArray, List.set_cons_zero, List.set_cons_succ]
          refine RegF.take 4 (.map (some r)) rfl (by kernel_rfl) (by kernel_rfl) (by kernel_rfl) (by kernel_rfl) (fun _ _ _ h => h) hBd (RegF.yld rfl (fun W hW => by have e := (HP W hW).1; go_simp)) ?_
          simp only [List.getElem_toArray, List.getElem_cons_succ, List.getElem_cons_zero, Act.put, List.setIfInBounds_toArray, List.set_cons_zero, List.set_cons_succ]
          refine RegF.take 5 (.slice (some ⟨g8, 0, none⟩) (m + 1) c8) rfl (by kernel_rfl) (by kernel_rfl) (by kernel_rfl) (by kernel_rfl) (fun _ _ _ h => h) hBd (RegF.yld rfl (fun W hW => by go_simp)) ?_
          simp only [List.getElem_toArray, List.getElem_cons_succ, List.getElem_cons_zero, Act.put, List.setIfInBounds_toArray, List.set_cons_zero, List.set_cons_succ]
          refine RegF.take 7 (.pointer (some ⟨p, 0, none⟩)) rfl (by kernel_rfl) (by kernel_rfl) (by kernel_rfl) (by kernel_rfl) (fun _ _ _ h => h) hBd (RegF.yld rfl (fun W hW => by go_simp)) ?_
          simp only [List.getElem_toArray, List.getElem_cons_succ, List.getElem_cons_zero, Act.put, List.setIfInBounds_toArray, List.set_cons_zero, List.set_cons_succ]
          refine RegF.take 8 (.pointer (some ⟨p, 0, none⟩)) rfl (by kernel_rfl) (by kernel_rfl) (by kernel_rfl) (by kernel_rfl) (fun _ _ _ h => h) hBd (RegF.yld rfl (fun W hW => by go_simp)) ?_
          simp only [List.getElem_toArray, List.getElem_cons_succ, List.getElem_cons_zero, Act.put, List.setIfInBounds_toArray, List.set_cons_zero, List.set_cons_succ]
          refine RegF.take 9 (.pointer (some ⟨p, 1, none⟩)) rfl (by kernel_rfl) (by kernel_rfl) (by kernel_rfl) (by kernel_rfl) (fun _ _ _ h => h) hBd (RegF.yld rfl (fun W hW => by go_simp)) ?_
          simp only [List.getElem_toArray, List.getElem_cons_succ, List.getElem_cons_zero, Act.put, List.setIfInBounds_toArray, List.set_cons_zero, List.set_cons_succ]
          refine RegF.take 10 (.int .i64 (many : Int)) rfl (by kernel_rfl) (by kernel_rfl) (by kernel_rfl) (by kernel_rfl) (fun _ _ _ h => h) hBd (RegF.yld rfl (fun W hW => by have e := (HP W hW).2; go_simp)) ?_
          simp only [List.getElem_toArray, List.getElem_cons_succ, List.getElem_cons_zero, Act.put, List.setIfInBounds_toArray, List.set_cons_zero, List.set_cons_succ]
          refine RegF.one 6 (by kernel_rfl) ?_
          refine RegF.opC 61 #[.tmp 89, .tmp 90] #[82, 83] rfl rfl rfl (enters_of Tryz.func61 (by kernel_rfl) rfl) #[.map (some r), .slice (some ⟨g8, 0, none⟩) (m + 1) c8] (by simp only [List.map_toArray, List.map_cons, List.map_nil]; rfl) (HN.mono ?_)
          rintro e w6 ⟨rfl, hm6, hB6⟩
          have hB6w : Below wz.heap.size wz w6 := hBd.trans (hB6.mono hBd.size)
          have hb6 := hbrz.below hB6w hpltz
          refine ⟨_, rfl, fun _ => hB6w, ?_⟩
          simp only [List.getElem_toArray, List.getElem_cons_succ, List.getElem_cons_zero, Act.put, List.setIfInBounds_toArray, List.set_cons_zero, List.set_cons_succ]
          refine RegF.one 11 (by kernel_rfl) ?_
          refine RegF.opV (.agg (dkC wz.heap.size many none 0 0 0 false)) rfl rfl (by unfold dkC; go_simp) ⟨fun _ => hB6w, ?_⟩
          simp only [List.getElem_toArray, List.getElem_cons_succ, List.getElem_cons_zero, Act.put, List.setIfInBounds_toArray, List.set_cons_zero, List.set_cons_succ]
          refine RegF.one 12 (by kernel_rfl) ?_
          refine RegF.opV (.pointer (some ⟨p, 0, none⟩)) rfl rfl (by go_simp) ⟨fun _ => hB6w, ?_⟩
          simp only [List.getElem_toArray, List.getElem_cons_succ, List.getElem_cons_zero, Act.put, List.setIfInBounds_toArray, List.set_cons_zero, List.set_cons_succ]
          refine RegF.one 13 (by kernel_rfl) ?_
          refine RegF.opS (w' := w6.setRow p (dkC wz.heap.size many none 0 0 0 false)) rfl rfl (x_storeW _ (.tmp 97) (.tmp 96) rfl p rfl rfl rowDisk hb6 rfl rfl (dkC_one _ _ _ _ _ _ _)) ⟨fun h => absurd rfl h, ?_⟩
          simp only [List.getElem_toArray, List.getElem_cons_succ, List.getElem_cons_zero, Act.put]
          refine RegF.done (by kernel_rfl) ?_
          have hfin : DkIs (w6.setRow p (dkC wz.heap.size many none 0 0 0 false)) p many (laid g ks9) [] 0 false := ⟨wz.heap.size, none, 0, hb6.setRow _, hm6.keep (setRow_other _ _ _ _ (show wz.heap.size ≠ p by omega)), InW.mt _ _⟩
          have hgfin : w.grownBy (w6.setRow p (dkC wz.heap.size many none 0 0 0 false)) (some p) := grownBy_trans (below_grownBy (hBwz.trans (hB6w.mono hBwz.size)) p) (setRow_grownBy w6 p _)
          generalize w6.setRow p (dkC wz.heap.size many none 0 0 0 false) = w7 at *
          go_wp2
          go_ret
          exact ⟨rfl, (by rw [← HKS.out, HTR.out]; exact hfin), hgfin⟩
end
end Go.Proofs.YtocnabpplbeafaaGreat
/- The plain law of DiskHolds: which writes a crash keeps, and what a sector reads as behind it. -/
namespace Go.Proofs.YtocnabpplbeafaaGreat
open Go Go.RowKit Lou

theorem laid_app (g : Nat → List UInt8) (xs ys : List (Nat × List UInt8)) : laid g (xs ++ ys) = laid (laid g xs) ys := by unfold laid; rw [List.foldl_append]
theorem laid_one (g : Nat → List UInt8) (xs : List (Nat × List UInt8)) (a : Nat) (l : List UInt8) (k : Nat) : laid g (xs ++ [(a, l)]) k = if k = a then l else laid g xs k := by rw [laid_app]; rfl
theorem laid_away : ∀ (xs : List (Nat × List UInt8)) (g : Nat → List UInt8) (k : Nat), (∀ x ∈ xs, x.1 ≠ k) → laid g xs k = g k
  | [], _, _, _ => rfl
  | x :: xs, g, k, h => by
    have e : laid g (x :: xs) = laid (gset g x.1 x.2) xs := rfl
    rw [e, laid_away xs _ k (fun y hy => h y (by simp [hy]))]
    have := h x (by simp)
    unfold gset
    rw [if_neg (fun e => this e.symm)]
theorem keptTo_mem (xs : List (Nat × List UInt8)) (bs : List Bool) : ∀ i, i ≤ xs.length → ∀ x ∈ keptTo xs bs i, ∃ j, ∃ h : j < xs.length, bs.getD j false = true ∧ xs[j] = x
  | 0, _, x, h => by simp [keptTo] at h
  | i + 1, hi, x, h => by
    unfold keptTo at h
    split at h
    · next hb =>
      rcases List.mem_append.1 h with h | h
      · exact keptTo_mem xs bs i (by omega) x h
      · refine ⟨i, by omega, hb, ?_⟩
        have e : x = xs.getD i (0, zer64) := by simpa using h
        rw [e, List.getD_eq_getElem?_getD, List.getElem?_eq_getElem (by omega)]
        rfl
    · exact keptTo_mem xs bs i (by omega) x h
theorem torn_first (g : Nat → List UInt8) (ks : List (Nat × List UInt8)) (t k : Nat) (h : ∀ x ∈ ks, x.1 ≠ k) : ∀ x ∈ torn g ks t, x.1 ≠ k := by
  unfold torn
  split
  · exact h
  · next hn =>
    have hne : ks ≠ [] := fun e => hn (.inl e)
    intro x hx
    rcases List.mem_append.1 hx with hx | hx
    · exact h x ((List.dropLast_sublist _).subset hx)
    · obtain rfl := List.mem_singleton.1 hx
      refine h (ks.getLastD (0, zer64)) ?_
      have e : ks.getLastD (0, zer64) = ks.getLast hne := by rw [List.getLastD_eq_getLast?, List.getLast?_eq_some_getLast hne]; rfl
      rw [e]
      exact List.getLast_mem hne
/-- A crash that keeps no write to a sector leaves it as it was synced. -/
theorem crash_away (g : Nat → List UInt8) (xs : List (Nat × List UInt8)) (bs : List Bool) (t k : Nat) (h : ∀ j, (hj : j < xs.length) → xs[j].1 = k → bs.getD j false = false) : laid g (torn g (keptTo xs bs xs.length) t) k = g k := by
  refine laid_away _ g k (torn_first g _ t k fun x hx => ?_)
  obtain ⟨j, hj, hb, e⟩ := keptTo_mem xs bs xs.length (Nat.le_refl _) x hx
  subst e
  intro hk
  have := h j hj hk
  rw [hb] at this
  cases this
/-! ### What the law's own rows hold -/
/-- was: the byte that each sector is full of. -/
def Full (g : Nat → List UInt8) (l : List UInt8) : Prop := ∀ k, (h : k < l.length) → g k = secL l[k]
/-- kb: whether a write to each sector was kept, of the first xs. -/
def Kept (kb : List Bool) (xs : List (Nat × List UInt8)) (bs : List Bool) : Prop := ∀ k, kb[k]? = some false → ∀ j, (hj : j < xs.length) → xs[j].1 = k → bs.getD j false = false
end Go.Proofs.YtocnabpplbeafaaGreat
/- Strings cut; the plain law of a crash. -/
namespace Go.Proofs.YtocnabpplbeafaaGreat
open Go Go.RowKit Lou
section
variable {ρ : Operand → Value} {w : World} {o : Oper} {x y : Operand}
theorem x_addS {a b : List UInt8} {T T' : TypeId} (ho : o.op = .binOp .add T x y T') (hx : ρ x = .string (str a)) (hy : ρ y = .string (str b)) (hs : a.length + b.length ≤ 1000000) (hT : Tryz.prog.underlying T = some .string) :
    (execOp ρ o).run Tryz.prog w = .ok (.value (.string (str (a ++ b)))) w := by
  have e : str a ++ str b = str (a ++ b) := by simp [str, ByteArray.ext_iff]
  have e2 : ¬ 9223372036854775807 < (str a).size + (str b).size := by
    rw [str_size, str_size]
    omega
  simp [execOp, ho, hx, hy, go_sem, Result.andThen, e, e2]
end
/-- The document's map: what was synced, by sectors. -/
def gOf (sy : List (Nat × List UInt8)) : Nat → List UInt8 := fun k => lastB sy (k : Int)
/-- The last that is kept, so far; -1: none. -/
def lastK (bs : List Bool) : Nat → Int
  | 0 => -1
  | i + 1 => if bs.getD i false then (i : Int) else lastK bs i
end Go.Proofs.YtocnabpplbeafaaGreat
/- wal: steps; reading sectors. -/
namespace Go.Proofs.YtocnabpplbeafaaGreat
open Go Go.RowKit Lou

/-- A function value: its number, what is bound ahead, what it has caught. -/
structure FnV where
  f : Nat
  bd : Array Value
  lb : Array Value
def FnV.val (x : FnV) : Value := .func (.func x.f) x.bd x.lb
set_option maxRecDepth 100000 in
set_option maxHeartbeats 4000000 in
/-- steps: I k holds ahead of thing k; a thing that goes wrong leaves R of its error. -/
theorem steps_gives (w : World) (g c : Nat) (fs : List FnV) (I : Nat → World → Prop) (R : Int → World → Prop) (hl : fs.length ≤ 100)
    (hrow : ∀ (k : Nat) (hk : k < fs.length) W, I k W → W.cell? ⟨g, k, none⟩ = some fs[k].val)
    (hdo : ∀ (k : Nat) (hk : k < fs.length) W, I k W → (∀ args W, (callFunc fs[k].f args).run Tryz.prog W = .ok (.enter fs[k].f args) W) ∧ Calls Tryz.prog fs[k].f (fs[k].bd ++ fs[k].lb) W fun e w' => (e = .returned (.int .i64 0) ∧ I (k + 1) w') ∨ ∃ x : Int, x ≠ 0 ∧ e = .returned (.int .i64 x) ∧ R x w')
    (h0 : I 0 w) :
    Calls Tryz.prog 47 #[.slice (some ⟨g, 0, none⟩) fs.length c] w fun e w' => (e = .returned (.int .i64 0) ∧ I fs.length w') ∨ ∃ x : Int, x ≠ 0 ∧ e = .returned (.int .i64 x) ∧ R x w' := by
  go_enter Tryz.func47, Tryz.ntmps47
  go_wp2
  go_loopw [8] (fun i wr => ∃ k : Nat, k ≤ fs.length ∧ i = .int .i64 (k : Int) ∧ I k wr) (fun i _ => fs.length - (intOf i).toNat)
  case atStart => exact ⟨0, by omega, rfl, h0⟩
  case round =>
    obtain ⟨k, hk, rfl, hI⟩ := hrel
    by_cases hlt : k < fs.length
    · have hc := hrow k hlt wr hI
      obtain ⟨hent, hcall⟩ := hdo k hlt wr hI
      obtain ⟨x, hx⟩ : ∃ x, x = fs[k] := ⟨_, rfl⟩
      rw [← hx] at hc hent hcall
      have hwk : IntKind.i64.wrap ((k : Int) + 1) = (k : Int) + 1 := wrap_i64_fr _ (by omega) (by omega)
      obtain ⟨xf, xb, xl⟩ := x
      unfold FnV.val at hc
      simp only at hc hent hcall
      clear hx hdo hrow
      go_wp2
      refine hcall.mono ?_
      rintro e w2 (⟨rfl, h1⟩ | ⟨z, hz, rfl, h1⟩)
      · go_wp2
        go_roundw
        case rel => exact ⟨k + 1, by omega, by simp, h1⟩
        case measure => simp [intOf]; omega
      · go_wp2
        go_ret
        exact .inr ⟨z, hz, rfl, h1⟩
    · obtain rfl : k = fs.length := by omega
      go_wp2
      go_ret
      exact .inl ⟨rfl, hI⟩
end Go.Proofs.YtocnabpplbeafaaGreat
/- wal: reading sectors of a log's disk. -/
namespace Go.Proofs.YtocnabpplbeafaaGreat
open Go Go.RowKit Lou

/-- So many sectors' bytes, from one on. -/
def secsOf (G : Nat → List UInt8) (at_ : Nat) : Nat → List UInt8
  | 0 => []
  | m + 1 => secsOf G at_ m ++ G (at_ + m)
theorem secsOf_length {G : Nat → List UInt8} (hG : ∀ k, (G k).length = 64) (at_ : Nat) : ∀ m, (secsOf G at_ m).length = 64 * m
  | 0 => rfl
  | m + 1 => by
    show (secsOf G at_ m ++ G (at_ + m)).length = _
    rw [List.length_append, secsOf_length hG at_ m, hG]
    omega
theorem laid_long {w : World} {p many : Nat} {g : Nat → List UInt8} {xs : List (Nat × List UInt8)} {left : Int} {stops : Bool} (hD : DkIs w p many g xs left stops) (k : Nat) : (laid g xs k).length = 64 := by
  obtain ⟨r, A, c, hb, hm, hw, hx⟩ := hD.has
  exact laid_len xs g hm.len hw k
set_option maxRecDepth 100000 in
set_option maxHeartbeats 4000000 in
theorem wread_gives (w : World) (l d many : Nat) (g : Nat → List UInt8) (xs : List (Nat × List UInt8)) (left : Int) (stops : Bool) (hD : DkIs w d many g xs left stops) (hs : (stops && left == 0) = false) (hl : xs.length ≤ 1000000) (hc : w.cell? ⟨l, 0, none⟩ = some (.pointer (some ⟨d, 0, none⟩))) (hll : l < w.heap.size) (at_ m : Nat) (ham : at_ + m ≤ many) (hmax : many ≤ 1000000) :
    Calls Tryz.prog 74 #[.pointer (some ⟨l, 0, none⟩), .int .i64 (at_ : Int), .int .i64 (m : Int)] w fun e w' => ∃ A c, e = .returned (.tuple #[.slice A (64 * m) c, .int .i64 0]) ∧ InB w' w'.heap.size A c (secsOf (laid g xs) at_ m) ∧ Below w.heap.size w w' := by
  have hG := laid_long hD
  have hR : ∀ (k : Nat) (W : World), k < many → Below w.heap.size w W → Calls Tryz.prog 99 #[.pointer (some ⟨d, 0, none⟩), .int .i64 (k : Int)] W fun e w' => ∃ q rv, Hid (rv = Value.slice (some ⟨q, 0, none⟩) 64 64) ∧ e = .returned (.tuple #[rv, .int .i64 0]) ∧ InB w' w'.heap.size (some ⟨q, 0, none⟩) 64 (laid g xs k) ∧ Below W.heap.size W w' := fun k W hk hB => (read_gives W d many g xs left stops (hD.grow hB) hs k hk hl).mono fun e w' ⟨q, h1, h2, h3⟩ => ⟨q, _, Lib.hid rfl, h1, h2, h3⟩
  generalize laid g xs = G at *
  clear hD
  go_enter Tryz.func74, Tryz.ntmps74
  go_wp2
  go_loopw [12, 6] (fun i v wr => ∃ k : Nat, k ≤ m ∧ i = .int .i64 (k : Int) ∧ OwnB wr w.heap.size v (secsOf G at_ k) ∧ Below w.heap.size w wr) (fun i _ _ => m - (intOf i).toNat)
  case atStart => exact ⟨0, by omega, rfl, OwnB.nil _ _, Below.refl _ _⟩
  case round =>
    obtain ⟨k, hk, rfl, own, hB⟩ := hrel
    by_cases hlt : k < m
    · have hcr : wr.cell? ⟨l, 0, none⟩ = some (.pointer (some ⟨d, 0, none⟩)) := (hB.cell (p := ⟨l, 0, none⟩) hll).trans hc
      have hRk := hR (at_ + k) wr (by omega) hB
      have hwa : IntKind.i64.wrap ((at_ : Int) + (k : Int)) = ((at_ + k : Nat) : Int) := by rw [wrap_i64_fr _ (by omega) (by omega)]; omega
      have hwk : IntKind.i64.wrap ((k : Int) + 1) = (k : Int) + 1 := wrap_i64_fr _ (by omega) (by omega)
      have hlk := secsOf_length hG at_ k
      have hGk := hG (at_ + k)
      have HLK := Lib.hid hlk
      have HGK := Lib.hid hGk
      clear hR hlk hGk
      go_wp2_with (first
        | (go_at_call 99; refine hRk.mono ?_; rintro e w2 ⟨q, rv, HRV, rfl, hin, hB2⟩; have own2 := ownG_grow own hB2; have hBw := hB.trans (hB2.mono hB.size))
        | (at_builtin; refine wp_appB rfl (.tmp 29) (.tmp 30) rfl w.heap.size u6 (secsOf G at_ k) rfl own2 _ (some ⟨q, 0, none⟩) 64 (G (at_ + k)) (by rw [HGK.out]; exact HRV.out) hin (by rw [HLK.out, HGK.out]; omega) hBw.size ?_; intro v3 w3 own3 hg3; have hB3 := hBw.trans (grown_below hg3 hBw.size (ownG_ge own2))))
      go_roundw
      case rel => exact ⟨k + 1, by omega, by simp, own3, hB3⟩
      case measure => simp [intOf]; omega
    · obtain rfl : k = m := by omega
      obtain ⟨A, c, rfl, hin⟩ := own.inB
      have hlk := secsOf_length hG at_ k
      rw [hlk]
      clear hR
      go_wp2
      exact bodyPost_ret (results_tmp2 rfl _ _ _) rfl ⟨A, c, rfl, hin, hB⟩
end Go.Proofs.YtocnabpplbeafaaGreat
/- A range over a function whose body may make blocks that later rounds write: the iterator turns small blocks and the loop's own records alone. -/
namespace Go.Proofs.YtocnabpplbeafaaGreat
open Go Go.RowKit Go.Shelf
attribute [local go_sem] Oper.semAt_some
/-- Boxes and small rows; a loop's own records. -/
def Small : Obj → Prop
  | .cells cs _ fr => cs.size ≤ 64 ∧ fr = (0, 0)
  | .loop _ => True
  | .deferred _ => True
  | _ => False
/-- What abides whatever happens to small blocks from B on. -/
def AbSm {β : Type} (B : Nat) (I : β → World → Prop) : Prop := ∀ s X Y row, I s X → X.grownBy Y row → (∀ r, row = some r → B ≤ r ∧ ∃ o : Obj, X.heap[r]? = some o ∧ Small o) → I s Y
theorem AbSm.more {β : Type} {B B' : Nat} {I : β → World → Prop} (h : AbSm B I) (hB : B ≤ B') : AbSm B' I := fun s X Y row hs hg hr => h s X Y row hs hg (fun r e => ⟨Nat.le_trans hB (hr r e).1, (hr r e).2⟩)
theorem AbSm.grow {β : Type} {B : Nat} {I : β → World → Prop} (h : AbSm B I) {s : β} {X Y : World} (hs : I s X) (hg : Below X.heap.size X Y) : I s Y := h s X Y none hs ⟨hg.os, hg.tape, hg.output, hg.size, fun k hk _ => hg.block k hk⟩ (fun r e => by cases e)
theorem AbSm.alloc {β : Type} {B : Nat} {I : β → World → Prop} (h : AbSm B I) {s : β} {X : World} (o : Obj) (hs : I s X) : I s (X.alloc o) := h.grow hs ((Below.refl _ X).alloc (Nat.le_refl _) _)
theorem AbSm.drew {β : Type} {B : Nat} {I : β → World → Prop} (h : AbSm B I) {s : β} {X : World} (hs : I s X) : I s X.drew := h.grow hs (Below.refl _ X).drew
theorem AbSm.putObj {β : Type} {B : Nat} {I : β → World → Prop} (h : AbSm B I) {s : β} {X : World} {l : Nat} {o' : Obj} (o : Obj) (hs : I s X) (hl : B ≤ l) (ho : X.heap[l]? = some o') (hm : Small o') : I s (X.putObj l o) :=
  h s X _ (some l) hs (grownBy_putObj' X l o) (fun r e => by cases e; exact ⟨hl, _, ho, hm⟩)
theorem AbSm.setCell {β : Type} {B : Nat} {I : β → World → Prop} (h : AbSm B I) {s : β} {X : World} {p : Addr} {t : TypeId} {cs : Array Value} (v : Value) (hs : I s X) (hl : B ≤ p.block) (hb : BlkIs X p.block t cs) (hc : cs.size ≤ 64) : I s (X.setCell p v) :=
  h s X _ (some p.block) hs ⟨rfl, rfl, rfl, by simp, fun k _ hk => Below.heap_setCell X p v k (fun e => hk (by rw [e]))⟩ (fun r e => by cases e; exact ⟨hl, _, hb, hc, rfl⟩)
/-- What an iterator does: as the kit's SeqStopsK, but that a round is asked only at values of which Rd holds, and keeps all but what lay there at the start and may be written (Mu). -/
def SeqS {α : Type} (F : Fence) (n : Nat) (P : Program) (g : Nat) (lb : Array Value) (encs : α → Array Value) (Mu : Nat → Prop) (Rd : List α → α → World → Prop) (S Sp : List α → Prop) (w : World) : Prop :=
  ∀ (l : Nat) (J Jx : List α → World → Prop) (W : World), Below w.heap.size w W → AbSm W.heap.size J → AbSm W.heap.size Jx →
    (∀ pre x W1, J pre W1 → Rd pre x W1 → YieldAt F (n - 1) P l (encs x) W1 fun e W' =>
      (e = .returned (.bool true) ∧ J (pre ++ [x]) W' ∧ KeepOut Mu W.heap.size W1 W') ∨ (e = .returned (.bool false) ∧ Jx (pre ++ [x]) W' ∧ KeepOut (fun _ => True) W.heap.size W1 W')) →
    J [] W →
    CallsIn F n P g (#[.func (.yield l) #[] #[]] ++ lb) W fun e W' => (∃ v, e = .returned v) ∧ ((∃ xs, S xs ∧ J xs W') ∨ (∃ pre, Sp pre ∧ Jx pre W'))
section
variable {F : Fence} {n : Nat} {P : Program} {w : World}
theorem wpIn_rangeFunc_S {α : Type} {g : Operand} {ps : Array Tmp} {assign body : Code} {Q : Exit → Act → World → Prop} {a : Act}
    (hro : F.round = none) (h1 : 1 ≤ n) {gf : Nat} {lb : Array Value} (hg : a.eval g = .func (.func gf) #[] lb) (hFg : F.fn gf) (eg : ∀ args w, (callFunc gf args).run P w = .ok (.enter gf args) w)
    {encs : α → Array Value} {Mu : Nat → Prop} {Rd : List α → α → World → Prop} {S Sp : List α → Prop} {w0 : World} (hseq : SeqS F (n - 1) P gf lb encs Mu Rd S Sp w0)
    (hb0 : Below w0.heap.size w0 w) (hps : ∀ x, (encs x).size = ps.size)
    (I : List α → World → Prop) (Ix : Code → List α → World → Prop) (hI : AbSm w.heap.size I) (hIx : ∀ c, AbSm w.heap.size (Ix c)) (hRd : ∀ pre x, OwnFrom w.heap.size (fun (_ : Unit) W => Rd pre x W)) (h0 : I [] w) (a₁ : α → Act)
    (hassign : ∀ (l : Nat) (x : α) (W : World) (K : Act → World → Prop), K (a₁ x) W →
      assign.wpIn (F.inRound l) (n - 1 - 1) P (Exit.then K (fun _ _ _ => False)) { tmps := (ps.zip (encs x)).foldl (fun t (p, v) => t.setIfInBounds p v) a.tmps, defers := [] } W)
    (hbody : ∀ (l : Nat) (pre : List α) (x : α) (W : World), I pre W → Rd pre x W → body.wpIn (F.inRound l) (n - 1 - 1) P (postR Mu w.heap.size I Ix (pre ++ [x]) W) (a₁ x) W)
    (hdone : ∀ (D : Nat) (xs : List α) (W : World), w.heap.size ≤ D → S xs → I xs W → W.heap[D]? = some (.deferred (some [])) → Q .normal { a with defers := { target := .collected D, args := #[] } :: a.defers } W)
    (hstop : ∀ (D : Nat) (c : Code) (pre : List α) (W : World), w.heap.size ≤ D → Sp pre → Ix c pre W → W.heap[D]? = some (.deferred (some [])) → c.wpIn F n P Q { a with defers := { target := .collected D, args := #[] } :: a.defers } W) :
    (Code.rangeFunc g ps assign body).wpIn F n P Q a w := by
  refine wpIn_rangeFunc fun fn hfn => ?_
  rw [hro]
  -- the loop's record, and the world that bears it and the block for deferred calls
  obtain ⟨rec, hrec⟩ : ∃ rec : LoopState → Option Code → Loop, rec = fun st pe => { state := st, pending := pe, fn, tmps := a.tmps, params := ps, assign, body, defers := w.heap.size } := ⟨_, rfl⟩
  obtain ⟨V, hV⟩ : ∃ V, (w.alloc (.deferred (some []))).alloc (.loop (rec .ready none)) = V := ⟨_, rfl⟩
  have vL : V.heap[w.heap.size + 1]? = some (.loop (rec .ready none)) := by
    subst hV
    have := World.alloc_heap_new (w.alloc (.deferred (some []))) (.loop (rec .ready none))
    rwa [World.size_alloc] at this
  have vD : V.heap[w.heap.size]? = some (.deferred (some [])) := by
    subst hV
    exact (Below.heap_alloc _ _ _ (by simp)).trans (World.alloc_heap_new w _)
  have vI : I [] V := by subst hV; exact hI.alloc _ (hI.alloc _ h0)
  have vS : V.heap.size = w.heap.size + 2 := by subst hV; simp
  have vB : Below w0.heap.size w0 V := by
    subst hV
    exact hb0.trans ((((Below.refl _ w).alloc (Nat.le_refl _) _).alloc (by simp) _).mono hb0.size)
  refine ⟨w.heap.size + 1, [{ target := .collected w.heap.size, args := #[] }], V, { target := .fn (.func gf) lb, args := #[.func (.yield (w.heap.size + 1)) #[] #[]] }, V, gf, #[.func (.yield (w.heap.size + 1)) #[] #[]] ++ lb, V, ?_, ?_, ?_, ?_, fun _ => h1, ?_⟩
  · rw [← hV, hrec]; exact run_enterLoop_outer _ _ _ _ _
  · simp only [resolve, hg]
    simp [go_sem]
  · intro f' hf'
    simp [Target.leads] at hf'
    subst hf'
    exact hFg
  · simp [invoke, go_sem, eg]
  have apart : ∀ {A B : World} {row : Option Nat} {k : Nat} {o : Obj}, A.heap[k]? = some o → A.grownBy B row → (∀ r, row = some r → V.heap.size ≤ r) → k < V.heap.size → B.heap[k]? = some o := fun hk hg hr hlt =>
    (hg.block _ (Array.getElem?_eq_some_iff.1 hk).1 (fun e => by have := hr _ e.symm; omega)).trans hk
  refine (hseq (w.heap.size + 1)
    (fun pre W => I pre W ∧ W.heap[w.heap.size + 1]? = some (.loop (rec .ready none)) ∧ W.heap[w.heap.size]? = some (.deferred (some [])))
    (fun pre W => ∃ c, Ix c pre W ∧ W.heap[w.heap.size + 1]? = some (.loop (rec .done (some c))) ∧ W.heap[w.heap.size]? = some (.deferred (some [])))
    V vB
    (fun s A B row hs hg' hr => ⟨hI s A B row hs.1 hg' (fun r e => ⟨by have := (hr r e).1; omega, (hr r e).2⟩), apart hs.2.1 hg' (fun r e => (hr r e).1) (by omega), apart hs.2.2 hg' (fun r e => (hr r e).1) (by omega)⟩)
    (fun s A B row hs hg' hr => by
      obtain ⟨c, hc, hl, hk⟩ := hs
      exact ⟨c, hIx c s A B row hc hg' (fun r e => ⟨by have := (hr r e).1; omega, (hr r e).2⟩), apart hl hg' (fun r e => (hr r e).1) (by omega), apart hk hg' (fun r e => (hr r e).1) (by omega)⟩)
    ?round ⟨vI, vL, vD⟩).mono ?behind
  case round =>
    rintro pre x W ⟨hi, hl, hk⟩ hrd
    have hlt : w.heap.size + 1 < W.heap.size := (Array.getElem?_eq_some_iff.1 hl).1
    have hy := run_yield (P := P) (args := encs x) hl (by rw [hrec]; exact hps x)
    rw [hrec] at hy
    refine ⟨fn, _, assign, body, hy, roundIn_of_wpIn hfn (hassign _ x W _ ⟨_, run_beginRound hl (by rw [hrec]), ?_⟩)⟩
    clear hy
    have bL : (W.putObj (w.heap.size + 1) (.loop { rec .ready none with state := .busy })).heap[w.heap.size + 1]? = some (.loop { rec .ready none with state := .busy }) := World.putObj_heap_same hlt
    have bD : (W.putObj (w.heap.size + 1) (.loop { rec .ready none with state := .busy })).heap[w.heap.size]? = some (.deferred (some [])) := (World.putObj_heap_other (by omega)).trans hk
    refine wpIn_mono (hbody _ pre x _ (hI.putObj _ hi (by omega) hl trivial) ((hRd pre x).putObj (s := ()) _ hrd (by omega) hl rfl)) ?_
    -- the round's end
    have fin : ∀ (jump : Option Code) (U : World), KeepOut (fun _ => True) w.heap.size (W.putObj (w.heap.size + 1) (.loop { rec .ready none with state := .busy })) U →
        (Instr.endRound (w.heap.size + 1) jump).run P U = .ok (.bool jump.isNone) (U.putObj (w.heap.size + 1) (.loop (rec (if jump.isNone then .ready else .done) jump))) ∧
        U.heap[w.heap.size + 1]? = some (.loop { rec .ready none with state := .busy }) ∧
        (U.putObj (w.heap.size + 1) (.loop (rec (if jump.isNone then .ready else .done) jump))).heap[w.heap.size + 1]? = some (.loop (rec (if jump.isNone then .ready else .done) jump)) ∧
        (U.putObj (w.heap.size + 1) (.loop (rec (if jump.isNone then .ready else .done) jump))).heap[w.heap.size]? = some (.deferred (some [])) := fun jump U hkU => by
      have uL := hkU.2 _ _ bL (fun h => by omega)
      have := run_endRound (P := P) jump uL
      rw [hrec] at this ⊢
      exact ⟨this, by rw [hrec] at uL; exact uL, World.putObj_heap_same (Array.getElem?_eq_some_iff.1 uL).1, (World.putObj_heap_other (by omega)).trans (hkU.2 _ _ bD (fun h => by omega))⟩
    have out : ∀ (c : Code) (U : World), KeepOut (fun _ => True) w.heap.size (W.putObj (w.heap.size + 1) (.loop { rec .ready none with state := .busy })) U → Ix c (pre ++ [x]) U →
        (∃ c', Ix c' (pre ++ [x]) (U.putObj (w.heap.size + 1) (.loop (rec .done (some c)))) ∧ (U.putObj (w.heap.size + 1) (.loop (rec .done (some c)))).heap[w.heap.size + 1]? = some (.loop (rec .done (some c'))) ∧ (U.putObj (w.heap.size + 1) (.loop (rec .done (some c)))).heap[w.heap.size]? = some (.deferred (some []))) ∧ KeepOut (fun _ => True) V.heap.size W (U.putObj (w.heap.size + 1) (.loop (rec .done (some c)))) := fun c U hkU hix => by
      obtain ⟨_, h3, h4, h5⟩ := fin (some c) U hkU
      refine ⟨⟨c, (hIx c).putObj _ hix (by omega) h3 trivial, h4, h5⟩, by have := hkU.1; simpa using this, fun k o hk hm => ?_⟩
      have hkl : k ≠ w.heap.size + 1 := fun e => hm (by omega) trivial
      rw [World.putObj_heap_other hkl]
      exact hkU.2 k o (by rw [World.putObj_heap_other hkl]; exact hk) (fun h => hm (by omega))
    rintro e a3 U hp
    cases e with
    | normal =>
      obtain ⟨hk3, hi3⟩ := hp
      obtain ⟨hr, h3, h4, h5⟩ := fin none U hk3.any
      refine ⟨_, _, hr, .inl ⟨rfl, ⟨hI.putObj _ hi3 (by omega) h3 trivial, h4, h5⟩, by have := hk3.1; simpa using this, fun k o hk hm => ?_⟩⟩
      by_cases hkl : k = w.heap.size + 1
      · subst hkl
        rw [hl] at hk
        rw [← hk]
        exact h4
      · rw [World.putObj_heap_other hkl]
        exact hk3.2 k o (by rw [World.putObj_heap_other hkl]; exact hk) (fun h => hm (by omega))
    | ret => exact ⟨_, _, (fin (some .ret) U hp.1).1, .inr ⟨rfl, out .ret U hp.1 hp.2⟩⟩
    | exit id => exact ⟨_, _, (fin (some (.exit id)) U hp.1).1, .inr ⟨rfl, out (.exit id) U hp.1 hp.2⟩⟩
    | goto t => exact ⟨_, _, (fin (some (.goto t)) U hp.1).1, .inr ⟨rfl, out (.goto t) U hp.1 hp.2⟩⟩
    | panic ch => exact hp.elim
    | outgrown => exact hp.elim
  case behind =>
    rintro e U ⟨⟨v, rfl⟩, (⟨xs, hS, hi, hl, hk⟩ | ⟨pre, hSp, c, hi, hl, hk⟩)⟩
    · have hr := run_endLoop (P := P) hl (by rw [hrec]; simp)
      rw [hrec] at hr
      exact ⟨none, _, hr, hdone _ xs _ (Nat.le_refl _) hS (hI.putObj _ hi (by omega) hl trivial) ((World.putObj_heap_other (by omega)).trans hk)⟩
    · have hr := run_endLoop (P := P) hl (by rw [hrec]; simp)
      rw [hrec] at hr
      exact ⟨some c, _, hr, hstop _ c pre _ (Nat.le_refl _) hSp ((hIx c).putObj _ hi (by omega) hl trivial) ((World.putObj_heap_other (by omega)).trans hk)⟩
end
end Go.Proofs.YtocnabpplbeafaaGreat
/- frame.Cut for rounds that write a disk. -/
namespace Go.Proofs.YtocnabpplbeafaaGreat
open Go Go.RowKit Lou Go.Shelf
attribute [local go_sem] Oper.semAt_some

set_option maxRecDepth 100000 in
set_option maxHeartbeats 4000000 in
theorem chunk1_inS (n : Nat) (hn2 : 2 ≤ n) (l Bs Bn g o c L : Nat) (A : Option Addr) (hA : 0 < L → A = some ⟨g, o, none⟩) (hLc : L ≤ c) (hL : L ≤ 1000000) (hcm : c ≤ 9223372036854775807) (J Jx : List Nat → World → Prop) (Mu : Nat → Prop) (hMs : ¬ Mu Bs) (hMn : ¬ Mu Bn) (BE : Nat)
    (hY : ∀ pre k W, J pre W → (k = pre.length ∧ 64 * k < L) → YieldAt Fence.wide (n - 1) Tryz.prog l #[.slice (some ⟨g, o + 64 * k, none⟩) (chLen L k) (chLen L k)] W fun e W' =>
      (e = .returned (.bool true) ∧ J (pre ++ [k]) W' ∧ KeepOut Mu BE W W') ∨ (e = .returned (.bool false) ∧ Jx (pre ++ [k]) W' ∧ KeepOut (fun _ => True) BE W W'))
    (W : World) (hJA : AbSm W.heap.size J) (hcs : W.cell? ⟨Bs, 0, none⟩ = some (.slice A L c)) (hcn : W.cell? ⟨Bn, 0, none⟩ = some (.int .i64 64)) (h0 : J [] W) :
    CallsIn Fence.wide n Tryz.prog 140 #[.func (.yield l) #[] #[], .pointer (some ⟨Bs, 0, none⟩), .pointer (some ⟨Bn, 0, none⟩)] W fun e W' => (∃ v, e = .returned v) ∧
      ((∃ ys, ys.length = chAll L ∧ J ys W') ∨ (∃ pre, pre.length ≤ chAll L ∧ Jx pre W')) := by
  have h1 : 1 ≤ n := by omega
  refine callsIn_of_wp Tryz.func140 rfl trivial ?_ rfl
  simp only [Tryz.ntmps140, List.size_toArray, List.length_cons, List.length_nil, Nat.reduceAdd, Nat.reduceSub, Array.replicate_succ, Array.replicate_zero, List.push_toArray, List.append_toArray, List.nil_append, List.cons_append]
  gi_wp2
  gi_loopw [4] (fun i wr => ∃ (q : Nat) (pre : List Nat), i = .int .i64 q ∧ q = 64 * pre.length ∧ q < L + 64 ∧ J pre wr ∧ Keep2 Bs Bn W wr)
    (fun i _ => L + 64 - (intOf i).toNat)
  case atStart => exact ⟨0, [], rfl, rfl, by omega, h0, rfl, rfl⟩
  case round =>
    obtain ⟨q, pre, rfl, hq, hb, hJs, hnx⟩ := hrel
    have hc1 : wr.cell? ⟨Bs, 0, none⟩ = some (.slice A L c) := hnx.1.trans hcs
    have hc2 : wr.cell? ⟨Bn, 0, none⟩ = some (.int .i64 64) := hnx.2.trans hcn
    by_cases hlt : q < L
    · obtain rfl := hA (by omega)
      obtain ⟨m, hm2⟩ : ∃ m, m = chLen L pre.length := ⟨_, rfl⟩
      have hm : (if ((L - q : Nat) : Int) < 64 then ((L - q : Nat) : Int) else 64) = (m : Int) := by
        rw [hm2]
        unfold chLen
        rw [← hq]
        split <;> omega
      have hm0 : 0 < m := by rw [hm2]; unfold chLen; omega
      have hm3 : q + m ≤ L := by rw [hm2]; unfold chLen; omega
      have hm64 : m ≤ 64 := by rw [hm2]; unfold chLen; omega
      have hJd : J pre wr.drew := hJA.drew hJs
      obtain ⟨fn, tmps, assign, body, hy, hR⟩ := hY pre pre.length wr.drew hJd ⟨rfl, by omega⟩
      rw [← hm2, ← hq] at hy
      have hwm : IntKind.i64.wrap ((q : Int) + (m : Int)) = (q : Int) + (m : Int) := wrap_i64_id' _ (by omega) (by omega)
      have hw64 : IntKind.i64.wrap ((q : Int) + 64) = (q : Int) + 64 := wrap_i64_id' _ (by omega) (by omega)
      have HQ := Lib.hid hq
      have HM := Lib.hid hm2
      clear hq hm2
      gi_wp2
      gi_region
      gi_wp2
      refine hR.mono ?_
      have hQ := HQ.out
      rintro e W3 (⟨rfl, hJ3, hk3⟩ | ⟨rfl, hJx3, _⟩)
      · have hc2' : W3.cell? ⟨Bn, 0, none⟩ = some (.int .i64 64) := hk3.cell (p := ⟨Bn, 0, none⟩) hc2 (fun _ => hMn)
        have hnx3 : Keep2 Bs Bn W W3 := ⟨(hk3.cell (p := ⟨Bs, 0, none⟩) hc1 (fun _ => hMs)).trans hcs.symm, hc2'.trans hcn.symm⟩
        clear hQ
        gi_wp2
        go_roundw
        case rel => exact ⟨q + 64, pre ++ [pre.length], rfl, by simp; have := HQ.out; omega, by omega, hJ3, hnx3⟩
        case measure => simp [intOf]; omega
      · have hl : (pre ++ [pre.length]).length ≤ chAll L := by simp; unfold chAll; omega
        clear hQ
        gi_wp2
        exact bodyPost_ret (results_none rfl _ _ _) rfl ⟨⟨_, rfl⟩, .inr ⟨_, hl, hJx3⟩⟩
    · obtain ⟨hs⟩ : Nonempty (pre.length = chAll L) := ⟨by unfold chAll; omega⟩
      gi_wp2
      go_end0
      exact ⟨⟨_, rfl⟩, .inl ⟨pre, hs, hJs⟩⟩
theorem chunk1_seqS (n : Nat) (hn2 : 2 ≤ n) (Bs Bn g o c L : Nat) (A : Option Addr) (hA : 0 < L → A = some ⟨g, o, none⟩) (hLc : L ≤ c) (hL : L ≤ 1000000) (hcm : c ≤ 9223372036854775807) (Mu : Nat → Prop) (hMs : ¬ Mu Bs) (hMn : ¬ Mu Bn) (w : World) (hBs : Bs < w.heap.size) (hBn : Bn < w.heap.size)
    (hcs : w.cell? ⟨Bs, 0, none⟩ = some (.slice A L c)) (hcn : w.cell? ⟨Bn, 0, none⟩ = some (.int .i64 64)) :
    SeqS Fence.wide n Tryz.prog 140 #[.pointer (some ⟨Bs, 0, none⟩), .pointer (some ⟨Bn, 0, none⟩)] (fun k : Nat => #[.slice (some ⟨g, o + 64 * k, none⟩) (chLen L k) (chLen L k)]) Mu
      (fun pre k _ => k = pre.length ∧ 64 * k < L) (fun ys => ys.length = chAll L) (fun pre => pre.length ≤ chAll L) w := fun l J Jx W hW hJ _ hY h0 =>
  chunk1_inS n hn2 l Bs Bn g o c L A hA hLc hL hcm J Jx Mu hMs hMn W.heap.size hY W hJ ((hW.cell (p := ⟨Bs, 0, none⟩) hBs).trans hcs) ((hW.cell (p := ⟨Bn, 0, none⟩) hBn).trans hcn) h0
section
variable {n₀ : Nat}
set_option maxRecDepth 100000 in
set_option maxHeartbeats 4000000 in
theorem cut1_inS (n : Nat) (hn5 : 6 ≤ n) (l gB : Nat) (A : Option Addr) (c : Nat) (b : List UInt8) (hb : b.length ≤ 1000000) (J Jx : List (Nat × (Option Addr × Nat)) → World → Prop) (W : World)
    (Mu : Nat → Prop) (hMu : 0 < b.length → ∀ g o, A = some ⟨g, o, none⟩ → ¬ Mu g) (hJA : AbSm W.heap.size J) (hJxA : AbSm W.heap.size Jx)
    (hY : ∀ pre (x : Nat × (Option Addr × Nat)) W1, J pre W1 → (x.1 = pre.length ∧ 64 * x.1 < b.length ∧ InB W1 W1.heap.size x.2.1 x.2.2 (chunkB b x.1)) → YieldAt Fence.wide (n - 1) Tryz.prog l #[.int .i64 (x.1 : Int), .slice x.2.1 (chLen b.length x.1) x.2.2] W1 fun e W' =>
      (e = .returned (.bool true) ∧ J (pre ++ [x]) W' ∧ KeepOut Mu W.heap.size W1 W') ∨ (e = .returned (.bool false) ∧ Jx (pre ++ [x]) W' ∧ KeepOut (fun _ => True) W.heap.size W1 W'))
    (hg : gB < n₀) (hn0 : n₀ ≤ W.heap.size) (hcg : W.cell? ⟨gB, 0, none⟩ = some (.slice A b.length c)) (hin : InB W n₀ A c b) (h0 : J [] W) :
    CallsIn Fence.wide n Tryz.prog 120 #[.func (.yield l) #[] #[], .pointer (some ⟨gB, 0, none⟩)] W fun e W' => (∃ v, e = .returned v) ∧
      ((∃ ys, ys.length = chAll b.length ∧ J ys W') ∨ (∃ pre, pre.length ≤ chAll b.length ∧ Jx pre W')) := by
  have hle := hin.le
  have hmax := hin.max
  have h1 : 1 ≤ n := by omega
  refine callsIn_of_wp_marks Tryz.func120 rfl trivial ?_ rfl
  simp only [Tryz.ntmps120, List.size_toArray, List.length_cons, List.length_nil, Nat.reduceAdd, Nat.reduceSub, Array.replicate_succ, Array.replicate_zero, List.push_toArray, List.append_toArray, List.nil_append, List.cons_append]
  gi_wp2
  refine wpIn_scope_wide ?_
  gi_wp2
  refine wpIn_label ?_
  have hB0 : Below n₀ W ((W.alloc (.cells #[.func (.yield l) #[] #[]] 117)).alloc (.cells #[.int .i64 0] 3)) := ((Below.refl _ W).alloc hn0 _).alloc (by simp; omega) _
  have hcg2 := (hB0.cell (p := ⟨gB, 0, none⟩) hg).trans hcg
  gi_wp2_with (refine ⟨trivial, ?_⟩; gi_at_call 121; refine (chunk_in (n - 1) _ _ _ _).mono ?_; rintro e w' ⟨rfl, rfl⟩)
  obtain ⟨W2, hW2⟩ : ∃ W2, W2 = (W.alloc (.cells #[.func (.yield l) #[] #[]] 117)).alloc (.cells #[.int .i64 0] 3) := ⟨_, rfl⟩
  have s2 : W2.heap.size = W.heap.size + 1 + 1 := by rw [hW2]; simp
  have hy2 : BlkIs W2 W.heap.size 117 #[.func (.yield l) #[] #[]] := by rw [hW2]; exact (BlkIs.new W _ _).alloc _
  have hn2 : BlkIs W2 (W.heap.size + 1) 3 #[.int .i64 ((0 : Nat) : Int)] := by
    have := BlkIs.new (W.alloc (.cells #[.func (.yield l) #[] #[]] 117)) 3 #[.int .i64 ((0 : Nat) : Int)]
    rw [World.size_alloc] at this
    rw [hW2]
    exact this
  have hJ2 : J [] W2 := by rw [hW2]; exact hJA.alloc _ (hJA.alloc _ h0)
  rw [← hW2] at hB0 ⊢
  clear hW2 hcg2
  obtain ⟨W4, hW4⟩ : ∃ W4, W4 = (W2.alloc (.cells #[.slice A b.length c] 38)).alloc (.cells #[.int .i64 64] 3) := ⟨_, rfl⟩
  have s4 : W4.heap.size = W.heap.size + 4 := by rw [hW4]; simp; omega
  have hy4 : BlkIs W4 W.heap.size 117 #[.func (.yield l) #[] #[]] := by rw [hW4]; exact (hy2.alloc _).alloc _
  have hn4 : BlkIs W4 (W.heap.size + 1) 3 #[.int .i64 ((0 : Nat) : Int)] := by rw [hW4]; exact (hn2.alloc _).alloc _
  have hJ4 : J [] W4 := by rw [hW4]; exact hJA.alloc _ (hJA.alloc _ hJ2)
  have hB4 : Below n₀ W W4 := by rw [hW4]; exact (hB0.alloc (by omega) _).alloc (by simp; omega) _
  have hcs4 : W4.cell? ⟨W.heap.size + 1 + 1, 0, none⟩ = some (.slice A b.length c) := by rw [hW4, ← s2]; exact ((BlkIs.new W2 38 #[.slice A b.length c]).alloc _).boxed
  have hcn4 : W4.cell? ⟨W.heap.size + 1 + 1 + 1, 0, none⟩ = some (.int .i64 64) := by
    have := (BlkIs.new (W2.alloc (.cells #[.slice A b.length c] 38)) 3 #[.int .i64 64]).boxed
    rw [World.size_alloc, s2] at this
    rw [hW4]
    exact this
  rw [← hW4]
  clear hW4 hy2 hn2 hJ2 hB0
  obtain ⟨g, o, hA⟩ : ∃ g o, 0 < b.length → A = some ⟨g, o, none⟩ := by
    by_cases hb0 : 0 < b.length
    · obtain ⟨g, o, e, _⟩ := hin.lies hb0
      exact ⟨g, o, fun _ => e⟩
    · exact ⟨0, 0, fun h => absurd h hb0⟩
  refine wpIn_rangeFunc_S rfl h1 (gf := 140) (lb := #[.pointer (some ⟨W.heap.size + 1 + 1, 0, none⟩), .pointer (some ⟨W.heap.size + 1 + 1 + 1, 0, none⟩)]) rfl trivial (enters_of Tryz.func140 (by kernel_rfl) rfl)
    (chunk1_seqS (n - 1) (by omega) (W.heap.size + 1 + 1) (W.heap.size + 1 + 1 + 1) g o c b.length A hA hle hb hmax (fun k => (k < W.heap.size ∧ Mu k) ∨ k = W.heap.size + 1) (by omega) (by omega) W4 (by omega) (by omega) hcs4 hcn4) (Below.refl _ _) (fun _ => rfl)
    (fun pre V => (∃ xs : List (Nat × (Option Addr × Nat)), xs.length = pre.length ∧ J xs V) ∧ BlkIs V W.heap.size 117 #[.func (.yield l) #[] #[]] ∧ BlkIs V (W.heap.size + 1) 3 #[.int .i64 (pre.length : Int)] ∧ InB V n₀ A c b ∧ W.heap.size ≤ V.heap.size)
    (fun cd pre V => cd = .exit 0 ∧ ∃ xs : List (Nat × (Option Addr × Nat)), xs.length = pre.length ∧ Jx xs V)
    ?own ?own2 ?ownR ⟨⟨[], rfl, hJ4⟩, hy4, hn4, hin.below hB4, by omega⟩ ?act ?assign ?body ?done ?stop
  case own =>
    rintro pre X Y row ⟨⟨xs, hx, hJ⟩, h1, h2, h3, h4⟩ hgr hr
    exact ⟨⟨xs, hx, hJA xs X Y row hJ hgr (fun r e => ⟨by have := (hr r e).1; omega, (hr r e).2⟩)⟩, h1.abNew (by omega) hgr (fun r e => (hr r e).1), h2.abNew (by omega) hgr (fun r e => (hr r e).1), h3.grown (by omega) hgr (fun r e => by have := (hr r e).1; omega), Nat.le_trans h4 hgr.size⟩
  case own2 =>
    rintro cd pre X Y row ⟨e, xs, hx, hJ⟩ hgr hr
    exact ⟨e, xs, hx, hJxA xs X Y row hJ hgr (fun r e => ⟨by have := (hr r e).1; omega, (hr r e).2⟩)⟩
  case ownR => exact fun pre x => ownFrom_pure _ _
  case assign =>
    intro l1 x V K hK
    gi_wp2
    exact hK
  case body =>
    rintro l1 pre k V ⟨⟨xs, hxs, hJ⟩, hy, hnb, hB, hWV⟩ ⟨rfl, hkl⟩
    have hcy := hy.boxed
    have hcn := hnb.boxed
    have hfn := hnb.free 0
    have h11 : 1 ≤ n - 1 - 1 := by omega
    obtain rfl := hA (by omega)
    have hinV := chunk_inB hB hkl
    have hC := clone_gives V.drew _ _ _ ((hinV.drew).more (show n₀ ≤ V.drew.heap.size by show n₀ ≤ V.heap.size; omega)) (by rw [chunkB_length]; unfold chLen; omega)
    rw [chunkB_length] at hC
    gi_wp2
    gi_region_with (first
      | (refine ⟨trivial, ?_⟩; gi_at_call 46; refine (CallsIn.inRound l1 (callsIn_wide.2 hC)).mono ?_; rintro e W6 ⟨v6, rfl, own6, hB6⟩; obtain ⟨A6, c6, rfl, hin6⟩ := own6.inB; rw [chunkB_length]; have hBV : Below V.heap.size V W6 := (Below.refl _ V).drew.trans hB6; have hJ6 : J xs W6 := hJA.grow hJ hBV; have hxs' : pre.length = xs.length := hxs.symm; obtain ⟨fn, tmps, assign, body, hyy, hR⟩ := hY xs (pre.length, (A6, c6)) W6 hJ6 ⟨hxs', hkl, hin6⟩; have hy6 := hy.below hBV hy.lt; have hn6 := hnb.below hBV hnb.lt; have hcy6 := hy6.boxed; have hcn6 := hn6.boxed; have hBB6 := hB.below (hBV.mono (show n₀ ≤ V.heap.size by omega)); simp only at hyy; clear hxs')
      | (refine (RoundIn.anyRound hR).mono ?_; rintro e W7 hout; obtain ⟨r, rfl, hr⟩ := yield_out hout; clear hout))
    all_goals
      have s6 := hBV.size
      have k6 := KeepOut.grow (fun k => (k < W.heap.size ∧ Mu k) ∨ k = W.heap.size + 1) W4.heap.size hBV
      have hwk : IntKind.i64.wrap ((pre.length : Int) + 1) = (pre.length : Int) + 1 := wrap_i64_id' _ (by omega) (by omega)
      rcases hr with ⟨rfl, hJ7, hk7⟩ | ⟨rfl, hJx7, hk7⟩
      · have hy7 := hk7.blk hy6 (fun h => by omega)
        have hn7 := hk7.blk hn6 (fun h => by omega)
        have hb7 := hk7.inB2 hBB6 hMu
        have hcn7 := hn7.boxed
        have hfn7 := hn7.free 0
        gi_wp2
        refine ⟨(k6.trans ⟨hk7.1, fun k o hk hm => hk7.2 k o hk (fun h hmu => hm (by omega) (.inl ⟨h, hmu⟩))⟩).trans (KeepOut.setCell _ ⟨W.heap.size + 1, 0, none⟩ _ (by simp; omega) (.inr rfl)), ⟨xs ++ [(pre.length, A6, c6)], by simp [hxs], hJA.setCell (p := ⟨W.heap.size + 1, 0, none⟩) _ hJ7 (by simp) hn7 (by show 1 ≤ 64; decide)⟩, hy7.other (by simp) _, ?_, hb7.keep (fun p hp => World.cell?_setCell_other _ _ _ _ (fun e => by subst e; simp at hp; omega)), ?_⟩
        · have := hn7.set 0 (.int .i64 ((pre.length : Int) + 1))
          simpa using this
        · have := hk7.1
          simp
          omega
      · gi_wp2
        exact ⟨k6.any.trans ⟨hk7.1, fun k o hk hm => hk7.2 k o hk (fun h => hm (by omega))⟩, rfl, xs ++ [(pre.length, A6, c6)], by simp [hxs], hJx7⟩
  case done =>
    rintro D ys V hD hS ⟨⟨xs, hx, hJ⟩, _⟩ hK
    gi_wp2
    simp only [Exit.noGoto]
    refine ⟨by simp, .inl ⟨_, _, rfl, run_takeDeferred hK, ?_⟩⟩
    exact ⟨_, results_none rfl _ _ _, ⟨_, rfl⟩, .inl ⟨xs, by rw [hx, hS], hJA.putObj _ hJ (by omega) hK trivial⟩⟩
  case stop =>
    rintro D cd pre V hD hS ⟨rfl, xs, hx, hJ⟩ hK
    gi_wp2
    simp only [Exit.noGoto]
    refine ⟨by simp, .inl ⟨_, _, rfl, run_takeDeferred hK, ?_⟩⟩
    exact ⟨_, results_none rfl _ _ _, ⟨_, rfl⟩, .inr ⟨xs, by rw [hx]; exact hS, hJxA.putObj _ hJ (by omega) hK trivial⟩⟩
theorem cut1_seqS (n : Nat) (hn5 : 6 ≤ n) (gB : Nat) (A : Option Addr) (c : Nat) (b : List UInt8) (hb : b.length ≤ 1000000) (Mu : Nat → Prop) (hMu : 0 < b.length → ∀ g o, A = some ⟨g, o, none⟩ → ¬ Mu g) (w : World) (hg : gB < n₀) (hn0 : n₀ ≤ w.heap.size)
    (hcg : w.cell? ⟨gB, 0, none⟩ = some (.slice A b.length c)) (hin : InB w n₀ A c b) :
    SeqS Fence.wide n Tryz.prog 120 #[.pointer (some ⟨gB, 0, none⟩)] (cutEnc b.length) Mu (CutRd b) (fun ys => ys.length = chAll b.length) (fun pre => pre.length ≤ chAll b.length) w := fun l J Jx W hW hJ hJx hY h0 =>
  cut1_inS n hn5 l gB A c b hb J Jx W Mu hMu hJ hJx hY hg (Nat.le_trans hn0 hW.size) ((hW.cell (p := ⟨gB, 0, none⟩) (by simp; omega)).trans hcg) (hin.below (hW.mono hn0)) h0
end
end Go.Proofs.YtocnabpplbeafaaGreat
/- Regions that draw their order, in a round of a range over a function. -/
namespace Go.Proofs.YtocnabpplbeafaaGreat
open Go Go.RowKit Lou

/-- Q, but that nothing outgrows. -/
def NoOut (Q : Exit → Act → World → Prop) : Exit → Act → World → Prop
  | .outgrown, _, _ => False
  | e, a, w => Q e a w
theorem NoOut.imp {Q : Exit → Act → World → Prop} : ∀ (e : Exit) (a : Act) (w : World), NoOut Q e a w → Q e a w := fun e a w h => by
  cases e <;> first | exact h | exact (h : False).elim
theorem NoOut.stays {Q : Exit → Act → World → Prop} : ¬ LetsOut (NoOut Q) := fun ⟨_, _, h⟩ => h
/-- No operation defers. -/
def noDefer (ops : Array Oper) : Bool := ops.toList.all fun o => match o.op with | .defer _ => false | _ => true
section
variable {P : Program} {ops : Array Oper} {Q : Exit → Act → World → Prop} {n l : Nat}
theorem oper_inRound {o : Oper} {a : Act} {w : World} {K K' : Act → World → Prop} (hd : ∀ c, o.op ≠ .defer c) (hK : ∀ a w, K a w → K' a w) (h : o.wp P a w K (NoOut Q)) : o.wpIn (Fence.wide.inRound l) n P a w K' (NoOut Q) := by
  refine ⟨fun _ _ => trivial, ?_⟩
  have e : o.semAt (Fence.wide.inRound l).round a.eval = execOp a.eval o := Oper.semAt_some l _ o hd
  rw [e]
  unfold Oper.wp at h
  generalize (execOp a.eval o).run P w = r at *
  have nd : ∀ {p : Prop}, ((Fence.wide.inRound l).depth.isSome = true → p) := fun h => by cases h
  cases r with
  | ok x w' =>
    cases x <;> simp only [Oper.upon, Oper.uponIn] at h ⊢ <;>
      first
        | exact hK _ _ h
        | (refine ⟨nd, CallsIn.inRound l ((callsIn_wide.2 h).mono fun e w'' he => ?_)⟩; cases e <;> first | exact hK _ _ he | exact he)
        | exact ⟨nd, fun c cs _ => let ⟨v, w'', r, s⟩ := h c cs; ⟨v, w'', hK _ _ r, stepsIn_wide.2 s⟩⟩
        | exact h.elim
  | halt x w' => cases x <;> simp only [Oper.upon, Oper.uponIn] at h ⊢ <;> first | exact h | exact h.elim
theorem noDefer_spec (h : noDefer ops = true) {i : Nat} {o : Oper} (ho : ops[i]? = some o) : ∀ c, o.op ≠ .defer c := by
  intro c hc
  unfold noDefer at h
  rw [List.all_eq_true] at h
  have hm : o ∈ ops.toList := by
    obtain ⟨h1, h2⟩ := Array.getElem?_eq_some_iff.1 ho
    subst h2
    simp
  have := h o hm
  rw [hc] at this
  cases this
theorem wpAny_inRound (hd : noDefer ops = true) : ∀ (fuel : Nat) (listed : Array Bool) (a : Act) (w : World), wpAny P .any ops (NoOut Q) fuel listed a w → wpAnyIn (Fence.wide.inRound l) n P .any ops (NoOut Q) fuel listed a w := by
  intro fuel
  induction fuel with
  | zero => exact fun listed a w h => h
  | succ fuel ih =>
    intro listed a w h
    refine ⟨h.1, fun i hi => ?_⟩
    have hs := h.2 i hi
    unfold wpOp at hs
    unfold wpOpIn
    split
    · rename_i ho
      rw [ho] at hs
      exact ih _ _ _ hs
    · rename_i o ho
      rw [ho] at hs
      simp only at hs
      by_cases hw : Region.wanted o (yielded ops a.tmps) = true
      · rw [if_pos hw] at hs ⊢
        rcases hs with h1 | ⟨_, h2⟩
        · exact oper_inRound (noDefer_spec hd ho) (fun a w => ih _ a w) h1
        · exact (NoOut.stays h2).elim
      · rw [if_neg hw] at hs ⊢
        exact ⟨fun _ _ => trivial, ih _ _ _ hs⟩
end
namespace Reg
end Reg
end Go.Proofs.YtocnabpplbeafaaGreat
