/- Texts that the proof of DiskHolds leans on, part 11. -/
import Derived.Deep.OwnRows
import Derived.Test.YtlelckdcmlpmdaaDiskHoldsB10
/- Cells written in the midst of a row; the last loose write's bytes. -/
namespace Go.Proofs.Ytlelckdcmlpmdaa
open Go Go.RowKit Lou

theorem rangeAt_mid {w : World} {g : Nat} {cs : List Value} (h : w.rangeAt g 0 cs) (o : Nat) (vs : List Value) (ho : o + vs.length ≤ cs.length) :
    (w.setCells g o vs).rangeAt g 0 (cs.take o ++ vs ++ cs.drop (o + vs.length)) := by
  have hsome : ∀ j, j < vs.length → (w.cell? ⟨g, o + j, none⟩).isSome = true := fun j hj => by
    have := h (o + j) (cs[o + j]'(by omega)) (List.getElem?_eq_getElem (by omega))
    rw [Nat.zero_add] at this
    rw [this]
    rfl
  have hlt : (cs.take o).length = o := by rw [List.length_take]; omega
  intro j v hj
  rw [Nat.zero_add]
  by_cases h1 : j < o
  · rw [World.cell?_setCells_out g vs o w _ (fun _ _ => Or.inl h1)]
    rw [List.append_assoc, List.getElem?_append_left (by omega), List.getElem?_take, if_pos h1] at hj
    have := h j v hj
    rwa [Nat.zero_add] at this
  · by_cases h2 : j < o + vs.length
    · have e : j = o + (j - o) := by omega
      rw [List.append_assoc, List.getElem?_append_right (by omega), List.getElem?_append_left (by omega), hlt, List.getElem?_eq_getElem (by omega)] at hj
      rw [e, World.cell?_setCells_in g vs o w hsome (j - o) (by omega)]
      exact hj
    · rw [World.cell?_setCells_out g vs o w _ (fun _ _ => Or.inr (by show o + vs.length ≤ j; omega))]
      rw [List.getElem?_append_right (by rw [List.length_append]; omega), List.length_append, hlt, List.getElem?_drop] at hj
      rw [show o + vs.length + (j - (o + vs.length)) = j from by omega] at hj
      have := h j v hj
      rwa [Nat.zero_add] at this
theorem size_setCellsL (b : Nat) : ∀ (vs : List Value) (o : Nat) (w : World), (w.setCells b o vs).heap.size = w.heap.size
  | [], _, _ => rfl
  | v :: r, o, w => by
    rw [World.setCells, size_setCellsL b r (o + 1) _, World.size_setCell]
theorem inG_mid {w : World} {B sz g n c : Nat} {cs : List Value} (h : InG w B sz (some ⟨g, 0, none⟩) n c cs) (h0 : 0 < n) (o : Nat) (vs : List Value) (ho : o + vs.length ≤ cs.length) (h1 : ∀ v ∈ vs, v.oneCell' = true) :
    InG (w.setCells g o vs) B sz (some ⟨g, 0, none⟩) n c (cs.take o ++ vs ++ cs.drop (o + vs.length)) := by
  obtain ⟨g', o', e, hg, hr⟩ := h.lies h0
  injection e with e
  injection e with e1 e2
  subst e1 e2
  refine ⟨h.le, h.max, (fun e => by cases e), ?_, ?_, fun _ => ⟨g, 0, rfl, hg, rangeAt_mid hr o vs ho⟩⟩
  · have := h.len
    rw [List.length_append, List.length_append, List.length_take, List.length_drop]
    omega
  · intro v hv
    rcases List.mem_append.1 hv with hv | hv
    · rcases List.mem_append.1 hv with hv | hv
      · exact h.one v (List.mem_of_mem_take hv)
      · exact h1 v hv
    · exact h.one v (List.mem_of_mem_drop hv)
/-- The last loose write's bytes, written anew. -/
theorem inW_mid {w : World} {B g c m : Nat} {ki : List (Nat × List UInt8)} {x1 : Nat} {x2 z : List UInt8} (h : InW w B (some ⟨g, 0, none⟩) c (ki ++ [(x1, x2)])) (hm : m = ki.length) (hz : z.length = 64) :
    InW (w.setCells g (m * 65 + 1) (z.map b8)) B (some ⟨g, 0, none⟩) c (ki ++ [(x1, z)]) := by
  obtain ⟨hw, hx⟩ := h
  have hwk : Wide ki := fun y hy => hw y (by simp [hy])
  have h2 : x2.length = 64 := hw (x1, x2) (by simp)
  have hlk := flC_length hwk
  have e1 : flC (ki ++ [(x1, x2)]) = flC ki ++ .int .i64 (x1 : Int) :: x2.map b8 := by rw [flC_append]; simp [flC, lsC]
  have e2 : flC (ki ++ [(x1, z)]) = flC ki ++ .int .i64 (x1 : Int) :: z.map b8 := by rw [flC_append]; simp [flC, lsC]
  have hlen : (flC (ki ++ [(x1, x2)])).length = m * 65 + 65 := by rw [e1, List.length_append, hlk, List.length_cons, List.length_map, h2, hm]
  have hzl : (z.map b8).length = 64 := by rw [List.length_map, hz]
  refine ⟨?_, ?_⟩
  · intro y hy
    rcases List.mem_append.1 hy with hy | hy
    · exact hwk y hy
    · obtain rfl : y = (x1, z) := by simpa using hy
      exact hz
  · have := inG_mid hx (by simp) (m * 65 + 1) (z.map b8) (by rw [hlen, hzl]; omega) (fun v hv => b8_one _ v hv)
    rw [show (flC (ki ++ [(x1, x2)])).take (m * 65 + 1) ++ z.map b8 ++ (flC (ki ++ [(x1, x2)])).drop (m * 65 + 1 + (z.map b8).length) = flC (ki ++ [(x1, z)]) from by
      rw [hzl, List.drop_eq_nil_of_le (by rw [hlen]; omega), List.append_nil, e1, e2]
      have h3 : (flC ki ++ Value.int .i64 (x1 : Int) :: x2.map b8).take (m * 65 + 1) = flC ki ++ [Value.int .i64 (x1 : Int)] := by
        rw [hm, ← hlk, List.take_length_add_append]
        rfl
      rw [h3]
      simp] at this
    rw [show (ki ++ [(x1, z)]).length = (ki ++ [(x1, x2)]).length from by simp]
    exact this
/-- The cells of an own row's block may be written. -/
theorem own_there {w : World} {base : Nat} {T : TypeId} {sz g n c : Nat} {cs : List Value} (h : w.ownsRow base T sz (.slice (some ⟨g, 0, none⟩) n c) n cs) (o k : Nat) (hk : o + k ≤ n * sz) : w.there g o k := by
  rcases h.2 with ⟨e, _⟩ | ⟨g', cap, cur, e, hb, hg, hle, hm, hs, ht⟩
  · cases e
  · injection e with e1 e2 e3
    injection e1 with e1
    injection e1 with e1
    subst e1
    have h5 : n * sz ≤ cap * sz := Nat.mul_le_mul_right _ hle
    intro j hj
    refine ⟨?_, ?_⟩
    · rw [cell_of_row w g (o + j) cur _ (0, 0) hg, Array.getElem?_eq_getElem (by omega)]
      rfl
    · unfold World.frozen?
      simp [hg]
/-- What lay below B stays. -/
theorem below_setCellsL {B b : Nat} (hb : B ≤ b) : ∀ (vs : List Value) (o : Nat) {a w : World}, Below B a w → Below B a (w.setCells b o vs)
  | [], _, _, _, h => h
  | v :: r, o, a, w, h => below_setCellsL hb r (o + 1) (h.setCell hb v)
end Go.Proofs.Ytlelckdcmlpmdaa
/- disk: Crash. -/
namespace Go.Proofs.Ytlelckdcmlpmdaa
open Go Go.RowKit Lou

/-- The loose writes that are kept, of the first i. -/
def keptTo (xs : List (Nat × List UInt8)) (bs : List Bool) : Nat → List (Nat × List UInt8)
  | 0 => []
  | i + 1 => if bs.getD i false then keptTo xs bs i ++ [xs.getD i (0, zer64)] else keptTo xs bs i
theorem keptTo_le (xs : List (Nat × List UInt8)) (bs : List Bool) : ∀ i, (keptTo xs bs i).length ≤ i
  | 0 => Nat.le_refl _
  | i + 1 => by
    unfold keptTo
    have := keptTo_le xs bs i
    split
    · simp; omega
    · omega
theorem keptTo_wide {xs : List (Nat × List UInt8)} (hw : Wide xs) (bs : List Bool) : ∀ i, Wide (keptTo xs bs i)
  | 0 => fun x h => by simp [keptTo] at h
  | i + 1 => by
    unfold keptTo
    split
    · intro x hx
      rcases List.mem_append.1 hx with h | h
      · exact keptTo_wide hw bs i x h
      · obtain rfl : x = xs.getD i (0, zer64) := by simpa using h
        rw [List.getD_eq_getElem?_getD]
        cases hq : xs[i]? with
        | none => decide
        | some y => exact hw y (List.mem_of_getElem? hq)
    · exact keptTo_wide hw bs i
/-- The last of the writes that are kept may be torn: of it the first t bytes alone have come. -/
def torn (g : Nat → List UInt8) (ks : List (Nat × List UInt8)) (t : Nat) : List (Nat × List UInt8) :=
  if ks = [] ∨ t = 0 then ks else ks.dropLast ++ [((ks.getLastD (0, zer64)).1, (ks.getLastD (0, zer64)).2.take t ++ (laid g ks.dropLast (ks.getLastD (0, zer64)).1).drop t)]
theorem torn_none (g : Nat → List UInt8) (ks : List (Nat × List UInt8)) (t : Nat) (h : ks = [] ∨ t = 0) : torn g ks t = ks := if_pos h
theorem setRow_grownBy (w : World) (p : Nat) (cs : Array Value) : w.grownBy (w.setRow p cs) (some p) := ⟨rfl, rfl, rfl, by simp [World.setRow], fun k _ hk => setRow_other w p k cs (fun e => hk (by rw [e]))⟩
section
variable (w : World) (p many : Nat) (g : Nat → List UInt8) (xs : List (Nat × List UInt8)) (left : Int) (stops : Bool)
set_option maxRecDepth 100000 in
set_option maxHeartbeats 4000000 in
theorem crash_gives (hD : DkIs w p many g xs left stops) (t : Nat) (ht : t ≤ 63) (K : Option Addr) (kc : Nat) (bs : List Bool) (hk : InG w w.heap.size 1 K bs.length kc (bs.map Value.bool)) (hl : xs.length ≤ 1000000) :
    Calls Try.prog 25 #[.pointer (some ⟨p, 0, none⟩), .int .i64 (t : Int), .slice K bs.length kc] w fun e w' => e = .returned (.int .i64 0) ∧ DkIs w' p many (laid g (torn g (keptTo xs bs xs.length) t)) [] 0 false ∧ w.grownBy w' (some p) := by
  have hB0 : Below w.heap.size w (w.alloc (.cells #[.int .i64 (t : Int)] 3)) := (Below.refl _ w).alloc (Nat.le_refl _) _
  have b0 := BlkIs.new w 3 #[.int .i64 (t : Int)]
  have HA : Calls Try.prog 88 #[.pointer (some ⟨p, 0, none⟩), .slice (some ⟨w.heap.size + 1, 0, none⟩) 1 1] ((w.alloc (.cells #[.int .i64 (t : Int)] 3)).alloc (.cells #[.func (.func 97) #[] #[.pointer (some ⟨w.heap.size, 0, none⟩)], .int .i64 2] 157)) fun e w' => e = .returned (.int .i64 0) ∧ Below (w.heap.size + 1) (w.alloc (.cells #[.int .i64 (t : Int)] 3)) w' := by
    have h := asked1_gives (w.alloc (.cells #[.int .i64 (t : Int)] 3)) p many g xs left stops (hD.grow hB0) (askTear w.heap.size t) (ans_tear _ w.heap.size t b0)
    have hf : firstE [askTear w.heap.size t] = 0 := firstE_none _ (fun j h => by
      have : j = 0 := by simp at h; omega
      subst this
      simp [askTear]
      omega)
    rw [hf, World.size_alloc] at h
    exact h
  have hkm := hk.le
  have hkx := hk.max
  go_enter Try.func25, Try.ntmps25
  go_wp2_with (go_at_call 88; refine HA.mono ?_; rintro e w2 ⟨rfl, hB2⟩; have hB3 : Below w.heap.size w w2 := hB0.trans (hB2.mono (by omega)); have b2 := b0.below hB2 (Nat.lt_succ_self _); obtain ⟨r, A, c, hb, hm, hw, hx⟩ := (hD.grow hB3).has; have k2 : w2.cell? ⟨p, 2, none⟩ = some (.slice A xs.length c) := (by rw [hb.cell]; rfl))
  have hxk := hk.grow hB3
  go_loopw [8, 26] (fun v i wr => ∃ (k : Nat) (A8 : Option Addr) (c8 : Nat), k ≤ xs.length ∧ i = .int .i64 k ∧ v = .slice A8 (keptTo xs bs k).length c8 ∧ wr.ownsRow w2.heap.size 164 65 (.slice A8 (keptTo xs bs k).length c8) (keptTo xs bs k).length (flC (keptTo xs bs k)) ∧ Below w2.heap.size w2 wr) (fun _ i _ => xs.length - (intOf i).toNat)
  case atStart => exact ⟨0, none, 0, by omega, rfl, rfl, World.ownsRow_nil _ _ _ _, Below.refl _ _⟩
  case round =>
    obtain ⟨k, A8, c8, hkl, rfl, rfl, own, hBr⟩ := hrel
    by_cases hlt : k < xs.length
    · obtain ⟨gA, oA, rfl, hgA, _⟩ := hx.lies (by omega)
      have hr : wr.rangeAt gA (oA + k * 65) (lsC xs[k]) := fun j v hj => (hBr.cell (p := ⟨gA, oA + k * 65 + j, none⟩) hgA).trans (InW.elem ⟨hw, hx⟩ k hlt j v hj)
      have hw6 : xs[k].2.length = 64 := hw _ (List.getElem_mem hlt)
      have hwk : IntKind.i64.wrap ((k : Int) + 1) = (k : Int) + 1 := wrap_i64_fr _ (by omega) (by omega)
      have hyes : bs.getD k false = true → keptTo xs bs (k + 1) = keptTo xs bs k ++ [xs[k]] := fun h => by
        have e : keptTo xs bs (k + 1) = if bs.getD k false then keptTo xs bs k ++ [xs.getD k (0, zer64)] else keptTo xs bs k := rfl
        rw [e, if_pos h, List.getD_eq_getElem?_getD, List.getElem?_eq_getElem hlt]
        rfl
      have hnot : bs.getD k false = false → keptTo xs bs (k + 1) = keptTo xs bs k := fun h => by
        rw [keptTo, h]
        rfl
      have hkn : (keptTo xs bs k).length ≤ k := keptTo_le xs bs k
      obtain ⟨x, hxe⟩ : ∃ x, x = xs[k] := ⟨_, rfl⟩
      rw [← hxe] at hr hw6 hyes
      obtain ⟨x1, x2⟩ := x
      simp only at hw6
      have L65 := lsC_length (x := (x1, x2)) hw6
      have hz1 : (lsC (x1, x2)).toArray.size = (lsC (0, zer64)).toArray.size := by rw [List.size_toArray, List.size_toArray, L65]; rfl
      have n0 := BlkIs.new wr 164 (lsC (0, zer64)).toArray
      have nb := n0.setRow (lsC (x1, x2)).toArray
      have nB : Below wr.heap.size wr ((wr.alloc (.cells (lsC (0, zer64)).toArray 164)).setRow wr.heap.size (lsC (x1, x2)).toArray) := below_setRow ((Below.refl _ wr).alloc (Nat.le_refl _) _) (Nat.le_refl _) _
      obtain ⟨W, hW⟩ : ∃ W, W = (wr.alloc (.cells (lsC (0, zer64)).toArray 164)).setRow wr.heap.size (lsC (x1, x2)).toArray := ⟨_, rfl⟩
      rw [← hW] at nb nB
      have hBW := hBr.trans (nB.mono hBr.size)
      have ownW := ownG_grow own nB
      have hsz65 : (lsC (x1, x2)).toArray.size = 65 := by rw [List.size_toArray, L65]
      have HW := Lib.hid hW
      have H6 := Lib.hid hw6
      have H65 := Lib.hid L65
      have HR := Lib.hid hr
      have HZ1 := Lib.hid hz1
      have HS65 := Lib.hid hsz65
      clear hW hw6 L65 hr hz1 hsz65 hxe HA hBr own
      rcases hkb : decide (k < bs.length) with _ | _
      · have hN := Lib.hid (hnot (by
          have : ¬ k < bs.length := of_decide_eq_false hkb
          rw [List.getD_eq_getElem?_getD, List.getElem?_eq_none (by omega)]
          rfl))
        clear hyes hnot
        go_wp2_with (first
          | (refine wp_exec rfl (x_loadM rowLoose HR.out H65.out rfl rfl) ?_)
          | (refine wp_exec rfl (x_allocLs rfl) ?_)
          | (refine wp_storeW rfl 164 (.tmp 10) (.tmp 30) rfl wr.heap.size rfl rfl rowLoose n0 (by rfl) HZ1.out (lsC_one _) ?_; rw [← HW.out]))
        refine ⟨⟨k + 1, A8, c8, by omega, by simp, by rw [hN.out], ?_, hBW⟩, by simp [intOf]; omega⟩
        rw [hN.out]
        exact ownW
      · have hkl2 : k < bs.length := of_decide_eq_true hkb
        have hgd : bs.getD k false = bs[k] := by rw [List.getD_eq_getElem?_getD, List.getElem?_eq_getElem hkl2]; rfl
        obtain ⟨gK, oK, rfl, hgK, hrK⟩ := hk.lies (by omega)
        have hcK : W.cell? ⟨gK, oK + k, none⟩ = some (.bool bs[k]) := by
          rw [hBW.cell (p := ⟨gK, oK + k, none⟩) (Nat.lt_of_lt_of_le hgK hB3.size), hB3.cell (p := ⟨gK, oK + k, none⟩) hgK]
          exact hrK k _ (by simp [hkl2])
        have h0k : (0 : Int) ≤ (k : Int) := by omega
        have hkk : (k : Int) < (bs.length : Int) := by omega
        rw [hgd] at hyes hnot
        generalize bs[k] = bk at *
        cases bk with
        | false =>
          have hN := Lib.hid (hnot rfl)
          clear hyes hnot hgd
          go_wp2_with (first
            | (refine wp_exec rfl (x_loadM rowLoose HR.out H65.out rfl rfl) ?_)
            | (refine wp_exec rfl (x_allocLs rfl) ?_)
            | (refine wp_storeW rfl 164 (.tmp 10) (.tmp 30) rfl wr.heap.size rfl rfl rowLoose n0 (by rfl) HZ1.out (lsC_one _) ?_; rw [← HW.out]))
          refine ⟨⟨k + 1, A8, c8, by omega, by simp, by rw [hN.out], ?_, hBW⟩, by simp [intOf]; omega⟩
          rw [hN.out]
          exact ownW
        | true =>
          have hN := Lib.hid (hyes rfl)
          have hBa : Below W.heap.size W (W.alloc (.cells (lsC (x1, x2)).toArray 164)) := (Below.refl _ W).alloc (Nat.le_refl _) _
          clear hyes hnot hgd
          go_wp2_with (first
            | (refine wp_exec rfl (x_loadM rowLoose HR.out H65.out rfl rfl) ?_)
            | (refine wp_exec rfl (x_allocLs rfl) ?_)
            | (refine wp_storeW rfl 164 (.tmp 10) (.tmp 30) rfl wr.heap.size rfl rfl rowLoose n0 (by rfl) HZ1.out (lsC_one _) ?_; rw [← HW.out])
            | (refine wp_loadW rfl 164 (.tmp 10) rfl wr.heap.size rfl rowLoose nb HS65.out ?_)
            | (refine wp_exec rfl (x_sliceLs x1 x2 H6.out rfl rfl) ?_)
            | (at_builtin; refine wp_appG rfl elLoose (.tmp 41) (.tmp 43) rfl w2.heap.size (.slice A8 (keptTo xs bs k).length c8) (keptTo xs bs k).length (flC (keptTo xs bs k)) rfl (ownG_grow ownW hBa) _ _ 1 1 (lsC (x1, x2)) rfl (row_new W x1 x2 H6.out) (by unfold maxLen; omega) (by omega) (hBW.trans (hBa.mono hBW.size)).size ?_; intro v5 w5 own5 hg5))
          have e1 : flC [(x1, x2)] = lsC (x1, x2) := by simp [flC]
          have hB5 := (hBW.trans (hBa.mono hBW.size)).trans (grown_below hg5 (hBW.trans (hBa.mono hBW.size)).size (ownG_ge (ownG_grow ownW hBa)))
          rw [← e1, ← flC_append] at own5
          obtain ⟨A5, c5, rfl, _⟩ := ownG_in own5 (flC_one _)
          refine ⟨⟨k + 1, A5, c5, by omega, by simp, by rw [hN.out, List.length_append]; rfl, ?_, hB5⟩, by simp [intOf]; omega⟩
          rw [hN.out, List.length_append]
          exact own5
    · obtain rfl : k = xs.length := by omega
      have hwks := keptTo_wide hw bs xs.length
      have hkn := keptTo_le xs bs xs.length
      have hc4 : wr.cell? ⟨w.heap.size, 0, none⟩ = some (.int .i64 (t : Int)) := (hBr.cell (p := ⟨w.heap.size, 0, none⟩) b2.lt).trans b2.boxed
      obtain ⟨ks, hks⟩ : ∃ ks, ks = keptTo xs bs xs.length := ⟨_, rfl⟩
      rw [← hks] at hwks hkn own
      rw [← hks]
      have HKS := Lib.hid hks
      clear hks
      have hwk : IntKind.i64.wrap ((ks.length : Int) - 1) = (ks.length : Int) - 1 := wrap_i64_fr _ (by omega) (by omega)
      have hin8 : InW wr wr.heap.size A8 c8 ks := by
        obtain ⟨A', c', e, h⟩ := ownG_in own (flC_one _)
        injection e with e1 e2 e3
        subst e1 e3
        exact ⟨hwks, h⟩
      have hBw : Below w.heap.size w wr := hB3.trans (hBr.mono hB3.size)
      have hbr := hb.below hBr hb.lt
      have hmr := hm.below hBr hm.lt
      have hplt := hbr.lt
      have hmlt := hmr.lt
      by_cases htr : ks = [] ∨ t = 0
      · have HTQ := Lib.hid htr
        have HTR := Lib.hid (torn_none g ks t htr)
        clear htr
        obtain ⟨A9, c9, ks9, wz, h9a, h9b, h9c, h9d⟩ : ∃ (A9 : Option Addr) (c9 : Nat) (ks9 : List (Nat × List UInt8)) (wz : World), A9 = A8 ∧ c9 = c8 ∧ ks9 = ks ∧ wz = wr := ⟨_, _, _, _, rfl, rfl, rfl, rfl⟩
        subst h9a h9b h9c h9d
        go_wp2
        all_goals first
          | (exfalso; rcases HTQ.out with h | h; (have h' : ks9.length = 0 := (by rw [h]; rfl); omega); omega)
          | skip
        all_goals
          have HP : ∀ W, Below wz.heap.size wz W → W.cell? ⟨p, 0, none⟩ = some (.map (some r)) ∧ W.cell? ⟨p, 1, none⟩ = some (.int .i64 (many : Int)) := fun W hW => by
            have b := hbr.below hW hplt
            exact ⟨by rw [b.cell]; rfl, by rw [b.cell]; rfl⟩
          have hBd : Below wz.heap.size wz wz.drew := (Below.refl _ wz).drew
          have HN := now_gives wz.drew r g A9 c9 ks9 (hmr.grow hBd) (hin8.grow hBd) (by omega)
          refine RegF.start (fun W => Below wz.heap.size wz W) 13 (by kernel_rfl) ?_
          refine RegF.take 0 (.pointer (some ⟨p, 0, none⟩)) rfl (by kernel_rfl) (by kernel_rfl) (by kernel_rfl) (by kernel_rfl) (fun _ _ _ h => h) hBd (RegF.yld rfl (fun W hW => by go_simp)) ?_
          simp only [List.getElem_toArray, List.getElem_cons_succ, List.getElem_cons_zero, Act.put, List.setIfInBounds_toArray, List.set_cons_zero, List.set_cons_succ]
          refine RegF.take 1 (.pointer (some ⟨p, 0, none⟩)) rfl (by kernel_rfl) (by kernel_rfl) (by kernel_rfl) (by kernel_rfl) (fun _ _ _ h => h) hBd (RegF.yld rfl (fun W hW => by go_simp)) ?_
          simp only [List.getElem_toArray, List.getElem_cons_succ, List.getElem_cons_zero, Act.put, List.setIfInBounds_toArray, List.set_cons_zero, List.set_cons_succ]
          refine RegF.take 2 (.pointer (some ⟨p, 0, none⟩)) rfl (by kernel_rfl) (by kernel_rfl) (by kernel_rfl) (by kernel_rfl) (fun _ _ _ h => h) hBd (RegF.yld rfl (fun W hW => by go_simp)) ?_
          simp only [List.getElem_toArray, List.getElem_cons_succ, List.getElem_cons_zero, Act.put, List.setIfInBounds_toArray, List.set_cons_zero, List.set_cons_succ]
          refine RegF.take 3 (.pointer (some ⟨p, 0, none⟩)) rfl (by kernel_rfl) (by kernel_rfl) (by kernel_rfl) (by kernel_rfl) (fun _ _ _ h => h) hBd (RegF.yld rfl (fun W hW => by go_simp)) ?_
          simp only [List.getElem_toArray, List.getElem_cons_succ, List.getElem_cons_zero, Act.put, List.setIfInBounds_toArray, List.set_cons_zero, List.set_cons_succ]
          refine RegF.take 4 (.map (some r)) rfl (by kernel_rfl) (by kernel_rfl) (by kernel_rfl) (by kernel_rfl) (fun _ _ _ h => h) hBd (RegF.yld rfl (fun W hW => by have e := (HP W hW).1; go_simp)) ?_
          simp only [List.getElem_toArray, List.getElem_cons_succ, List.getElem_cons_zero, Act.put, List.setIfInBounds_toArray, List.set_cons_zero, List.set_cons_succ]
          refine RegF.take 5 (.slice A9 ks9.length c9) rfl (by kernel_rfl) (by kernel_rfl) (by kernel_rfl) (by kernel_rfl) (fun _ _ _ h => h) hBd (RegF.yld rfl (fun W hW => by go_simp)) ?_
          simp only [List.getElem_toArray, List.getElem_cons_succ, List.getElem_cons_zero, Act.put, List.setIfInBounds_toArray, List.set_cons_zero, List.set_cons_succ]
          refine RegF.take 7 (.pointer (some ⟨p, 0, none⟩)) rfl (by kernel_rfl) (by kernel_rfl) (by kernel_rfl) (by kernel_rfl) (fun _ _ _ h => h) hBd (RegF.yld rfl (fun W hW => by go_simp)) ?_
          simp only [List.getElem_toArray, List.getElem_cons_succ, List.getElem_cons_zero, Act.put, List.setIfInBounds_toArray, List.set_cons_zero, List.set_cons_succ]
          refine RegF.take 8 (.pointer (some ⟨p, 0, none⟩)) rfl (by kernel_rfl) (by kernel_rfl) (by kernel_rfl) (by kernel_rfl) (fun _ _ _ h => h) hBd (RegF.yld rfl (fun W hW => by go_simp)) ?_
          simp only [List.getElem_toArray, List.getElem_cons_succ, List.getElem_cons_zero, Act.put, List.setIfInBounds_toArray, List.set_cons_zero, List.set_cons_succ]
          refine RegF.take 9 (.pointer (some ⟨p, 1, none⟩)) rfl (by kernel_rfl) (by kernel_rfl) (by kernel_rfl) (by kernel_rfl) (fun _ _ _ h => h) hBd (RegF.yld rfl (fun W hW => by go_simp)) ?_
          simp only [List.getElem_toArray, List.getElem_cons_succ, List.getElem_cons_zero, Act.put, List.setIfInBounds_toArray, List.set_cons_zero, List.set_cons_succ]
          refine RegF.take 10 (.int .i64 (many : Int)) rfl (by kernel_rfl) (by kernel_rfl) (by kernel_rfl) (by kernel_rfl) (fun _ _ _ h => h) hBd (RegF.yld rfl (fun W hW => by have e := (HP W hW).2; go_simp)) ?_
          simp only [List.getElem_toArray, List.getElem_cons_succ, List.getElem_cons_zero, Act.put, List.setIfInBounds_toArray, List.set_cons_zero, List.set_cons_succ]
          refine RegF.one 6 (by kernel_rfl) ?_
          refine RegF.opC 94 #[.tmp 89, .tmp 90] #[151, 152] rfl rfl rfl (enters_of Try.func94 (by kernel_rfl) rfl) #[.map (some r), .slice A9 ks9.length c9] (by simp only [List.map_toArray, List.map_cons, List.map_nil]; rfl) (HN.mono ?_)
          rintro e w6 ⟨rfl, hm6, hB6⟩
          have hB6w : Below wz.heap.size wz w6 := hBd.trans (hB6.mono hBd.size)
          have hb6 := hbr.below hB6w hplt
          refine ⟨_, rfl, fun _ => hB6w, ?_⟩
          simp only [List.getElem_toArray, List.getElem_cons_succ, List.getElem_cons_zero, Act.put, List.setIfInBounds_toArray, List.set_cons_zero, List.set_cons_succ]
          refine RegF.one 11 (by kernel_rfl) ?_
          refine RegF.opV (.agg (dkC wz.heap.size many none 0 0 0 false)) rfl rfl (by unfold dkC; go_simp) ⟨fun _ => hB6w, ?_⟩
          simp only [List.getElem_toArray, List.getElem_cons_succ, List.getElem_cons_zero, Act.put, List.setIfInBounds_toArray, List.set_cons_zero, List.set_cons_succ]
          refine RegF.one 12 (by kernel_rfl) ?_
          refine RegF.opV (.pointer (some ⟨p, 0, none⟩)) rfl rfl (by go_simp) ⟨fun _ => hB6w, ?_⟩
          simp only [List.getElem_toArray, List.getElem_cons_succ, List.getElem_cons_zero, Act.put, List.setIfInBounds_toArray, List.set_cons_zero, List.set_cons_succ]
          refine RegF.one 13 (by kernel_rfl) ?_
          refine RegF.opS (w' := w6.setRow p (dkC wz.heap.size many none 0 0 0 false)) rfl rfl (x_storeW _ (.tmp 97) (.tmp 96) rfl p rfl rfl rowDisk hb6 rfl rfl (dkC_one _ _ _ _ _ _ _)) ⟨fun h => absurd rfl h, ?_⟩
          simp only [List.getElem_toArray, List.getElem_cons_succ, List.getElem_cons_zero, Act.put, List.setIfInBounds_toArray, List.set_cons_zero, List.set_cons_succ]
          refine RegF.done (by kernel_rfl) ?_
          have hfin : DkIs (w6.setRow p (dkC wz.heap.size many none 0 0 0 false)) p many (laid g ks9) [] 0 false := ⟨wz.heap.size, none, 0, hb6.setRow _, hm6.keep (setRow_other _ _ _ _ (show wz.heap.size ≠ p by omega)), InW.mt _ _⟩
          have hgfin : w.grownBy (w6.setRow p (dkC wz.heap.size many none 0 0 0 false)) (some p) := grownBy_trans (below_grownBy (hBw.trans (hB6w.mono hBw.size)) p) (setRow_grownBy w6 p _)
          generalize w6.setRow p (dkC wz.heap.size many none 0 0 0 false) = w7 at *
          go_wp2
          go_ret
          exact ⟨rfl, (by rw [← HKS.out, HTR.out]; exact hfin), hgfin⟩
      · have hne : ks ≠ [] := fun h => htr (.inl h)
        have ht0 : 0 < t := by
          rcases Nat.eq_zero_or_pos t with h | h
          · exact absurd (.inr h) htr
          · exact h
        obtain ⟨ki, ⟨x1, x2⟩, hke⟩ : ∃ ki x, ks = ki ++ [x] := ⟨ks.dropLast, ks.getLast hne, (List.dropLast_concat_getLast hne).symm⟩
        obtain ⟨m, hm1⟩ : ∃ m, m = ki.length := ⟨_, rfl⟩
        have hlen : ks.length = m + 1 := by rw [hke, hm1]; simp
        rw [hlen] at own hkn hwk
        have hin8' := hin8.2
        rw [hlen] at hin8'
        obtain ⟨g8, o8, e8, hg8, hr8⟩ := hin8'.lies (by omega)
        have hc8 := hin8'.le
        have ho8 : o8 = 0 := by
          rcases own.2 with ⟨e, _⟩ | ⟨g', cap, cur, e, _⟩
          · cases e
          · injection e with e1 e2 e3
            rw [e8] at e1
            injection e1 with e1
            injection e1
        subst ho8
        subst e8
        rw [hlen]
        have hE : wr.cell? ⟨g8, m * 65, none⟩ = some (.int .i64 (x1 : Int)) := by
          have h := InW.elem hin8 m (by rw [hlen]; omega) 0
          have e : ks[m]'(by rw [hlen]; omega) = (x1, x2) := by simp [hke, hm1]
          rw [e] at h
          have := h _ rfl
          simpa using this
        have HP : ∀ W, Below wr.heap.size wr W → W.cell? ⟨p, 0, none⟩ = some (.map (some r)) := fun W hW => by
          have b := hbr.below hW hplt
          rw [b.cell]; rfl
        have HE : ∀ W, Below wr.heap.size wr W → W.cell? ⟨g8, m * 65, none⟩ = some (.int .i64 (x1 : Int)) := fun W hW => (hW.cell (p := ⟨g8, m * 65, none⟩) hg8).trans hE
        have hBd : Below wr.heap.size wr wr.drew := (Below.refl _ wr).drew
        have hwm : IntKind.i64.wrap (((m + 1 : Nat) : Int) - 1) = (m : Int) := by rw [hwk]; omega
        have hm0 : (0 : Int) ≤ (m : Int) := by omega
        have hmc : (m : Int) ≤ (c8 : Int) := by omega
        have hmm : (m : Int) < ((m + 1 : Nat) : Int) := by omega
        have HM := Lib.hid hm1
        have HL := Lib.hid hlen
        have HE2 := Lib.hid hke
        clear hwk htr hm1 hlen hke hne
        go_wp2
        refine RegF.start (fun W => Below wr.heap.size wr W) 16 (by kernel_rfl) ?_
        refine RegF.take 0 (.pointer (some ⟨p, 0, none⟩)) rfl (by kernel_rfl) (by kernel_rfl) (by kernel_rfl) (by kernel_rfl) (fun _ _ _ h => h) hBd (RegF.yld rfl (fun W hW => by go_simp)) ?_
        simp only [List.getElem_toArray, List.getElem_cons_succ, List.getElem_cons_zero, Act.put, List.setIfInBounds_toArray, List.set_cons_zero, List.set_cons_succ]
        refine RegF.take 1 (.pointer (some ⟨p, 0, none⟩)) rfl (by kernel_rfl) (by kernel_rfl) (by kernel_rfl) (by kernel_rfl) (fun _ _ _ h => h) hBd (RegF.yld rfl (fun W hW => by go_simp)) ?_
        simp only [List.getElem_toArray, List.getElem_cons_succ, List.getElem_cons_zero, Act.put, List.setIfInBounds_toArray, List.set_cons_zero, List.set_cons_succ]
        refine RegF.take 2 (.pointer (some ⟨p, 0, none⟩)) rfl (by kernel_rfl) (by kernel_rfl) (by kernel_rfl) (by kernel_rfl) (fun _ _ _ h => h) hBd (RegF.yld rfl (fun W hW => by go_simp)) ?_
        simp only [List.getElem_toArray, List.getElem_cons_succ, List.getElem_cons_zero, Act.put, List.setIfInBounds_toArray, List.set_cons_zero, List.set_cons_succ]
        refine RegF.take 3 (.map (some r)) rfl (by kernel_rfl) (by kernel_rfl) (by kernel_rfl) (by kernel_rfl) (fun _ _ _ h => h) hBd (RegF.yld rfl (fun W hW => by have e := HP W hW; go_simp)) ?_
        simp only [List.getElem_toArray, List.getElem_cons_succ, List.getElem_cons_zero, Act.put, List.setIfInBounds_toArray, List.set_cons_zero, List.set_cons_succ]
        refine RegF.take 4 (.slice (some ⟨g8, 0, none⟩) (m + 1) c8) rfl (by kernel_rfl) (by kernel_rfl) (by kernel_rfl) (by kernel_rfl) (fun _ _ _ h => h) hBd (RegF.yld rfl (fun W hW => by go_simp)) ?_
        simp only [List.getElem_toArray, List.getElem_cons_succ, List.getElem_cons_zero, Act.put, List.setIfInBounds_toArray, List.set_cons_zero, List.set_cons_succ]
        refine RegF.take 5 (.int .i64 (m : Int)) rfl (by kernel_rfl) (by kernel_rfl) (by kernel_rfl) (by kernel_rfl) (fun _ _ _ h => h) hBd (RegF.yld rfl (fun W hW => by go_simp)) ?_
        simp only [List.getElem_toArray, List.getElem_cons_succ, List.getElem_cons_zero, Act.put, List.setIfInBounds_toArray, List.set_cons_zero, List.set_cons_succ]
        refine RegF.take 6 (.int .i64 (m : Int)) rfl (by kernel_rfl) (by kernel_rfl) (by kernel_rfl) (by kernel_rfl) (fun _ _ _ h => h) hBd (RegF.yld rfl (fun W hW => by go_simp)) ?_
        simp only [List.getElem_toArray, List.getElem_cons_succ, List.getElem_cons_zero, Act.put, List.setIfInBounds_toArray, List.set_cons_zero, List.set_cons_succ]
        refine RegF.take 7 (.slice (some ⟨g8, 0, none⟩) m m) rfl (by kernel_rfl) (by kernel_rfl) (by kernel_rfl) (by kernel_rfl) (fun _ _ _ h => h) hBd (RegF.yld rfl (fun W hW => by go_simp)) ?_
        simp only [List.getElem_toArray, List.getElem_cons_succ, List.getElem_cons_zero, Act.put, List.setIfInBounds_toArray, List.set_cons_zero, List.set_cons_succ]
        refine RegF.take 9 (.slice (some ⟨g8, 0, none⟩) (m + 1) c8) rfl (by kernel_rfl) (by kernel_rfl) (by kernel_rfl) (by kernel_rfl) (fun _ _ _ h => h) hBd (RegF.yld rfl (fun W hW => by go_simp)) ?_
        simp only [List.getElem_toArray, List.getElem_cons_succ, List.getElem_cons_zero, Act.put, List.setIfInBounds_toArray, List.set_cons_zero, List.set_cons_succ]
        refine RegF.take 10 (.int .i64 (m : Int)) rfl (by kernel_rfl) (by kernel_rfl) (by kernel_rfl) (by kernel_rfl) (fun _ _ _ h => h) hBd (RegF.yld rfl (fun W hW => by go_simp)) ?_
        simp only [List.getElem_toArray, List.getElem_cons_succ, List.getElem_cons_zero, Act.put, List.setIfInBounds_toArray, List.set_cons_zero, List.set_cons_succ]
        refine RegF.take 11 (.pointer (some ⟨g8, m * 65, none⟩)) rfl (by kernel_rfl) (by kernel_rfl) (by kernel_rfl) (by kernel_rfl) (fun _ _ _ h => h) hBd (RegF.yld rfl (fun W hW => by go_simp; intro h; omega)) ?_
        simp only [List.getElem_toArray, List.getElem_cons_succ, List.getElem_cons_zero, Act.put, List.setIfInBounds_toArray, List.set_cons_zero, List.set_cons_succ]
        refine RegF.take 12 (.pointer (some ⟨g8, m * 65, none⟩)) rfl (by kernel_rfl) (by kernel_rfl) (by kernel_rfl) (by kernel_rfl) (fun _ _ _ h => h) hBd (RegF.yld rfl (fun W hW => by go_simp)) ?_
        simp only [List.getElem_toArray, List.getElem_cons_succ, List.getElem_cons_zero, Act.put, List.setIfInBounds_toArray, List.set_cons_zero, List.set_cons_succ]
        refine RegF.take 13 (.int .i64 (x1 : Int)) rfl (by kernel_rfl) (by kernel_rfl) (by kernel_rfl) (by kernel_rfl) (fun _ _ _ h => h) hBd (RegF.yld rfl (fun W hW => by have e := HE W hW; go_simp)) ?_
        simp only [List.getElem_toArray, List.getElem_cons_succ, List.getElem_cons_zero, Act.put, List.setIfInBounds_toArray, List.set_cons_zero, List.set_cons_succ]
        have HN : ∀ W, Below wr.heap.size wr W → Calls Try.prog 94 #[.map (some r), .slice (some ⟨g8, 0, none⟩) m m] W fun e w' => e = .returned (.map (some W.heap.size)) ∧ MapF w' W.heap.size (laid g ki) ∧ Below W.heap.size W w' := by
          intro W hW
          have hwki : Wide ki := fun x hx => hwks x (by rw [HE2.out]; simp [hx])
          have ht := hin8'.take m m (by omega) (Nat.le_refl _) (by omega)
          rw [flC_take hwks m (by rw [HL.out]; omega)] at ht
          have e : ks.take m = ki := by rw [HE2.out, HM.out]; simp
          rw [e] at ht
          have hmk := HM.out
          have h := now_gives W r g (some ⟨g8, 0, none⟩) m ki (hmr.grow hW) ⟨hwki, by rw [← hmk]; exact ht.grow hW⟩ (by omega)
          rw [← hmk] at h
          exact h
        have HBa : ∀ W cs T, Below wr.heap.size wr W → Below wr.heap.size wr (W.alloc (.cells cs T)) := fun W cs T h => h.alloc h.size _
        have HZY : Hid (((laid g ki x1).map b8).toArray.size = (zer64.map b8).toArray.size) := Lib.hid (by
          rw [List.size_toArray, List.length_map, laid_len ki g hm.len (fun x hx => hwks x (by rw [HE2.out]; simp [hx]))]
          rfl)
        refine RegF.two 8 15 (by kernel_rfl) ?p8 ?p15
        case' p8 =>
          refine RegF.opC 94 #[.tmp 58, .tmp 62] #[151, 152] rfl rfl rfl (enters_of Try.func94 (by kernel_rfl) rfl) #[.map (some r), .slice (some ⟨g8, 0, none⟩) m m] (by simp only [List.map_toArray, List.map_cons, List.map_nil]; rfl) ((HN _ hBd).mono ?_)
          rintro e w6 ⟨rfl, hm6, hB6⟩
          have hB6w : Below wr.heap.size wr w6 := hBd.trans (hB6.mono (hBd).size)
          refine ⟨_, rfl, fun _ => hB6w, ?_⟩
          simp only [List.getElem_toArray, List.getElem_cons_succ, List.getElem_cons_zero, Act.put, List.setIfInBounds_toArray, List.set_cons_zero, List.set_cons_succ]
          refine RegF.two 14 15 (by kernel_rfl) ?q14 ?q15
          case' q14 =>
            refine RegF.opV _ rfl rfl (x_lookup hm6 rfl rfl rfl) ⟨fun _ => hB6w, ?_⟩
            simp only [List.getElem_toArray, List.getElem_cons_succ, List.getElem_cons_zero, Act.put, List.setIfInBounds_toArray, List.set_cons_zero, List.set_cons_succ]
            refine RegF.one 15 (by kernel_rfl) ?_
            refine RegF.opV _ rfl rfl (x_allocSec rfl) ⟨fun _ => HBa _ _ _ hB6w, ?_⟩
            simp only [List.getElem_toArray, List.getElem_cons_succ, List.getElem_cons_zero, Act.put, List.setIfInBounds_toArray, List.set_cons_zero, List.set_cons_succ]
            refine RegF.one 16 (by kernel_rfl) ?_
            refine RegF.opS (w' := (w6.alloc (.cells (zer64.map b8).toArray 162)).setRow w6.heap.size ((laid g ki x1).map b8).toArray) rfl rfl (x_storeW _ (.tmp 12) (.tmp 69) rfl w6.heap.size rfl rfl rowDSec (BlkIs.new w6 162 (zer64.map b8).toArray) (by rfl) HZY.out (b8_one _)) ⟨fun h => absurd rfl h, ?_⟩
            simp only [List.getElem_toArray, List.getElem_cons_succ, List.getElem_cons_zero, Act.put, List.setIfInBounds_toArray, List.set_cons_zero, List.set_cons_succ]
            refine RegF.done (by kernel_rfl) ?_
            have bq := (BlkIs.new w6 162 (zer64.map b8).toArray).setRow ((laid g ki x1).map b8).toArray
            have hBE : Below wr.heap.size wr ((w6.alloc (.cells (zer64.map b8).toArray 162)).setRow w6.heap.size ((laid g ki x1).map b8).toArray) := below_setRow (HBa _ _ _ hB6w) hB6w.size _
            have hqq : wr.heap.size ≤ w6.heap.size := hB6w.size
            generalize (w6.alloc (.cells (zer64.map b8).toArray 162)).setRow w6.heap.size ((laid g ki x1).map b8).toArray = wE at *
            obtain ⟨q, hq⟩ : ∃ q, q = w6.heap.size := ⟨_, rfl⟩
            rw [← hq] at bq hqq ⊢
            clear hq
          case' q15 =>
            refine RegF.opV _ rfl rfl (x_allocSec rfl) ⟨fun _ => HBa _ _ _ hB6w, ?_⟩
            simp only [List.getElem_toArray, List.getElem_cons_succ, List.getElem_cons_zero, Act.put, List.setIfInBounds_toArray, List.set_cons_zero, List.set_cons_succ]
            refine RegF.one 14 (by kernel_rfl) ?_
            refine RegF.opV _ rfl rfl (x_lookup (hm6.grow ((Below.refl _ w6).alloc (Nat.le_refl _) _)) rfl rfl rfl) ⟨fun _ => HBa _ _ _ hB6w, ?_⟩
            simp only [List.getElem_toArray, List.getElem_cons_succ, List.getElem_cons_zero, Act.put, List.setIfInBounds_toArray, List.set_cons_zero, List.set_cons_succ]
            refine RegF.one 16 (by kernel_rfl) ?_
            refine RegF.opS (w' := (w6.alloc (.cells (zer64.map b8).toArray 162)).setRow w6.heap.size ((laid g ki x1).map b8).toArray) rfl rfl (x_storeW _ (.tmp 12) (.tmp 69) rfl w6.heap.size rfl rfl rowDSec (BlkIs.new w6 162 (zer64.map b8).toArray) (by rfl) HZY.out (b8_one _)) ⟨fun h => absurd rfl h, ?_⟩
            simp only [List.getElem_toArray, List.getElem_cons_succ, List.getElem_cons_zero, Act.put, List.setIfInBounds_toArray, List.set_cons_zero, List.set_cons_succ]
            refine RegF.done (by kernel_rfl) ?_
            have bq := (BlkIs.new w6 162 (zer64.map b8).toArray).setRow ((laid g ki x1).map b8).toArray
            have hBE : Below wr.heap.size wr ((w6.alloc (.cells (zer64.map b8).toArray 162)).setRow w6.heap.size ((laid g ki x1).map b8).toArray) := below_setRow (HBa _ _ _ hB6w) hB6w.size _
            have hqq : wr.heap.size ≤ w6.heap.size := hB6w.size
            generalize (w6.alloc (.cells (zer64.map b8).toArray 162)).setRow w6.heap.size ((laid g ki x1).map b8).toArray = wE at *
            obtain ⟨q, hq⟩ : ∃ q, q = w6.heap.size := ⟨_, rfl⟩
            rw [← hq] at bq hqq ⊢
            clear hq
        case' p15 =>
          refine RegF.opV _ rfl rfl (x_allocSec rfl) ⟨fun _ => HBa _ _ _ hBd, ?_⟩
          simp only [List.getElem_toArray, List.getElem_cons_succ, List.getElem_cons_zero, Act.put, List.setIfInBounds_toArray, List.set_cons_zero, List.set_cons_succ]
          refine RegF.one 8 (by kernel_rfl) ?_
          refine RegF.opC 94 #[.tmp 58, .tmp 62] #[151, 152] rfl rfl rfl (enters_of Try.func94 (by kernel_rfl) rfl) #[.map (some r), .slice (some ⟨g8, 0, none⟩) m m] (by simp only [List.map_toArray, List.map_cons, List.map_nil]; rfl) ((HN _ (HBa _ _ _ hBd)).mono ?_)
          rintro e w6 ⟨rfl, hm6, hB6⟩
          have hB6w : Below wr.heap.size wr w6 := (HBa _ _ _ hBd).trans (hB6.mono ((HBa _ _ _ hBd)).size)
          refine ⟨_, rfl, fun _ => hB6w, ?_⟩
          simp only [List.getElem_toArray, List.getElem_cons_succ, List.getElem_cons_zero, Act.put, List.setIfInBounds_toArray, List.set_cons_zero, List.set_cons_succ]
          refine RegF.one 14 (by kernel_rfl) ?_
          refine RegF.opV _ rfl rfl (x_lookup hm6 rfl rfl rfl) ⟨fun _ => hB6w, ?_⟩
          simp only [List.getElem_toArray, List.getElem_cons_succ, List.getElem_cons_zero, Act.put, List.setIfInBounds_toArray, List.set_cons_zero, List.set_cons_succ]
          refine RegF.one 16 (by kernel_rfl) ?_
          refine RegF.opS (w' := (w6).setRow wr.heap.size ((laid g ki x1).map b8).toArray) rfl rfl (x_storeW _ (.tmp 12) (.tmp 69) rfl wr.heap.size rfl rfl rowDSec ((BlkIs.new wr.drew 162 (zer64.map b8).toArray).below hB6 (by simp)) (by rfl) HZY.out (b8_one _)) ⟨fun h => absurd rfl h, ?_⟩
          simp only [List.getElem_toArray, List.getElem_cons_succ, List.getElem_cons_zero, Act.put, List.setIfInBounds_toArray, List.set_cons_zero, List.set_cons_succ]
          refine RegF.done (by kernel_rfl) ?_
          have bq : BlkIs (w6.setRow wr.heap.size ((laid g ki x1).map b8).toArray) wr.heap.size 162 ((laid g ki x1).map b8).toArray := ((BlkIs.new wr.drew 162 (zer64.map b8).toArray).below hB6 (by simp)).setRow ((laid g ki x1).map b8).toArray
          have hBE : Below wr.heap.size wr (w6.setRow wr.heap.size ((laid g ki x1).map b8).toArray) := below_setRow hB6w (Nat.le_refl _) _
          have hqq : wr.heap.size ≤ wr.heap.size := Nat.le_refl _
          generalize w6.setRow wr.heap.size ((laid g ki x1).map b8).toArray = wE at *
          obtain ⟨q, hq⟩ : ∃ q, q = wr.heap.size := ⟨_, rfl⟩
          rw [← hq] at bq
          replace hqq : wr.heap.size ≤ q := (by omega)
          rw [show wr.drew.heap.size = wr.heap.size from rfl, ← hq]
          clear hq
        all_goals
          have hylen : (laid g ki x1).length = 64 := laid_len ki g hm.len (fun x hx => hwks x (by rw [HE2.out]; simp [hx])) x1
          have hcE : wE.cell? ⟨w.heap.size, 0, none⟩ = some (.int .i64 (t : Int)) := (hBE.cell (p := ⟨w.heap.size, 0, none⟩) (Nat.lt_of_lt_of_le b2.lt hBr.size)).trans hc4
          generalize hy : laid g ki x1 = y at *
          have HY := Lib.hid hy
          clear hy
          have hcd : wE.drew.cell? ⟨w.heap.size, 0, none⟩ = some (.int .i64 (t : Int)) := hcE
          have ht1 : (0 : Int) ≤ (t : Int) := by omega
          have hb1 : ¬ ((m : Int) + 1 ≤ (m : Int)) := by omega
          have hx26 : x2.length = 64 := hwks (x1, x2) (by rw [HE2.out]; simp)
          have hl2 : (x2.take t).length = t := by rw [List.length_take, hx26]; omega
          have hinx : InB wE.drew wr.heap.size (some ⟨g8, m * 65 + 1, none⟩) t (x2.take t) := by
            refine ⟨by rw [hl2]; exact Nat.le_refl _, by omega, (fun h => by cases h), fun _ => ⟨g8, m * 65 + 1, rfl, hg8, fun j hj => ?_⟩⟩
            have e : ks[m]'(by rw [HL.out]; omega) = (x1, x2) := by simp [HE2.out, HM.out]
            have h := InW.elem hin8 m (by rw [HL.out]; omega) (j + 1)
            rw [e] at h
            have hj2 : j < x2.length := by rw [hl2] at hj; omega
            have h2 := h (b8 x2[j]) (by simp [lsC, hj2])
            show wE.cell? ⟨g8, m * 65 + 1 + j, none⟩ = _
            rw [hBE.cell (p := ⟨g8, m * 65 + 1 + j, none⟩) hg8]
            rw [show 0 + m * 65 + (j + 1) = m * 65 + 1 + j from by omega] at h2
            rw [h2]
            simp [b8]
          have hc7 : (wE.drew.setRow q ((spliceB y 0 t (x2.take t)).map b8).toArray).cell? ⟨w.heap.size, 0, none⟩ = some (.int .i64 (t : Int)) :=
            (World.cell?_of_block (setRow_other wE.drew q w.heap.size _ (by have := b2.lt; have := hBr.size; omega))).trans hcd
          have HL2 := Lib.hid hl2
          have HYL := Lib.hid hylen
          clear hl2 hx26 hylen
          have ht2 : (t : Int) ≤ 64 := by omega
          go_wp2
          go_region_held3 (fun W => W.cell? ⟨w.heap.size, 0, none⟩ = some (.int .i64 (t : Int))) (first | exact hcd | (with_reducible assumption)) (first
            | (refine step_copyB (by rfl) (.tmp 71) (.tmp 78) (by rfl) q 0 y (x2.take t) (some ⟨g8, m * 65 + 1, none⟩) t wr.heap.size t 64 (by rfl) (by rw [HL2.out]; rfl) bq hinx (by rw [HYL.out]; omega) ?_))
        all_goals
          obtain ⟨z, hz⟩ : ∃ z, z = spliceB y 0 t (x2.take t) := ⟨_, rfl⟩
          have hzq : z = x2.take t ++ y.drop t := by
            rw [hz]
            unfold spliceB
            simp [HL2.out, HYL.out]
            exact List.take_of_length_le (Nat.le_of_eq HL2.out)
          have hzl : z.length = 64 := by rw [hzq, List.length_append, HL2.out, List.length_drop, HYL.out]; omega
          rw [← hz] at hc7 ⊢
          have hB7 : Below wr.heap.size wr (wE.drew.setRow q (z.map b8).toArray) := below_setRow hBE.drew hqq _
          have bq7 : BlkIs (wE.drew.setRow q (z.map b8).toArray) q 162 (z.map b8).toArray := bq.drew.setRow _
          have own7 := ownG_grow own hB7
          have hin7 : InW (wE.drew.setRow q (z.map b8).toArray) (wE.drew.setRow q (z.map b8).toArray).heap.size (some ⟨g8, 0, none⟩) c8 (ki ++ [(x1, x2)]) := by
            have := hin8.grow hB7
            rw [HE2.out] at this
            exact this
          generalize wE.drew.setRow q (z.map b8).toArray = W7 at *
          have hth : W7.there g8 (m * 65 + 1) (z.map b8).toArray.size := own_there own7 (m * 65 + 1) _ (by rw [List.size_toArray, List.length_map, hzl]; omega)
          have HTH := Lib.hid hth
          have HSI : Hid ((Try.prog.info? 162).map (·.size) = some (z.map b8).toArray.size) := Lib.hid (by rw [rowDSec.size, List.size_toArray, List.length_map, hzl])
          have HS1 : Hid ((z.map b8).toArray.all (·.oneCell') = true) := Lib.hid (all_oneCell_toArray (b8_one _))
          have HSP : Hid ((z.map b8).toArray.size = 64) := Lib.hid (by rw [List.size_toArray, List.length_map, hzl])
          have hin9 := inW_mid hin7 HM.out hzl
          have hgw : w2.heap.size ≤ g8 := ownG_ge own _ rfl
          have hBwz : Below w.heap.size w (W7.setCells g8 (m * 65 + 1) (z.map b8)) := below_setCellsL (Nat.le_trans hB3.size hgw) _ _ (hBw.trans (hB7.mono hBw.size))
          have hB2z : Below w2.heap.size w2 (W7.setCells g8 (m * 65 + 1) (z.map b8)) := below_setCellsL hgw _ _ (hBr.trans (hB7.mono hBr.size))
          have hbrz := hb.below hB2z hb.lt
          have hmrz := hm.grow hB2z
          have hpltz := hbrz.lt
          have hin9 : InW (W7.setCells g8 (m * 65 + 1) (z.map b8)) (W7.setCells g8 (m * 65 + 1) (z.map b8)).heap.size (some ⟨g8, 0, none⟩) c8 (ki ++ [(x1, z)]) := by rw [size_setCellsL]; exact hin9
          have HTR : Hid (torn g ks t = ki ++ [(x1, z)]) := Lib.hid (by
            unfold torn
            rw [if_neg (by rw [HE2.out]; simp; omega), HE2.out, hzq]
            simp [HY.out])
          have HK9 : Hid ((ki ++ [(x1, z)]).length = m + 1) := Lib.hid (by simp [HM.out])
          clear hz hzq hzl hth hin7 own7 hin8 hin8' own hinx hc7 hcd hcE hE HE HP hr8
          go_wp2_with (first
            | (refine wp_loadW rfl 162 (.tmp 12) rfl q rfl rowDSec bq7 HSP.out ?_)
            | (refine wpList_store_mid rfl 162 (.tmp 84) (.tmp 82) rfl g8 (m * 65 + 1) (z.map b8).toArray rfl rfl HTH.out HSI.out HS1.out ?_; rw [List.toList_toArray]))
          generalize W7.setCells g8 (m * 65 + 1) (z.map b8) = wz at *
          generalize ki ++ [(x1, z)] = ks9 at *
          have HP : ∀ W, Below wz.heap.size wz W → W.cell? ⟨p, 0, none⟩ = some (.map (some r)) ∧ W.cell? ⟨p, 1, none⟩ = some (.int .i64 (many : Int)) := fun W hW => by
            have b := hbrz.below hW hpltz
            exact ⟨by rw [b.cell]; rfl, by rw [b.cell]; rfl⟩
          have hBd : Below wz.heap.size wz wz.drew := (Below.refl _ wz).drew
          have HN := now_gives wz.drew r g (some ⟨g8, 0, none⟩) c8 ks9 (hmrz.grow hBd) (hin9.grow hBd) (by rw [HK9.out]; omega)
          rw [HK9.out] at HN
          refine RegF.start (fun W => Below wz.heap.size wz W) 13 (by kernel_rfl) ?_
          refine RegF.take 0 (.pointer (some ⟨p, 0, none⟩)) rfl (by kernel_rfl) (by kernel_rfl) (by kernel_rfl) (by kernel_rfl) (fun _ _ _ h => h) hBd (RegF.yld rfl (fun W hW => by go_simp)) ?_
          simp only [List.getElem_toArray, List.getElem_cons_succ, List.getElem_cons_zero, Act.put, List.setIfInBounds_toArray, List.set_cons_zero, List.set_cons_succ]
          refine RegF.take 1 (.pointer (some ⟨p, 0, none⟩)) rfl (by kernel_rfl) (by kernel_rfl) (by kernel_rfl) (by kernel_rfl) (fun _ _ _ h => h) hBd (RegF.yld rfl (fun W hW => by go_simp)) ?_
          simp only [List.getElem_toArray, List.getElem_cons_succ, List.getElem_cons_zero, Act.put, List.setIfInBounds_toArray, List.set_cons_zero, List.set_cons_succ]
          refine RegF.take 2 (.pointer (some ⟨p, 0, none⟩)) rfl (by kernel_rfl) (by kernel_rfl) (by kernel_rfl) (by kernel_rfl) (fun _ _ _ h => h) hBd (RegF.yld rfl (fun W hW => by go_simp)) ?_
          simp only [List.getElem_toArray, List.getElem_cons_succ, List.getElem_cons_zero, Act.put, List.setIfInBounds_toArray, List.set_cons_zero, List.set_cons_succ]
          refine RegF.take 3 (.pointer (some ⟨p, 0, none⟩)) rfl (by kernel_rfl) (by kernel_rfl) (by kernel_rfl) (by kernel_rfl) (fun _ _ _ h => h) hBd (RegF.yld rfl (fun W hW => by go_simp)) ?_
          simp only [List.getElem_toArray, List.getElem_cons_succ, List.getElem_cons_zero, Act.put, List.setIfInBounds_toArray, List.set_cons_zero, List.set_cons_succ]
          refine RegF.take 4 (.map (some r)) rfl (by kernel_rfl) (by kernel_rfl) (by kernel_rfl) (by kernel_rfl) (fun _ _ _ h => h) hBd (RegF.yld rfl (fun W hW => by have e := (HP W hW).1; go_simp)) ?_
          simp only [List.getElem_toArray, List.getElem_cons_succ, List.getElem_cons_zero, Act.put, List.setIfInBounds_toArray, List.set_cons_zero, List.set_cons_succ]
          refine RegF.take 5 (.slice (some ⟨g8, 0, none⟩) (m + 1) c8) rfl (by kernel_rfl) (by kernel_rfl) (by kernel_rfl) (by kernel_rfl) (fun _ _ _ h => h) hBd (RegF.yld rfl (fun W hW => by go_simp)) ?_
          simp only [List.getElem_toArray, List.getElem_cons_succ, List.getElem_cons_zero, Act.put, List.setIfInBounds_toArray, List.set_cons_zero, List.set_cons_succ]
          refine RegF.take 7 (.pointer (some ⟨p, 0, none⟩)) rfl (by kernel_rfl) (by kernel_rfl) (by kernel_rfl) (by kernel_rfl) (fun _ _ _ h => h) hBd (RegF.yld rfl (fun W hW => by go_simp)) ?_
          simp only [List.getElem_toArray, List.getElem_cons_succ, List.getElem_cons_zero, Act.put, List.setIfInBounds_toArray, List.set_cons_zero, List.set_cons_succ]
          refine RegF.take 8 (.pointer (some ⟨p, 0, none⟩)) rfl (by kernel_rfl) (by kernel_rfl) (by kernel_rfl) (by kernel_rfl) (fun _ _ _ h => h) hBd (RegF.yld rfl (fun W hW => by go_simp)) ?_
          simp only [List.getElem_toArray, List.getElem_cons_succ, List.getElem_cons_zero, Act.put, List.setIfInBounds_toArray, List.set_cons_zero, List.set_cons_succ]
          refine RegF.take 9 (.pointer (some ⟨p, 1, none⟩)) rfl (by kernel_rfl) (by kernel_rfl) (by kernel_rfl) (by kernel_rfl) (fun _ _ _ h => h) hBd (RegF.yld rfl (fun W hW => by go_simp)) ?_
          simp only [List.getElem_toArray, List.getElem_cons_succ, List.getElem_cons_zero, Act.put, List.setIfInBounds_toArray, List.set_cons_zero, List.set_cons_succ]
          refine RegF.take 10 (.int .i64 (many : Int)) rfl (by kernel_rfl) (by kernel_rfl) (by kernel_rfl) (by kernel_rfl) (fun _ _ _ h => h) hBd (RegF.yld rfl (fun W hW => by have e := (HP W hW).2; go_simp)) ?_
          simp only [List.getElem_toArray, List.getElem_cons_succ, List.getElem_cons_zero, Act.put, List.setIfInBounds_toArray, List.set_cons_zero, List.set_cons_succ]
          refine RegF.one 6 (by kernel_rfl) ?_
          refine RegF.opC 94 #[.tmp 89, .tmp 90] #[151, 152] rfl rfl rfl (enters_of Try.func94 (by kernel_rfl) rfl) #[.map (some r), .slice (some ⟨g8, 0, none⟩) (m + 1) c8] (by simp only [List.map_toArray, List.map_cons, List.map_nil]; rfl) (HN.mono ?_)
          rintro e w6 ⟨rfl, hm6, hB6⟩
          have hB6w : Below wz.heap.size wz w6 := hBd.trans (hB6.mono hBd.size)
          have hb6 := hbrz.below hB6w hpltz
          refine ⟨_, rfl, fun _ => hB6w, ?_⟩
          simp only [List.getElem_toArray, List.getElem_cons_succ, List.getElem_cons_zero, Act.put, List.setIfInBounds_toArray, List.set_cons_zero, List.set_cons_succ]
          refine RegF.one 11 (by kernel_rfl) ?_
          refine RegF.opV (.agg (dkC wz.heap.size many none 0 0 0 false)) rfl rfl (by unfold dkC; go_simp) ⟨fun _ => hB6w, ?_⟩
          simp only [List.getElem_toArray, List.getElem_cons_succ, List.getElem_cons_zero, Act.put, List.setIfInBounds_toArray, List.set_cons_zero, List.set_cons_succ]
          refine RegF.one 12 (by kernel_rfl) ?_
          refine RegF.opV (.pointer (some ⟨p, 0, none⟩)) rfl rfl (by go_simp) ⟨fun _ => hB6w, ?_⟩
          simp only [List.getElem_toArray, List.getElem_cons_succ, List.getElem_cons_zero, Act.put, List.setIfInBounds_toArray, List.set_cons_zero, List.set_cons_succ]
          refine RegF.one 13 (by kernel_rfl) ?_
          refine RegF.opS (w' := w6.setRow p (dkC wz.heap.size many none 0 0 0 false)) rfl rfl (x_storeW _ (.tmp 97) (.tmp 96) rfl p rfl rfl rowDisk hb6 rfl rfl (dkC_one _ _ _ _ _ _ _)) ⟨fun h => absurd rfl h, ?_⟩
          simp only [List.getElem_toArray, List.getElem_cons_succ, List.getElem_cons_zero, Act.put, List.setIfInBounds_toArray, List.set_cons_zero, List.set_cons_succ]
          refine RegF.done (by kernel_rfl) ?_
          have hfin : DkIs (w6.setRow p (dkC wz.heap.size many none 0 0 0 false)) p many (laid g ks9) [] 0 false := ⟨wz.heap.size, none, 0, hb6.setRow _, hm6.keep (setRow_other _ _ _ _ (show wz.heap.size ≠ p by omega)), InW.mt _ _⟩
          have hgfin : w.grownBy (w6.setRow p (dkC wz.heap.size many none 0 0 0 false)) (some p) := grownBy_trans (below_grownBy (hBwz.trans (hB6w.mono hBwz.size)) p) (setRow_grownBy w6 p _)
          generalize w6.setRow p (dkC wz.heap.size many none 0 0 0 false) = w7 at *
          go_wp2
          go_ret
          exact ⟨rfl, (by rw [← HKS.out, HTR.out]; exact hfin), hgfin⟩
end
end Go.Proofs.Ytlelckdcmlpmdaa
/- What the law DiskHolds keeps beside a disk: pairs of bytes that came in, rows of bytes and of truths of its own. -/
namespace Go.Proofs.Ytlelckdcmlpmdaa
open Go Go.RowKit Lou

def prC (x : UInt8 × UInt8) : List Value := [b8 x.1, b8 x.2]
def fpC (ls : List (UInt8 × UInt8)) : List Value := (ls.map prC).flatten
theorem fpC_length : ∀ ls : List (UInt8 × UInt8), (fpC ls).length = ls.length * 2
  | [] => rfl
  | x :: ls => by
    have e : fpC (x :: ls) = b8 x.1 :: b8 x.2 :: fpC ls := rfl
    rw [e, List.length_cons, List.length_cons, fpC_length ls, List.length_cons]
    omega
theorem fpC_at : ∀ (ls : List (UInt8 × UInt8)) (j : Nat) (h : j < ls.length), (fpC ls)[j * 2]? = some (b8 ls[j].1) ∧ (fpC ls)[j * 2 + 1]? = some (b8 ls[j].2)
  | x :: ls, 0, _ => ⟨rfl, rfl⟩
  | x :: ls, j + 1, h => by
    have e : fpC (x :: ls) = b8 x.1 :: b8 x.2 :: fpC ls := rfl
    have := fpC_at ls j (by simpa using h)
    rw [e, show (j + 1) * 2 = (j * 2 + 1) + 1 from by omega, List.getElem?_cons_succ, List.getElem?_cons_succ, List.getElem?_cons_succ]
    exact this
/-- Pairs of bytes lie in a row below B. -/
def InP (w : World) (B : Nat) (A : Option Addr) (c : Nat) (ls : List (UInt8 × UInt8)) : Prop := InG w B 2 A ls.length c (fpC ls)
theorem InP.lies {w : World} {B : Nat} {A : Option Addr} {c : Nat} {ls : List (UInt8 × UInt8)} (h : InP w B A c ls) (h0 : 0 < ls.length) : ∃ g o, A = some ⟨g, o, none⟩ ∧ g < B ∧ ∀ j, (hj : j < ls.length) → w.cell? ⟨g, o + j * 2, none⟩ = some (.int .u8 (ls[j].1.toNat : Int)) ∧ w.cell? ⟨g, o + j * 2 + 1, none⟩ = some (.int .u8 (ls[j].2.toNat : Int)) := by
  obtain ⟨g, o, e, hg, hr⟩ := InG.lies h h0
  refine ⟨g, o, e, hg, fun j hj => ?_⟩
  obtain ⟨h1, h2⟩ := fpC_at ls j hj
  exact ⟨hr _ _ h1, hr _ _ h2⟩
/-- An own row that grows leaves a disk as it was, where the disk's loose writes lie elsewhere. -/
theorem DkIs.own {w w' : World} {p many : Nat} {g : Nat → List UInt8} {xs : List (Nat × List UInt8)} {left : Int} {stops : Bool} (h : DkIs w p many g xs left stops) {b n c r : Nat} {cs : Array Value} {T : TypeId} (hc : w.cell? ⟨p, 2, none⟩ = some (.slice (some ⟨b, 0, none⟩) n c)) (hb : b ≠ r) (hp : p ≠ r) (hr : BlkIs w r T cs) (hg : w.grownBy w' (some r)) : DkIs w' p many g xs left stops := by
  obtain ⟨m, A, k, hbl, hm, hw, hx⟩ := h.has
  have e := hbl.cell 2
  rw [hc] at e
  have e2 : (dkC m many A xs.length k left stops)[2]? = some (.slice A xs.length k) := rfl
  rw [e2] at e
  injection e with e
  injection e with e1 e2 e3
  subst e1 e3
  have hmr : m ≠ r := fun e => by
    subst e
    obtain ⟨es, ck, h1, _⟩ := hm.lies
    have h2 : w.heap[m]? = some (.cells cs T (0, 0)) := hr
    have h1' : w.heap[m]? = some (.map es ck) := h1
    rw [h1'] at h2
    cases h2
  refine ⟨m, _, _, hbl.grown hg (fun e => hp (by injection e)), hm.keep (hg.block m hm.lt (fun e => hmr (by injection e))), hw, ?_⟩
  refine ⟨hx.le, hx.max, hx.nil, hx.len, hx.one, fun h0 => ?_⟩
  obtain ⟨b', o, e, hbl', hr'⟩ := hx.lies h0
  have eb : b = b' := by
    injection e with e
    injection e
  subst eb
  exact ⟨b, o, e, Nat.lt_of_lt_of_le hbl' hg.size, fun j v hj => (World.cell?_of_block (hg.block b hbl' (fun e => hb (by injection e)))).trans (hr' j v hj)⟩
theorem set_b8 (l : List UInt8) (j : Nat) (b : UInt8) : ((l.map b8).toArray).setIfInBounds j (.int .u8 (b.toNat : Int)) = ((l.set j b).map b8).toArray := by
  rw [List.setIfInBounds_toArray, List.map_set]
theorem set_bool (l : List Bool) (j : Nat) (b : Bool) : ((l.map Value.bool).toArray).setIfInBounds j (.bool b) = ((l.set j b).map Value.bool).toArray := by
  rw [List.setIfInBounds_toArray, List.map_set]
theorem elBool : ElT 24 4 1 1 (.bool false) := ⟨Try.underlying24, by kernel_rfl, by kernel_rfl, by decide⟩
theorem rem_byte (x n : Nat) (hx : x < 256) (hn : 1 ≤ n) (hn2 : n ≤ 12) : Int.tmod (x : Int) (n : Int) = ((x % n : Nat) : Int) := by
  rw [Int.ofNat_tmod]
/-- The truth that a literal row of one holds. -/
theorem row_true (w : World) (b : Bool) : InG (w.alloc (.cells #[.bool b] 4)) (w.alloc (.cells #[.bool b] 4)).heap.size 1 (some ⟨w.heap.size, 0, none⟩) 1 1 [.bool b] := by
  have h := BlkIs.new w 4 #[.bool b]
  refine ⟨Nat.le_refl _, by omega, (fun e => by cases e), rfl, (fun v hv => by obtain rfl : v = .bool b := (by simpa using hv); rfl), fun _ => ⟨w.heap.size, 0, rfl, h.lt, fun j v hj => ?_⟩⟩
  rw [h.cell, Nat.zero_add]
  simpa using hj
theorem x_makeB {ρ : Operand → Value} {o : Oper} {w : World} {x y : Operand} {n : Nat} (ho : o.op = .makeSlice 30 x y) (hx : ρ x = .int .i64 (n : Int)) (hy : ρ y = .int .i64 (n : Int)) (hn : n ≤ 1000000) :
    (execOp ρ o).run Try.prog w = .ok (.value (.slice (some ⟨w.heap.size, 0, none⟩) n n)) (w.alloc (.cells ((List.replicate n (0 : UInt8)).map b8).toArray 5)) := by
  have h := run_make_row' (P := Try.prog) 30 5 (.int .u8 0) 1 Try.underlying30 inf_u8 rfl .i64 .i64 n (by omega) (by omega) w
  have e : madeCells #[Value.int .u8 0] n = ((List.replicate n (0 : UInt8)).map b8).toArray := by
    apply Array.toList_inj.1
    rw [toList_madeCells_one]
    simp [b8]
  rw [e] at h
  simp only [execOp, ho, hx, hy, Sem.run_bind, h, Result.andThen_ok, Sem.run_pure]
theorem inf_bool : (Try.prog.info? 4).map (fun i => (i.zero, i.size, i.bytes)) = some (some (.bool false), 1, 1) := by kernel_rfl
theorem x_makeT {ρ : Operand → Value} {o : Oper} {w : World} {x y : Operand} {n : Nat} (ho : o.op = .makeSlice 24 x y) (hx : ρ x = .int .i64 (n : Int)) (hy : ρ y = .int .i64 (n : Int)) (hn : n ≤ 1000000) :
    (execOp ρ o).run Try.prog w = .ok (.value (.slice (some ⟨w.heap.size, 0, none⟩) n n)) (w.alloc (.cells ((List.replicate n false).map Value.bool).toArray 4)) := by
  have h := run_make_row' (P := Try.prog) 24 4 (.bool false) 1 Try.underlying24 inf_bool rfl .i64 .i64 n (by omega) (by omega) w
  have e : madeCells #[Value.bool false] n = ((List.replicate n false).map Value.bool).toArray := by
    apply Array.toList_inj.1
    rw [toList_madeCells_one]
    simp
  rw [e] at h
  simp only [execOp, ho, hx, hy, Sem.run_bind, h, Result.andThen_ok, Sem.run_pure]
end Go.Proofs.Ytlelckdcmlpmdaa
/- loupelaw04: works. -/
namespace Go.Proofs.Ytlelckdcmlpmdaa
open Go Go.RowKit Lou

theorem Reg.gives_num4 (m : Int) (w : World) : Calls Try.prog 20 #[.int .i64 m] w fun e w' => ∃ v, e = .returned v ∧ Grow w w' ∧ v = .int .i64 m :=
  (num4_gives w m).mono (by rintro e w' ⟨rfl, rfl⟩; exact ⟨_, rfl, Grow.refl _, rfl⟩)
theorem run_addS {ρ : Operand → Value} {w : World} {o : Oper} {x y : Operand} {T T' : TypeId} {a b l : List UInt8} (ho : o.op = .binOp .add T x y T') (hx : ρ x = .string (str a)) (hy : ρ y = .string (str b)) (hl : a ++ b = l) (hs : a.length + b.length ≤ 1000000) (hT : Try.prog.underlying T = some .string) :
    (execOp ρ o).run Try.prog w = .ok (.value (.string (str l))) w := by
  subst hl
  have e : str a ++ str b = str (a ++ b) := by simp [str, ByteArray.ext_iff]
  have e2 : ¬ 9223372036854775807 < (str a).size + (str b).size := by
    have e3 : ∀ l : List UInt8, (str l).size = l.length := fun l => by simp [str, ByteArray.size]
    rw [e3, e3]
    omega
  simp [execOp, ho, hx, hy, go_sem, Result.andThen, hT, e, e2]
namespace Reg
section
variable {ops : Array Oper} {L : List (Nat × Fact)} {w0 : World} {o : Oper}
theorem l_cutR (t : Tmp) (l : List UInt8) (k : Nat) (ho : o.op = .slice 30 (.tmp t) none (some (.const (.int .i64 (k : Int)))) none) (hc : (o.looksAt ops).contains t = true) (hF : factOf L t = .res l) (hk : k ≤ l.length) (hd : FD L o.dst = .res (l.take k)) : RunOk Try.prog ops (FSof L) w0 o := by
  intro a w K Q hG hl hK
  have h' : (factOf L t).holds (a.eval (.tmp t)) w := hl t hc
  rw [hF] at h'
  obtain ⟨A, c, e, hin⟩ := h'
  have hle := hin.le
  have hr := cut_take (ρ := a.eval) (w := w) (o := o) ho e rfl hk hle
  unfold Oper.wp
  rw [hr]
  exact hK _ w (Grow.refl w) (fsd hd ⟨A, c, rfl, hin.take k c hk (by omega) (Nat.le_refl _)⟩)
theorem l_makeR (k : Nat) (ho : o.op = .makeSlice 30 (.const (.int .i64 (k : Int))) (.const (.int .i64 (k : Int)))) (hk : k ≤ 1000) (hd : FD L o.dst = .res (List.replicate k 0)) : RunOk Try.prog ops (FSof L) w0 o := by
  intro a w K Q hG hl hK
  have hr := x_makeB (ρ := a.eval) (w := w) (o := o) ho rfl rfl (by omega)
  have hb := BlkIs.new w 5 ((List.replicate k (0 : UInt8)).map b8).toArray
  unfold Oper.wp
  rw [hr]
  refine hK _ _ ((Below.refl _ w).alloc (Nat.le_refl _) _) (fsd hd ?_)
  have := hb.inB _ hb.lt (by simp; omega)
  rw [List.length_replicate] at this
  exact ⟨_, _, by rw [List.length_replicate], this⟩
end
end Reg
def L4 : List UInt8 := laid (fun _ => zer64) (torn (fun _ => zer64) (keptTo [(0, secL 7)] [true] 1) 10) 0
theorem L4_eq : L4 = (secL 7).take 10 ++ List.replicate 54 0 := by decide +kernel
set_option maxRecDepth 100000 in
set_option maxHeartbeats 4000000 in
theorem works4_gives (w : World) : Calls Try.prog 18 #[] w fun e w' => e = .returned (.bool true) ∧ Below w.heap.size w w' := by
  have HS7 : ∀ W, Calls Try.prog 22 #[.int .u8 7] W (GivesB W (secL 7)) := fun W => sec4_gives W 7
  have HN : ∀ W, Calls Try.prog 19 #[.int .i64 2] W fun e w' => ∃ p, e = .returned (.tuple #[.pointer (some ⟨p, 0, none⟩), .int .i64 0]) ∧ W.heap.size ≤ p ∧ DkIs w' p 2 (fun _ => zer64) [] 0 false ∧ Below W.heap.size W w' := fun W => new_gives W 2 (by decide) (by decide)
  have HW0 : ∀ W p A c, DkIs W p 2 (fun _ => zer64) [] 0 false → InB W W.heap.size A c (secL 7) → Calls Try.prog 21 #[.pointer (some ⟨p, 0, none⟩), .int .i64 0, .slice A (secL 7).length c] W fun e w' => e = .returned (.int .i64 0) ∧ DkIs w' p 2 (fun _ => zer64) [(0, secL 7)] 0 false ∧ W.grownBy w' (some p) := fun W p A c hD hin =>
    (write_ok W p 2 _ [] 0 false hD rfl 0 (by decide) A c (secL 7) rfl hin (by decide) (by decide) (by decide)).mono fun e w' h => ⟨h.1, h.2.1, h.2.2.1⟩
  have HST : ∀ W p, DkIs W p 2 (fun _ => zer64) [(0, secL 7)] 0 false → Calls Try.prog 87 #[.pointer (some ⟨p, 0, none⟩), .int .i64 0] W fun e w' => e = .returned (.int .i64 0) ∧ DkIs w' p 2 (fun _ => zer64) [(0, secL 7)] 0 true ∧ W.grownBy w' (some p) := fun W p hD => stop_gives W p 2 _ _ 0 false hD 0
  have HCR : ∀ W p q, DkIs W p 2 (fun _ => zer64) [(0, secL 7)] 0 true → InG W W.heap.size 1 (some ⟨q, 0, none⟩) 1 1 [.bool true] → Calls Try.prog 25 #[.pointer (some ⟨p, 0, none⟩), .int .i64 10, .slice (some ⟨q, 0, none⟩) 1 1] W fun e w' => e = .returned (.int .i64 0) ∧ DkIs w' p 2 (laid (fun _ => zer64) (torn (fun _ => zer64) (keptTo [(0, secL 7)] [true] 1) 10)) [] 0 false ∧ W.grownBy w' (some p) := fun W p q hD hin =>
    crash_gives W p 2 _ [(0, secL 7)] 0 true hD 10 (by decide) (some ⟨q, 0, none⟩) 1 [true] hin (by decide)
  have HWS : ∀ W p A c, DkIs W p 2 (fun _ => zer64) [(0, secL 7)] 0 true → InB W W.heap.size A c (secL 7) → Calls Try.prog 21 #[.pointer (some ⟨p, 0, none⟩), .int .i64 1, .slice A (secL 7).length c] W fun e w' => e = .returned (.int .i64 140) ∧ Below W.heap.size W w' := fun W p A c hD hin =>
    write_stop W p 2 _ _ 0 true hD rfl 1 (by decide) A c
  have HRD : ∀ W p g, DkIs W p 2 g [] 0 false → Calls Try.prog 26 #[.pointer (some ⟨p, 0, none⟩), .int .i64 0] W fun e w' => ∃ q, e = .returned (.tuple #[.slice (some ⟨q, 0, none⟩) 64 64, .int .i64 0]) ∧ InB w' w'.heap.size (some ⟨q, 0, none⟩) 64 (g 0) ∧ Below W.heap.size W w' := fun W p g hD => read_gives W p 2 g [] 0 false hD rfl 0 (by decide) (by decide)
  have hL4 : L4 = (secL 7).take 10 ++ List.replicate 54 0 := L4_eq
  go_enter Try.func18, Try.ntmps18
  go_wp2_with fail
  refine (HN _).mono ?_
  rintro x W1 ⟨p, rfl, hp, hD1, hB1⟩
  go_wp2_with (go_at_call 20; refine (num4_gives _ _).mono ?_; rintro x W ⟨rfl, rfl⟩)
  refine (HS7 _).mono ?_
  rintro x W2 ⟨v2, rfl, own2, hB2⟩
  obtain ⟨A2, c2, rfl, hin2⟩ := own2.inB
  have hD2 := hD1.grow hB2
  have hB02 := hB1.trans (hB2.mono hB1.size)
  go_wp2_with fail
  refine (HW0 _ _ _ _ hD2 hin2).mono ?_
  rintro x W3 ⟨rfl, hD3, hg3⟩
  have hB03 := hB02.trans (grown_below hg3 hB02.size (fun r h => by injection h with h; omega))
  go_wp2_with (go_at_call 20; refine (num4_gives _ _).mono ?_; rintro x W ⟨rfl, rfl⟩)
  refine (HST _ _ hD3).mono ?_
  rintro x W4 ⟨rfl, hD4, hg4⟩
  have hB04 := hB03.trans (grown_below hg4 hB03.size (fun r h => by injection h with h; omega))
  go_wp2_with (go_at_call 20; refine (num4_gives _ _).mono ?_; rintro x W ⟨rfl, rfl⟩)
  refine (HS7 _).mono ?_
  rintro x W5 ⟨v5, rfl, own5, hB5⟩
  obtain ⟨A5, c5, rfl, hin5⟩ := own5.inB
  have hD5 := hD4.grow hB5
  have hB05 := hB04.trans (hB5.mono hB04.size)
  go_wp2_with fail
  refine (HWS _ _ _ _ hD5 hin5).mono ?_
  rintro x W6 ⟨rfl, hB6⟩
  have hD6 := hD5.grow hB6
  have hB06 := hB05.trans (hB6.mono hB05.size)
  go_wp2_with fail
  have hBa : Below W6.heap.size W6 (W6.alloc (.cells #[.bool true] 4)) := (Below.refl _ _).alloc (Nat.le_refl _) _
  refine (HCR _ _ _ (hD6.grow hBa) (row_true W6 true)).mono ?_
  rintro x W7 ⟨rfl, hD7, hg7⟩
  have hB06' := hB06.trans (hBa.mono hB06.size)
  have hB07 := hB06'.trans (grown_below hg7 hB06'.size (fun r h => by injection h with h; omega))
  go_wp2_with (go_at_call 20; refine (num4_gives _ _).mono ?_; rintro x W ⟨rfl, rfl⟩)
  refine (HRD _ _ _ hD7).mono ?_
  rintro x W8 ⟨q, rfl, hin8, hB8⟩
  have hB08 := hB07.trans (hB8.mono hB07.size)
  replace hin8 : InB W8 W8.heap.size (some ⟨q, 0, none⟩) 64 L4 := hin8
  have hL4l : L4.length = 64 := by rw [hL4]; rfl
  generalize L4 = L4 at *
  go_wp2
  open Reg in
  refine region_facts (by kernel_rfl) (by kernel_rfl) 59 rfl (by kernel_rfl)
    [(3, .val (.int .i64 0)), (4, .val (.int .i64 140)), (5, .res (L4)), (6, .val (.int .i64 0))]
    [(36, .val (.int .i64 0)), (37, .val (.bool true)), (38, .val (.bool true)), (39, .val (.int .i64 140)), (40, .val (.int .i64 140)), (41, .val (.bool true)), (42, .val (.bool true)), (43, .val (.bool true)), (44, .val (.int .i64 0)), (45, .val (.int .i64 0)), (46, .val (.bool true)), (47, .val (.bool true)), (48, .val (.bool true)), (49, .res (L4)), (50, .val (.string (str (L4)))), (51, .res (secL 7)), (52, .res ((secL 7).take 10)), (53, .val (.string (str ((secL 7).take 10)))), (54, .res (List.replicate 54 0)), (55, .val (.string (str (List.replicate 54 0)))), (56, .val (.string (str (L4)))), (57, .val (.bool true)), (58, .val (.bool true)), (0, .val (.bool true))]
    ⟨rfl, rfl, ⟨_, _, (by rw [hL4l]; rfl), hin8⟩, rfl, trivial⟩ (by kernel_rfl)
    (allOk_cons (ok_none rfl (l_mvF 3 (.val (.int .i64 0)) (.inl rfl) (by kernel_rfl) (by kernel_rfl) (by kernel_rfl)))
    <| allOk_cons (ok_none rfl (l_eqi (.tmp 36) (.const (Go.Value.int Go.IntKind.i64 0)) _ _ .i64 (0) rfl Try.underlying3 (hs 36 (.int .i64 0) (by kernel_rfl) (by kernel_rfl)) (hc _) (by kernel_rfl)))
    <| allOk_cons (ok_none rfl (l_mvF 37 (.val (.bool true)) (.inl rfl) (by kernel_rfl) (by kernel_rfl) (by kernel_rfl)))
    <| allOk_cons (okg 2 true 38 rfl (by kernel_rfl) (by kernel_rfl) (by kernel_rfl) (l_mvF 4 (.val (.int .i64 140)) (.inl rfl) (by kernel_rfl) (by kernel_rfl) (by kernel_rfl)))
    <| allOk_cons (okg 2 true 38 rfl (by kernel_rfl) (by kernel_rfl) (by kernel_rfl) (l_call 20 _ _ rfl (enters_of Try.func20 (by kernel_rfl) rfl) #[.int .i64 140] (.val (.int .i64 140)) (args1 (hs 39 (.int .i64 140) (by kernel_rfl) (by kernel_rfl))) (fun w hg => gives_num4 _ _) (by kernel_rfl)))
    <| allOk_cons (okg 2 true 38 rfl (by kernel_rfl) (by kernel_rfl) (by kernel_rfl) (l_eqi (.tmp 40) (.const (Go.Value.int Go.IntKind.i64 140)) _ _ .i64 (140) rfl Try.underlying3 (hs 40 (.int .i64 140) (by kernel_rfl) (by kernel_rfl)) (hc _) (by kernel_rfl)))
    <| allOk_cons (ok_none rfl (l_pick (.tmp 38) (.tmp 41) (.bool true) rfl (hs 38 (.bool true) (by kernel_rfl) (by kernel_rfl)) (hs 41 (.bool true) (by kernel_rfl) (by kernel_rfl)) (by kernel_rfl)))
    <| allOk_cons (ok_none rfl (l_mvF 42 (.val (.bool true)) (.inl rfl) (by kernel_rfl) (by kernel_rfl) (by kernel_rfl)))
    <| allOk_cons (okg 7 true 43 rfl (by kernel_rfl) (by kernel_rfl) (by kernel_rfl) (l_mvF 6 (.val (.int .i64 0)) (.inl rfl) (by kernel_rfl) (by kernel_rfl) (by kernel_rfl)))
    <| allOk_cons (okg 7 true 43 rfl (by kernel_rfl) (by kernel_rfl) (by kernel_rfl) (l_call 20 _ _ rfl (enters_of Try.func20 (by kernel_rfl) rfl) #[.int .i64 0] (.val (.int .i64 0)) (args1 (hs 44 (.int .i64 0) (by kernel_rfl) (by kernel_rfl))) (fun w hg => gives_num4 _ _) (by kernel_rfl)))
    <| allOk_cons (okg 7 true 43 rfl (by kernel_rfl) (by kernel_rfl) (by kernel_rfl) (l_eqi (.tmp 45) (.const (Go.Value.int Go.IntKind.i64 0)) _ _ .i64 (0) rfl Try.underlying3 (hs 45 (.int .i64 0) (by kernel_rfl) (by kernel_rfl)) (hc _) (by kernel_rfl)))
    <| allOk_cons (ok_none rfl (l_pick (.tmp 43) (.tmp 46) (.bool true) rfl (hs 43 (.bool true) (by kernel_rfl) (by kernel_rfl)) (hs 46 (.bool true) (by kernel_rfl) (by kernel_rfl)) (by kernel_rfl)))
    <| allOk_cons (ok_none rfl (l_mvF 47 (.val (.bool true)) (.inl rfl) (by kernel_rfl) (by kernel_rfl) (by kernel_rfl)))
    <| allOk_cons (okg 12 true 48 rfl (by kernel_rfl) (by kernel_rfl) (by kernel_rfl) (l_mvF 5 (.res (L4)) (.inl rfl) (by kernel_rfl) (by kernel_rfl) (by kernel_rfl)))
    <| allOk_cons (okg 12 true 48 rfl (by kernel_rfl) (by kernel_rfl) (by kernel_rfl) (l_conv 49 (L4) rfl (by kernel_rfl) (by kernel_rfl) (by kernel_rfl)))
    <| allOk_cons (okg 12 true 48 rfl (by kernel_rfl) (by kernel_rfl) (by kernel_rfl) (l_call 22 _ _ rfl (enters_of Try.func22 (by kernel_rfl) rfl) #[(Go.Value.int Go.IntKind.u8 7)] (.res (secL 7)) (args1 (hc _)) (fun w hg => gives_res (HS7 w)) (by kernel_rfl)))
    <| allOk_cons (okg 12 true 48 rfl (by kernel_rfl) (by kernel_rfl) (by kernel_rfl) (l_cutR 51 (secL 7) 10 rfl (by kernel_rfl) (by kernel_rfl) (by decide) (by kernel_rfl)))
    <| allOk_cons (okg 12 true 48 rfl (by kernel_rfl) (by kernel_rfl) (by kernel_rfl) (l_conv 52 ((secL 7).take 10) rfl (by kernel_rfl) (by kernel_rfl) (by kernel_rfl)))
    <| allOk_cons (okg 12 true 48 rfl (by kernel_rfl) (by kernel_rfl) (by kernel_rfl) (l_makeR 54 rfl (by decide) (by kernel_rfl)))
    <| allOk_cons (okg 12 true 48 rfl (by kernel_rfl) (by kernel_rfl) (by kernel_rfl) (l_conv 54 (List.replicate 54 0) rfl (by kernel_rfl) (by kernel_rfl) (by kernel_rfl)))
    <| allOk_cons (okg 12 true 48 rfl (by kernel_rfl) (by kernel_rfl) (by kernel_rfl) (l_run2W (.tmp 53) (.tmp 55) (.val (.string (str (L4)))) (.string (str ((secL 7).take 10))) (.string (str (List.replicate 54 0))) (hs 53 _ (by kernel_rfl) (by kernel_rfl)) (hs 55 _ (by kernel_rfl) (by kernel_rfl)) (fun ρ w hg h1 h2 => ⟨_, w, run_addS rfl h1 h2 hL4.symm (by decide) Try.underlying9, Grow.refl _, rfl⟩) (by kernel_rfl)))
    <| allOk_cons (okg 12 true 48 rfl (by kernel_rfl) (by kernel_rfl) (by kernel_rfl) (l_eqs (.tmp 50) (.tmp 56) _ _ ((str (L4))) rfl Try.underlying9 (hs 50 (.string (str (L4))) (by kernel_rfl) (by kernel_rfl)) (hs 56 (.string (str (L4))) (by kernel_rfl) (by kernel_rfl)) (by kernel_rfl)))
    <| allOk_cons (ok_none rfl (l_pick (.tmp 48) (.tmp 57) (.bool true) rfl (hs 48 (.bool true) (by kernel_rfl) (by kernel_rfl)) (hs 57 (.bool true) (by kernel_rfl) (by kernel_rfl)) (by kernel_rfl)))
    <| allOk_cons (ok_none rfl (l_mvF 58 (.val (.bool true)) (.inr rfl) (by kernel_rfl) (by kernel_rfl) (by kernel_rfl)))
    <| allOk_nil) ?_
  intro a w9 _ hdef hG hF
  have hr : a.eval (.tmp 0) = .bool true := hF 0
  have hB09 : Below w.heap.size w w9 := hB08.trans (hG.mono hB08.size)
  clear hF
  simp only [Exit.then]
  refine ‹∀ (a : Act) (w : World), Code.wp Try.prog Code.ret _ a w → _› a w9 ?_
  refine Reg.ends1 0 (.bool true) rfl hr hdef ?_
  exact ⟨rfl, hB09⟩
end Go.Proofs.Ytlelckdcmlpmdaa
/- The plain law of DiskHolds: which writes a crash keeps, and what a sector reads as behind it. -/
namespace Go.Proofs.Ytlelckdcmlpmdaa
open Go Go.RowKit Lou

theorem laid_app (g : Nat → List UInt8) (xs ys : List (Nat × List UInt8)) : laid g (xs ++ ys) = laid (laid g xs) ys := by unfold laid; rw [List.foldl_append]
theorem laid_one (g : Nat → List UInt8) (xs : List (Nat × List UInt8)) (a : Nat) (l : List UInt8) (k : Nat) : laid g (xs ++ [(a, l)]) k = if k = a then l else laid g xs k := by rw [laid_app]; rfl
theorem laid_away : ∀ (xs : List (Nat × List UInt8)) (g : Nat → List UInt8) (k : Nat), (∀ x ∈ xs, x.1 ≠ k) → laid g xs k = g k
  | [], _, _, _ => rfl
  | x :: xs, g, k, h => by
    have e : laid g (x :: xs) = laid (gset g x.1 x.2) xs := rfl
    rw [e, laid_away xs _ k (fun y hy => h y (by simp [hy]))]
    have := h x (by simp)
    unfold gset
    rw [if_neg (fun e => this e.symm)]
theorem keptTo_mem (xs : List (Nat × List UInt8)) (bs : List Bool) : ∀ i, i ≤ xs.length → ∀ x ∈ keptTo xs bs i, ∃ j, ∃ h : j < xs.length, bs.getD j false = true ∧ xs[j] = x
  | 0, _, x, h => by simp [keptTo] at h
  | i + 1, hi, x, h => by
    unfold keptTo at h
    split at h
    · next hb =>
      rcases List.mem_append.1 h with h | h
      · exact keptTo_mem xs bs i (by omega) x h
      · refine ⟨i, by omega, hb, ?_⟩
        have e : x = xs.getD i (0, zer64) := by simpa using h
        rw [e, List.getD_eq_getElem?_getD, List.getElem?_eq_getElem (by omega)]
        rfl
    · exact keptTo_mem xs bs i (by omega) x h
theorem keptTo_all (xs : List (Nat × List UInt8)) (bs : List Bool) : ∀ i, i ≤ xs.length → (∀ j, j < i → bs.getD j false = true) → keptTo xs bs i = xs.take i
  | 0, _, _ => by simp [keptTo]
  | i + 1, hi, h => by
    unfold keptTo
    rw [if_pos (h i (by omega)), keptTo_all xs bs i (by omega) (fun j hj => h j (by omega)), List.getD_eq_getElem?_getD, List.getElem?_eq_getElem (by omega)]
    simp
theorem torn_first (g : Nat → List UInt8) (ks : List (Nat × List UInt8)) (t k : Nat) (h : ∀ x ∈ ks, x.1 ≠ k) : ∀ x ∈ torn g ks t, x.1 ≠ k := by
  unfold torn
  split
  · exact h
  · next hn =>
    have hne : ks ≠ [] := fun e => hn (.inl e)
    intro x hx
    rcases List.mem_append.1 hx with hx | hx
    · exact h x ((List.dropLast_sublist _).subset hx)
    · obtain rfl := List.mem_singleton.1 hx
      refine h (ks.getLastD (0, zer64)) ?_
      have e : ks.getLastD (0, zer64) = ks.getLast hne := by rw [List.getLastD_eq_getLast?, List.getLast?_eq_some_getLast hne]; rfl
      rw [e]
      exact List.getLast_mem hne
/-- A crash that keeps no write to a sector leaves it as it was synced. -/
theorem crash_away (g : Nat → List UInt8) (xs : List (Nat × List UInt8)) (bs : List Bool) (t k : Nat) (h : ∀ j, (hj : j < xs.length) → xs[j].1 = k → bs.getD j false = false) : laid g (torn g (keptTo xs bs xs.length) t) k = g k := by
  refine laid_away _ g k (torn_first g _ t k fun x hx => ?_)
  obtain ⟨j, hj, hb, e⟩ := keptTo_mem xs bs xs.length (Nat.le_refl _) x hx
  subst e
  intro hk
  have := h j hj hk
  rw [hb] at this
  cases this
/-- A crash that keeps all and tears none. -/
theorem crash_all (g : Nat → List UInt8) (xs : List (Nat × List UInt8)) (bs : List Bool) (h : ∀ j, j < xs.length → bs.getD j false = true) : torn g (keptTo xs bs xs.length) 0 = xs := by
  rw [torn_none g _ 0 (.inr rfl), keptTo_all xs bs xs.length (Nat.le_refl _) h, List.take_length]

/-! ### What the law's own rows hold -/
/-- was: the byte that each sector is full of. -/
def Full (g : Nat → List UInt8) (l : List UInt8) : Prop := ∀ k, (h : k < l.length) → g k = secL l[k]
theorem full_zero (n : Nat) : Full (fun _ => zer64) (List.replicate n 0) := fun k h => by rw [List.getElem_replicate]; rfl
theorem full_write {g : Nat → List UInt8} {xs : List (Nat × List UInt8)} {l : List UInt8} (h : Full (laid g xs) l) (a : Nat) (b : UInt8) : Full (laid g (xs ++ [(a, secL b)])) (l.set a b) := fun k hk => by
  rw [laid_one, List.getElem_set]
  rw [List.length_set] at hk
  by_cases e : k = a
  · rw [if_pos e, if_pos e.symm]
  · rw [if_neg e, if_neg (fun h => e h.symm)]
    exact h k hk
/-- kb: whether a write to each sector was kept, of the first xs. -/
def Kept (kb : List Bool) (xs : List (Nat × List UInt8)) (bs : List Bool) : Prop := ∀ k, kb[k]? = some false → ∀ j, (hj : j < xs.length) → xs[j].1 = k → bs.getD j false = false
theorem kept_none (kb : List Bool) (bs : List Bool) : Kept kb [] bs := fun k _ j hj => by simp at hj
theorem kept_write {kb : List Bool} {xs : List (Nat × List UInt8)} {bs : List Bool} (h : Kept kb xs bs) (a : Nat) (ha : a < kb.length) (l : List UInt8) : Kept (kb.set a (kb[a] || bs.getD xs.length false)) (xs ++ [(a, l)]) bs := by
  intro k hk j hj hx
  rw [List.length_append, List.length_singleton] at hj
  by_cases e : k = a
  · subst e
    rw [List.getElem?_set_self ha] at hk
    have hk' : (kb[k] || bs.getD xs.length false) = false := by simpa using hk
    rw [Bool.or_eq_false_iff] at hk'
    by_cases hj2 : j < xs.length
    · rw [List.getElem_append_left hj2] at hx
      exact h k (by rw [List.getElem?_eq_getElem ha, hk'.1]) j hj2 hx
    · obtain rfl : j = xs.length := by omega
      exact hk'.2
  · rw [List.getElem?_set_ne (fun h => e h.symm)] at hk
    by_cases hj2 : j < xs.length
    · rw [List.getElem_append_left hj2] at hx
      exact h k hk j hj2 hx
    · obtain rfl : j = xs.length := by omega
      simp at hx
      exact absurd hx.symm e
end Go.Proofs.Ytlelckdcmlpmdaa
