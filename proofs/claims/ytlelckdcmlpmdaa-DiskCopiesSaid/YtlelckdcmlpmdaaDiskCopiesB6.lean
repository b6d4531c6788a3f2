/- Texts that the proof of DiskCopies leans on, part 6. -/
import Derived.BigQuiet
import Derived.Maps.RangeRun
import Derived.Test.YtlelckdcmlpmdaaDiskCopiesB5
/- louperef04: Same. -/
namespace Go.Proofs.Ytlelckdcmlpmdaa
open Go Go.RowKit Lou

theorem x_neS {w : World} {o : Oper} {ρ : Operand → Value} {x y : Operand} {a b : List UInt8} (ho : o.op = .binOp .neq 9 x y 9) (h1 : ρ x = .string (str a)) (h2 : ρ y = .string (str b)) {r : Bool} (hr : (!((str a).toList == (str b).toList)) = r) : (execOp ρ o).run Try.prog w = .ok (.value (.bool r)) w := by
  subst hr
  simp [execOp, ho, h1, h2, go_sem]
def YesR (w : World) (P : Prop) (e : Ending) (w' : World) : Prop := ∃ r : Bool, e = .returned (.bool r) ∧ Below w.heap.size w w' ∧ (r = true ↔ P)
theorem below_dN {B : Nat} {a w : World} (h : Below B a w) (n : Nat) : Below B a (w.drewN n) := ⟨h.os, h.tape, h.output, h.size, h.block⟩
/-- The document's two disks are the same. -/
def SameP (many many' left left' : Int) (sy ls sy' ls' : List (Nat × List UInt8)) : Prop := many = many' ∧ left = left' ∧ ls = ls' ∧ ∀ x ∈ sy ++ sy', lastB sy (x.1 : Int) = lastB sy' (x.1 : Int)
theorem str_ne {a b : List UInt8} (h : ¬ a = b) : ((str a).toList == (str b).toList) = false := by
  rw [str_toList, str_toList]
  simpa using h
set_option maxRecDepth 100000 in
set_option maxHeartbeats 8000000 in
theorem rsame_gives (w : World) (many many' : Int) (sy ls sy' ls' : List (Nat × List UInt8)) (As : Option Addr) (cs : Nat) (Al : Option Addr) (cl : Nat) (left : Int) (Bs : Option Addr) (ds : Nat) (Bl : Option Addr) (dl : Nat) (left' : Int) (h : RIs w w.heap.size sy ls As cs Al cl) (h' : RIs w w.heap.size sy' ls' Bs ds Bl dl) (hn1 : sy.length ≤ 400000) (hn2 : ls.length ≤ 400000) (hn3 : sy'.length ≤ 400000) (hn4 : ls'.length ≤ 400000) :
    Calls Try.prog 84 #[VAL many As sy.length cs Al ls.length cl left, VAL many' Bs sy'.length ds Bl ls'.length dl left'] w (YesR w (SameP many many' left left' sy ls sy' ls')) := by
  unfold YesR VAL
  have b0 := BlkIs.new w 141 #[.int .i64 many, .slice As sy.length cs, .slice Al ls.length cl, .int .i64 left]
  have b2 := BlkIs.new (w.alloc (.cells #[.int .i64 many, .slice As sy.length cs, .slice Al ls.length cl, .int .i64 left] 141)) 141 #[.int .i64 many', .slice Bs sy'.length ds, .slice Bl ls'.length dl, .int .i64 left']
  rw [World.size_alloc] at b2
  have b1 := b0.alloc (.cells #[.int .i64 many', .slice Bs sy'.length ds, .slice Bl ls'.length dl, .int .i64 left'] 141)
  have hB1 : Below w.heap.size w ((w.alloc (.cells #[.int .i64 many, .slice As sy.length cs, .slice Al ls.length cl, .int .i64 left] 141)).alloc (.cells #[.int .i64 many', .slice Bs sy'.length ds, .slice Bl ls'.length dl, .int .i64 left'] 141)) := ((Below.refl _ w).alloc (Nat.le_refl _) _).alloc (by simp) _
  obtain ⟨W1, hW1⟩ : ∃ W, W = (w.alloc (.cells #[.int .i64 many, .slice As sy.length cs, .slice Al ls.length cl, .int .i64 left] 141)).alloc (.cells #[.int .i64 many', .slice Bs sy'.length ds, .slice Bl ls'.length dl, .int .i64 left'] 141) := ⟨_, rfl⟩
  rw [← hW1] at b1 b2 hB1
  have HW1 := Lib.hid hW1
  clear hW1 b0
  have a0 : W1.cell? ⟨w.heap.size, 0, none⟩ = some (.int .i64 many) := by rw [b1.cell]; rfl
  have a1 : W1.cell? ⟨w.heap.size, 1, none⟩ = some (.slice As sy.length cs) := by rw [b1.cell]; rfl
  have a2 : W1.cell? ⟨w.heap.size, 2, none⟩ = some (.slice Al ls.length cl) := by rw [b1.cell]; rfl
  have a3 : W1.cell? ⟨w.heap.size, 3, none⟩ = some (.int .i64 left) := by rw [b1.cell]; rfl
  have e0 : W1.cell? ⟨w.heap.size + 1, 0, none⟩ = some (.int .i64 many') := by rw [b2.cell]; rfl
  have e1 : W1.cell? ⟨w.heap.size + 1, 1, none⟩ = some (.slice Bs sy'.length ds) := by rw [b2.cell]; rfl
  have e2 : W1.cell? ⟨w.heap.size + 1, 2, none⟩ = some (.slice Bl ls'.length dl) := by rw [b2.cell]; rfl
  have e3 : W1.cell? ⟨w.heap.size + 1, 3, none⟩ = some (.int .i64 left') := by rw [b2.cell]; rfl
  have HP1 : w.heap.size < W1.heap.size := by have := b2.lt; omega
  have HP2 : w.heap.size + 1 < W1.heap.size := b2.lt
  have hs := (h.s.below hB1).more hB1.size
  have hl2 := (h.l.below hB1).more hB1.size
  have hs' := (h'.s.below hB1).more hB1.size
  have hl2' := (h'.l.below hB1).more hB1.size
  have HSP : Hid (SameP many many' left left' sy ls sy' ls' ↔ (many = many' ∧ left = left' ∧ ls = ls' ∧ ∀ x ∈ sy ++ sy', lastB sy (x.1 : Int) = lastB sy' (x.1 : Int))) := Lib.hid Iff.rfl
  generalize SameP many many' left left' sy ls sy' ls' = PS at *
  clear b1 b2 h h'
  by_cases hm : many = many'
  case neg =>
    have HNP : Hid (¬ PS) := Lib.hid (fun hP => hm (HSP.out.1 hP).1)
    clear HSP
    go_enter Try.func84, Try.ntmps84
    go_upto_region 1 with fail
    rw [← HW1.out]
    clear HW1
    go_wp2
    go_ret
    exact ⟨false, rfl, hB1, (fun e => by cases e), fun hP => absurd hP HNP.out⟩
  by_cases hlf : left = left'
  case neg =>
    have HNP : Hid (¬ PS) := Lib.hid (fun hP => hlf (HSP.out.1 hP).2.1)
    subst hm
    clear HSP
    go_enter Try.func84, Try.ntmps84
    go_upto_region 1 with fail
    rw [← HW1.out]
    clear HW1
    go_wp2
    go_ret
    exact ⟨false, rfl, hB1, (fun e => by cases e), fun hP => absurd hP HNP.out⟩
  by_cases hll : ls.length = ls'.length
  case neg =>
    have HNP : Hid (¬ PS) := Lib.hid (fun hP => hll (by rw [(HSP.out.1 hP).2.2.1]))
    have hll2 : ¬ (ls.length : Int) = (ls'.length : Int) := by omega
    subst hm hlf
    clear HSP hll
    go_enter Try.func84, Try.ntmps84
    go_upto_region 1 with fail
    rw [← HW1.out]
    clear HW1
    go_wp2
    go_ret
    exact ⟨false, rfl, hB1, (fun e => by cases e), fun hP => absurd hP HNP.out⟩
  subst hm hlf
  have HLL := Lib.hid hll
  rw [← hll] at e2
  have hl2'' : InG W1 W1.heap.size 2 Bl ls.length dl (wsC ls') := by rw [hll]; exact hl2'
  clear hll hl2'
  go_enter Try.func84, Try.ntmps84
  go_upto_region 1 with fail
  rw [← HW1.out]
  clear HW1
  go_wp2
  go_loopw [5] (fun i wr => ∃ k : Nat, k ≤ ls.length ∧ i = .int .i64 k ∧ Hid (ls.take k = ls'.take k) ∧ Below W1.heap.size W1 wr) (fun i _ => ls.length - (intOf i).toNat)
  case atStart => exact ⟨0, by omega, rfl, Lib.hid (by simp), Below.refl _ _⟩
  case round =>
    obtain ⟨k, hk, rfl, HT, hBr⟩ := hrel
    have c2 : wr.cell? ⟨w.heap.size, 2, none⟩ = some (.slice Al ls.length cl) := (hBr.cell (p := ⟨w.heap.size, 2, none⟩) HP1).trans a2
    have g2 : wr.cell? ⟨w.heap.size + 1, 2, none⟩ = some (.slice Bl ls.length dl) := (hBr.cell (p := ⟨w.heap.size + 1, 2, none⟩) HP2).trans e2
    by_cases hlt : k < ls.length
    · have hlt' : k < ls'.length := by have := HLL.out; omega
      obtain ⟨g, o, rfl, hg, _⟩ := hl2.lies (by omega)
      obtain ⟨g', o', rfl, hg', _⟩ := hl2''.lies (by omega)
      obtain ⟨u0, u1⟩ := wr_at hl2 rfl k hlt hBr
      obtain ⟨v0, v1⟩ := wr_at hl2'' HLL.out k hlt' hBr
      have i1 : (0 : Int) ≤ (k : Int) := by omega
      have i2 : (k : Int) < (ls.length : Int) := by omega
      have hwk : IntKind.i64.wrap ((k : Int) + 1) = (k : Int) + 1 := wrap_i64_fr _ (by omega) (by omega)
      have HNX : ls[k] = ls'[k] → Hid (ls.take (k + 1) = ls'.take (k + 1)) := fun e => Lib.hid (by rw [List.take_succ_eq_append_getElem hlt, List.take_succ_eq_append_getElem hlt', HT.out, e])
      have HNE : ¬ ls[k] = ls'[k] → Hid (¬ PS) := fun e => Lib.hid (fun hP => e (by have := (HSP.out.1 hP).2.2.1; subst this; rfl))
      generalize ls[k] = x at *
      generalize ls'[k] = y at *
      obtain ⟨x1, x2⟩ := x
      obtain ⟨y1, y2⟩ := y
      simp only at u0 u1 v0 v1
      by_cases hx1 : x1 = y1
      · subst hx1
        by_cases hx2 : x2 = y2
        · subst hx2
          have HN := HNX rfl
          clear HNX HNE
          generalize str x2 = st at *
          go_wp2
          go_quiet (fail)
          go_wp2
          exact ⟨⟨k + 1, by omega, by simp, HN, below_dN hBr _⟩, by simp [intOf]; omega⟩
        · have HNP := HNE (fun e => hx2 (by injection e))
          have hse := str_ne hx2
          have hse2 : ¬ (str x2).toList = (str y2).toList := by simpa using hse
          clear HNX HNE hx2
          generalize str x2 = st at *
          generalize str y2 = st' at *
          go_wp2
          go_quiet (fail)
          go_wp2
          go_ret
          exact ⟨false, rfl, below_dN (hB1.trans (hBr.mono hB1.size)) _, (fun e => by cases e), fun hP => absurd hP HNP.out⟩
      · have HNP := HNE (fun e => hx1 (by injection e))
        have hx1' : ¬ (x1 : Int) = (y1 : Int) := by omega
        clear HNX HNE
        generalize str x2 = st at *
        generalize str y2 = st' at *
        go_wp2
        go_quiet (fail)
        go_wp2
        go_ret
        exact ⟨false, rfl, below_dN (hB1.trans (hBr.mono hB1.size)) _, (fun e => by cases e), fun hP => absurd hP HNP.out⟩
    · obtain rfl : k = ls.length := by omega
      have hll : ls = ls' := by
        have h1 := HT.out
        rw [List.take_length, HLL.out, List.take_length] at h1
        exact h1
      subst hll
      have HP1 : w.heap.size < wr.heap.size := by have := hBr.size; omega
      have HP2 : w.heap.size + 1 < wr.heap.size := by have := hBr.size; omega
      have c1 : wr.cell? ⟨w.heap.size, 1, none⟩ = some (.slice As sy.length cs) := (hBr.cell (p := ⟨w.heap.size, 1, none⟩) (by omega)).trans a1
      have g1 : wr.cell? ⟨w.heap.size + 1, 1, none⟩ = some (.slice Bs sy'.length ds) := (hBr.cell (p := ⟨w.heap.size + 1, 1, none⟩) (by omega)).trans e1
      have hsr := (hs.below hBr).more hBr.size
      have hsr' := (hs'.below hBr).more hBr.size
      clear HT HLL hl2'' hl2
      go_wp2
      have hSd : wr.drew.cell? ⟨w.heap.size, 1, none⟩ = some (.slice As sy.length cs) ∧ wr.drew.cell? ⟨w.heap.size + 1, 1, none⟩ = some (.slice Bs sy'.length ds) := ⟨c1, g1⟩
      have hBd : Below wr.heap.size wr wr.drew := (Below.refl _ wr).drew
      refine RegF.start (fun W => W.cell? ⟨w.heap.size, 1, none⟩ = some (.slice As sy.length cs) ∧ W.cell? ⟨w.heap.size + 1, 1, none⟩ = some (.slice Bs sy'.length ds)) 7 (by kernel_rfl) ?_
      refine RegF.take 1 (.pointer (some ⟨w.heap.size, 1, none⟩)) rfl (by kernel_rfl) (by kernel_rfl) (by kernel_rfl) (by kernel_rfl) (fun _ _ _ h => h) hSd (RegF.yld rfl (fun W hW => by obtain ⟨hW1, hW2⟩ := hW; go_simp)) ?_
      simp only [List.getElem_toArray, List.getElem_cons_succ, List.getElem_cons_zero, Act.put, List.setIfInBounds_toArray, List.set_cons_zero, List.set_cons_succ]
      refine RegF.take 2 (.slice As sy.length cs) rfl (by kernel_rfl) (by kernel_rfl) (by kernel_rfl) (by kernel_rfl) (fun _ _ _ h => h) hSd (RegF.yld rfl (fun W hW => by obtain ⟨hW1, hW2⟩ := hW; go_simp)) ?_
      simp only [List.getElem_toArray, List.getElem_cons_succ, List.getElem_cons_zero, Act.put, List.setIfInBounds_toArray, List.set_cons_zero, List.set_cons_succ]
      refine RegF.take 4 (.pointer (some ⟨w.heap.size + 1, 1, none⟩)) rfl (by kernel_rfl) (by kernel_rfl) (by kernel_rfl) (by kernel_rfl) (fun _ _ _ h => h) hSd (RegF.yld rfl (fun W hW => by obtain ⟨hW1, hW2⟩ := hW; go_simp)) ?_
      simp only [List.getElem_toArray, List.getElem_cons_succ, List.getElem_cons_zero, Act.put, List.setIfInBounds_toArray, List.set_cons_zero, List.set_cons_succ]
      refine RegF.take 5 (.slice Bs sy'.length ds) rfl (by kernel_rfl) (by kernel_rfl) (by kernel_rfl) (by kernel_rfl) (fun _ _ _ h => h) hSd (RegF.yld rfl (fun W hW => by obtain ⟨hW1, hW2⟩ := hW; go_simp)) ?_
      simp only [List.getElem_toArray, List.getElem_cons_succ, List.getElem_cons_zero, Act.put, List.setIfInBounds_toArray, List.set_cons_zero, List.set_cons_succ]
      have hBe := hBd.alloc (Nat.le_refl _) (.cells #[] 256)
      have e0 : (wr.drew.alloc (.cells #[] 256)).ownsRow wr.heap.size 256 2 (.slice (some ⟨wr.heap.size, 0, none⟩) 0 0) 0 [] := World.ownsRow_lit wr.drew #[] 0 (Nat.le_refl _) (by unfold maxLen; omega) rfl
      have hSk : ∀ W', Below wr.heap.size wr W' → W'.cell? ⟨w.heap.size, 1, none⟩ = some (.slice As sy.length cs) ∧ W'.cell? ⟨w.heap.size + 1, 1, none⟩ = some (.slice Bs sy'.length ds) := fun W' hB => ⟨(hB.cell (p := ⟨w.heap.size, 1, none⟩) HP1).trans c1, (hB.cell (p := ⟨w.heap.size + 1, 1, none⟩) HP2).trans g1⟩
      refine RegF.one 0 (by kernel_rfl) ?_
      refine RegF.opV (w' := wr.drew.alloc (.cells #[] 256)) (.slice (some ⟨wr.heap.size, 0, none⟩) 0 0) rfl rfl (by go_simp) ⟨fun _ => hSk _ hBe, ?_⟩
      simp only [List.getElem_toArray, List.getElem_cons_zero, Act.put, List.setIfInBounds_toArray, List.set_cons_zero, List.set_cons_succ]
      refine RegF.one 3 (by kernel_rfl) ?_
      refine opAppR rfl rfl elRW (.tmp 47) (.tmp 49) rfl wr.heap.size (.slice (some ⟨wr.heap.size, 0, none⟩) 0 0) 0 [] rfl e0 _ As sy.length cs (wsC sy) rfl (hsr.below hBe) (by unfold maxLen; omega) (by omega) hBe.size ?_
      intro v3 w3 own3 hg3
      have hB3 := hBe.trans (grown_below hg3 hBe.size (ownG_ge e0))
      rw [List.nil_append, Nat.zero_add] at own3
      refine ⟨fun _ => hSk _ hB3, ?_⟩
      simp only [List.getElem_toArray, List.getElem_cons_succ, List.getElem_cons_zero, Act.put, List.setIfInBounds_toArray, List.set_cons_zero, List.set_cons_succ]
      refine RegF.one 6 (by kernel_rfl) ?_
      refine opAppR rfl rfl elRW (.tmp 50) (.tmp 52) rfl wr.heap.size v3 sy.length (wsC sy) rfl own3 _ Bs sy'.length ds (wsC sy') rfl (hsr'.below hB3) (by unfold maxLen; omega) (by omega) hB3.size ?_
      intro v6 w6 own6 hg6
      have hB6 := hB3.trans (grown_below hg6 hB3.size (ownG_ge own3))
      rw [← wsC_append] at own6
      obtain ⟨A6, c6, rfl, in6⟩ := ownG_in own6 (wsC_one _)
      refine ⟨fun _ => hSk _ hB6, ?_⟩
      simp only [List.getElem_toArray, List.getElem_cons_succ, List.getElem_cons_zero, Act.put, List.setIfInBounds_toArray, List.set_cons_zero, List.set_cons_succ]
      refine RegF.one 7 (by kernel_rfl) ?_
      refine RegF.opV (w' := w6) (.slice A6 (sy.length + sy'.length) c6) rfl rfl (by go_simp) ⟨fun h => absurd rfl h, ?_⟩
      simp only [List.getElem_toArray, List.getElem_cons_succ, List.getElem_cons_zero, Act.put, List.setIfInBounds_toArray, List.set_cons_zero, List.set_cons_succ]
      refine RegF.done (by kernel_rfl) ?_
      have hBr6 := hBr.trans (hB6.mono hBr.size)
      have hs6 := (hsr.below hB6).more hB6.size
      have hs6' := (hsr'.below hB6).more hB6.size
      have c16 : w6.cell? ⟨w.heap.size, 1, none⟩ = some (.slice As sy.length cs) := (hSk _ hB6).1
      have g16 : w6.cell? ⟨w.heap.size + 1, 1, none⟩ = some (.slice Bs sy'.length ds) := (hSk _ hB6).2
      have HP16 : w.heap.size < w6.heap.size := by have := hB6.size; omega
      have HP26 : w.heap.size + 1 < w6.heap.size := by have := hB6.size; omega
      have hB06 := hB1.trans (hBr6.mono hB1.size)
      clear hSk hSd hBd hBe e0 own3 hg3 own6 hg6 hB6 hB3 hBr6 hsr hsr' c1 g1 c2 g2
      have hlen : (sy ++ sy').length = sy.length + sy'.length := by simp
      obtain ⟨n, hn⟩ : ∃ n, n = sy.length + sy'.length := ⟨_, rfl⟩
      rw [← hn] at in6 hlen ⊢
      have HLN := Lib.hid hlen
      have hnle : n ≤ 800000 := by omega
      clear hn hlen
      generalize hall : sy ++ sy' = al at *
      clear hall
      go_wp2
      go_loopw [7] (fun i wr => ∃ k : Nat, k ≤ n ∧ i = .int .i64 k ∧ Hid (∀ j, (hj : j < al.length) → j < k → lastB sy (al[j].1 : Int) = lastB sy' (al[j].1 : Int)) ∧ Below w6.heap.size w6 wr) (fun i _ => n - (intOf i).toNat)
      case atStart => exact ⟨0, by omega, rfl, Lib.hid (fun j _ h => by omega), Below.refl _ _⟩
      case round =>
        obtain ⟨k, hk, rfl, HA, hBx⟩ := hrel
        by_cases hlt : k < n
        · have hlt2 : k < al.length := by have := HLN.out; omega
          obtain ⟨g, o, rfl, hg, _⟩ := in6.lies (by omega)
          obtain ⟨u0, _⟩ := wr_at in6 HLN.out.symm k hlt2 hBx
          have i1 : (0 : Int) ≤ (k : Int) := by omega
          have i2 : (k : Int) < (n : Int) := by omega
          have hwk : IntKind.i64.wrap ((k : Int) + 1) = (k : Int) + 1 := wrap_i64_fr _ (by omega) (by omega)
          have hsx := (hs6.below hBx).more hBx.size
          have hsx' := (hs6'.below hBx).more hBx.size
          have HNX : lastB sy (al[k].1 : Int) = lastB sy' (al[k].1 : Int) → Hid (∀ j, (hj : j < al.length) → j < k + 1 → lastB sy (al[j].1 : Int) = lastB sy' (al[j].1 : Int)) := fun e => Lib.hid (fun j hj h1 => by
            by_cases hjk : j = k
            · subst hjk; exact e
            · exact HA.out j hj (by omega))
          have HNE : ¬ lastB sy (al[k].1 : Int) = lastB sy' (al[k].1 : Int) → Hid (¬ PS) := fun e => Lib.hid (fun hP => e ((HSP.out.1 hP).2.2.2 _ (List.getElem_mem hlt2)))
          generalize (al[k].1 : Int) = a at *
          have hBd : Below wr.heap.size wr wr.drew := (Below.refl _ wr).drew
          have hk1 : ∀ W', Below wr.heap.size wr W' → W'.cell? ⟨w.heap.size, 1, none⟩ = some (.slice As sy.length cs) ∧ W'.cell? ⟨w.heap.size + 1, 1, none⟩ = some (.slice Bs sy'.length ds) ∧ W'.cell? ⟨g, o + k * 2, none⟩ = some (.int .i64 a) := fun W' hB => ⟨((hBx.trans (hB.mono hBx.size)).cell (p := ⟨w.heap.size, 1, none⟩) HP16).trans c16, ((hBx.trans (hB.mono hBx.size)).cell (p := ⟨w.heap.size + 1, 1, none⟩) HP26).trans g16, (hB.cell (p := ⟨g, o + k * 2, none⟩) (Nat.lt_of_lt_of_le hg hBx.size)).trans u0⟩
          have hSd := hk1 _ hBd
          go_wp2
          refine RegF.start (fun W => W.cell? ⟨w.heap.size, 1, none⟩ = some (.slice As sy.length cs) ∧ W.cell? ⟨w.heap.size + 1, 1, none⟩ = some (.slice Bs sy'.length ds) ∧ W.cell? ⟨g, o + k * 2, none⟩ = some (.int .i64 a)) 99 (by kernel_rfl) ?_
          refine RegF.take0 0 (.pointer (some ⟨w.heap.size, 1, none⟩)) rfl (by kernel_rfl) (by kernel_rfl) (by kernel_rfl) rfl (fun _ _ _ h => h) hSd (RegF.yld rfl (fun W hW => by obtain ⟨hW1, hW2, hW3⟩ := hW; go_simp)) ?_
          simp only [List.getElem_toArray, List.getElem_cons_zero, Act.put, List.setIfInBounds_toArray, List.set_cons_zero, List.set_cons_succ]
          refine RegF.take0 1 (.slice As sy.length cs) rfl (by kernel_rfl) (by kernel_rfl) (by kernel_rfl) rfl (fun _ _ _ h => h) hSd (RegF.yld rfl (fun W hW => by obtain ⟨hW1, hW2, hW3⟩ := hW; go_simp)) ?_
          simp only [List.getElem_toArray, List.getElem_cons_succ, List.getElem_cons_zero, Act.put, List.setIfInBounds_toArray, List.set_cons_zero, List.set_cons_succ]
          refine RegF.take0 2 (.slice (some ⟨g, o, none⟩) n c6) rfl (by kernel_rfl) (by kernel_rfl) (by kernel_rfl) rfl (fun _ _ _ h => h) hSd (RegF.yld rfl (fun W hW => by obtain ⟨hW1, hW2, hW3⟩ := hW; go_simp)) ?_
          simp only [List.getElem_toArray, List.getElem_cons_succ, List.getElem_cons_zero, Act.put, List.setIfInBounds_toArray, List.set_cons_zero, List.set_cons_succ]
          refine RegF.take0 3 (.int .i64 (k : Int)) rfl (by kernel_rfl) (by kernel_rfl) (by kernel_rfl) rfl (fun _ _ _ h => h) hSd (RegF.yld rfl (fun W hW => by obtain ⟨hW1, hW2, hW3⟩ := hW; go_simp)) ?_
          simp only [List.getElem_toArray, List.getElem_cons_succ, List.getElem_cons_zero, Act.put, List.setIfInBounds_toArray, List.set_cons_zero, List.set_cons_succ]
          refine RegF.take0 4 (.pointer (some ⟨g, o + k * 2, none⟩)) rfl (by kernel_rfl) (by kernel_rfl) (by kernel_rfl) rfl (fun _ _ _ h => h) hSd (RegF.yld rfl (fun W hW => by obtain ⟨hW1, hW2, hW3⟩ := hW; go_simp)) ?_
          simp only [List.getElem_toArray, List.getElem_cons_succ, List.getElem_cons_zero, Act.put, List.setIfInBounds_toArray, List.set_cons_zero, List.set_cons_succ]
          refine RegF.take0 5 (.pointer (some ⟨g, o + k * 2, none⟩)) rfl (by kernel_rfl) (by kernel_rfl) (by kernel_rfl) rfl (fun _ _ _ h => h) hSd (RegF.yld rfl (fun W hW => by obtain ⟨hW1, hW2, hW3⟩ := hW; go_simp)) ?_
          simp only [List.getElem_toArray, List.getElem_cons_succ, List.getElem_cons_zero, Act.put, List.setIfInBounds_toArray, List.set_cons_zero, List.set_cons_succ]
          refine RegF.take0 6 (.int .i64 a) rfl (by kernel_rfl) (by kernel_rfl) (by kernel_rfl) rfl (fun _ _ _ h => h) hSd (RegF.yld rfl (fun W hW => by obtain ⟨hW1, hW2, hW3⟩ := hW; go_simp)) ?_
          simp only [List.getElem_toArray, List.getElem_cons_succ, List.getElem_cons_zero, Act.put, List.setIfInBounds_toArray, List.set_cons_zero, List.set_cons_succ]
          refine RegF.take0 8 (.pointer (some ⟨w.heap.size + 1, 1, none⟩)) rfl (by kernel_rfl) (by kernel_rfl) (by kernel_rfl) rfl (fun _ _ _ h => h) hSd (RegF.yld rfl (fun W hW => by obtain ⟨hW1, hW2, hW3⟩ := hW; go_simp)) ?_
          simp only [List.getElem_toArray, List.getElem_cons_succ, List.getElem_cons_zero, Act.put, List.setIfInBounds_toArray, List.set_cons_zero, List.set_cons_succ]
          refine RegF.take0 9 (.slice Bs sy'.length ds) rfl (by kernel_rfl) (by kernel_rfl) (by kernel_rfl) rfl (fun _ _ _ h => h) hSd (RegF.yld rfl (fun W hW => by obtain ⟨hW1, hW2, hW3⟩ := hW; go_simp)) ?_
          simp only [List.getElem_toArray, List.getElem_cons_succ, List.getElem_cons_zero, Act.put, List.setIfInBounds_toArray, List.set_cons_zero, List.set_cons_succ]
          refine RegF.take0 10 (.slice (some ⟨g, o, none⟩) n c6) rfl (by kernel_rfl) (by kernel_rfl) (by kernel_rfl) rfl (fun _ _ _ h => h) hSd (RegF.yld rfl (fun W hW => by obtain ⟨hW1, hW2, hW3⟩ := hW; go_simp)) ?_
          simp only [List.getElem_toArray, List.getElem_cons_succ, List.getElem_cons_zero, Act.put, List.setIfInBounds_toArray, List.set_cons_zero, List.set_cons_succ]
          refine RegF.take0 11 (.int .i64 (k : Int)) rfl (by kernel_rfl) (by kernel_rfl) (by kernel_rfl) rfl (fun _ _ _ h => h) hSd (RegF.yld rfl (fun W hW => by obtain ⟨hW1, hW2, hW3⟩ := hW; go_simp)) ?_
          simp only [List.getElem_toArray, List.getElem_cons_succ, List.getElem_cons_zero, Act.put, List.setIfInBounds_toArray, List.set_cons_zero, List.set_cons_succ]
          refine RegF.take0 12 (.pointer (some ⟨g, o + k * 2, none⟩)) rfl (by kernel_rfl) (by kernel_rfl) (by kernel_rfl) rfl (fun _ _ _ h => h) hSd (RegF.yld rfl (fun W hW => by obtain ⟨hW1, hW2, hW3⟩ := hW; go_simp)) ?_
          simp only [List.getElem_toArray, List.getElem_cons_succ, List.getElem_cons_zero, Act.put, List.setIfInBounds_toArray, List.set_cons_zero, List.set_cons_succ]
          refine RegF.take0 13 (.pointer (some ⟨g, o + k * 2, none⟩)) rfl (by kernel_rfl) (by kernel_rfl) (by kernel_rfl) rfl (fun _ _ _ h => h) hSd (RegF.yld rfl (fun W hW => by obtain ⟨hW1, hW2, hW3⟩ := hW; go_simp)) ?_
          simp only [List.getElem_toArray, List.getElem_cons_succ, List.getElem_cons_zero, Act.put, List.setIfInBounds_toArray, List.set_cons_zero, List.set_cons_succ]
          refine RegF.take0 14 (.int .i64 a) rfl (by kernel_rfl) (by kernel_rfl) (by kernel_rfl) rfl (fun _ _ _ h => h) hSd (RegF.yld rfl (fun W hW => by obtain ⟨hW1, hW2, hW3⟩ := hW; go_simp)) ?_
          simp only [List.getElem_toArray, List.getElem_cons_succ, List.getElem_cons_zero, Act.put, List.setIfInBounds_toArray, List.set_cons_zero, List.set_cons_succ]
          refine RegF.one 7 (by kernel_rfl) ?_
          refine RegF.opC 150 #[.tmp 61, .tmp 66] #[139, 3] rfl rfl rfl (enters_of Try.func150 (by kernel_rfl) rfl) #[.slice As sy.length cs, .int .i64 a] (by simp only [List.map_toArray, List.map_cons, List.map_nil]; rfl) ((last_gives wr.drew As cs sy (hsx.grow hBd) (by omega) a).mono ?_)
          rintro e w7 ⟨rfl, hB7⟩
          have hB7 : Below wr.heap.size wr w7 := hBd.trans hB7
          refine ⟨_, rfl, fun _ => hk1 _ hB7, ?_⟩
          simp only [List.getElem_toArray, List.getElem_cons_succ, List.getElem_cons_zero, Act.put, List.setIfInBounds_toArray, List.set_cons_zero, List.set_cons_succ]
          refine RegF.one 15 (by kernel_rfl) ?_
          refine RegF.opC 150 #[.tmp 69, .tmp 74] #[139, 3] rfl rfl rfl (enters_of Try.func150 (by kernel_rfl) rfl) #[.slice Bs sy'.length ds, .int .i64 a] (by simp only [List.map_toArray, List.map_cons, List.map_nil]; rfl) ((last_gives w7 Bs ds sy' (hsx'.grow hB7) (by omega) a).mono ?_)
          rintro e w8 ⟨rfl, hB8⟩
          have hB8 := hB7.trans (hB8.mono hB7.size)
          refine ⟨_, rfl, fun _ => hk1 _ hB8, ?_⟩
          simp only [List.getElem_toArray, List.getElem_cons_succ, List.getElem_cons_zero, Act.put, List.setIfInBounds_toArray, List.set_cons_zero, List.set_cons_succ]
          refine RegF.one 16 (by kernel_rfl) ?_
          have hBx8 := hBx.trans (hB8.mono hBx.size)
          by_cases he : lastB sy a = lastB sy' a
          · have HN := HNX he
            refine RegF.opV (w' := w8) (.bool false) rfl rfl (x_neS rfl rfl rfl (by rw [he]; simp)) ⟨fun _ => hk1 _ hB8, ?_⟩
            simp only [List.getElem_toArray, List.getElem_cons_succ, List.getElem_cons_zero, Act.put, List.setIfInBounds_toArray, List.set_cons_zero, List.set_cons_succ]
            refine RegF.done (by kernel_rfl) ?_
            generalize str (lastB sy a) = s1 at *
            generalize str (lastB sy' a) = s2 at *
            clear HNX HNE he
            go_wp2
            exact ⟨⟨k + 1, by omega, by simp, HN, hBx8⟩, by simp [intOf]; omega⟩
          · have HNP := HNE he
            refine RegF.opV (w' := w8) (.bool true) rfl rfl (x_neS rfl rfl rfl (by rw [str_ne he]; rfl)) ⟨fun _ => hk1 _ hB8, ?_⟩
            simp only [List.getElem_toArray, List.getElem_cons_succ, List.getElem_cons_zero, Act.put, List.setIfInBounds_toArray, List.set_cons_zero, List.set_cons_succ]
            refine RegF.done (by kernel_rfl) ?_
            generalize str (lastB sy a) = s1 at *
            generalize str (lastB sy' a) = s2 at *
            clear HNX HNE he
            go_wp2
            go_ret
            exact ⟨false, rfl, hB06.trans (hBx8.mono hB06.size), (fun e => by cases e), fun hP => absurd hP HNP.out⟩
        · obtain rfl : k = n := by omega
          have HPS : Hid PS := Lib.hid (HSP.out.2 ⟨trivial, trivial, trivial, fun x hx => by
            obtain ⟨j, hj, rfl⟩ := List.getElem_of_mem hx
            exact HA.out j hj (by have := HLN.out; omega)⟩)
          go_wp2
          go_ret
          exact ⟨true, rfl, hB06.trans (hBx.mono hB06.size), fun _ => HPS.out, fun _ => rfl⟩
end Go.Proofs.Ytlelckdcmlpmdaa
/- disk: loose writes compared. -/
namespace Go.Proofs.Ytlelckdcmlpmdaa
open Go Go.RowKit Lou
section
variable {ρ : Operand → Value} {w : World} {o : Oper} {x y : Operand}
theorem run_eqLs (d : Nat) {a b : Nat × List UInt8} (ha : a.2.length = 64) (hb : b.2.length = 64) : (Op.equalIn (d + 3) 164 (.agg (lsC a).toArray) (.agg (lsC b).toArray)).run Try.prog w = .ok ((a.1 : Int) == (b.1 : Int) && a.2 == b.2) w := by
  have hp : Try.prog.stoodInHeld 164 = false := by kernel_rfl
  have hu : Try.prog.underlying 164 = some (.struct (Try.prog.fieldsOf 164)) := by kernel_rfl
  have hE := run_equalIn_struct (P := Try.prog) w (d + 2) 164 (lsC a).toArray (lsC b).toArray hu hp
  have p1 : ∀ c : Nat × List UInt8, (part 3 (lsC c).toArray 0).run Try.prog w = .ok (.int .i64 (c.1 : Int)) w := fun c => by simp [part, lsC, go_sem]
  have p2 : ∀ c : Nat × List UInt8, c.2.length = 64 → (part 162 (lsC c).toArray 1).run Try.prog w = .ok (.agg (c.2.map b8).toArray) w := fun c hc => by
    have hs : (sizeOf 162).run Try.prog w = .ok 64 w := by simp [go_sem]
    have he : List.take 64 (List.map b8 c.snd) = List.map b8 c.snd := List.take_of_length_le (by rw [List.length_map, hc]; exact Nat.le_refl _)
    simp [part, lsC, go_sem, he]
  have hf : (Try.prog.fieldsOf 164).toList.map (fun f => (f.name, f.type, f.offset)) = [("at", 3, 0), ("sector", 162, 1)] := by kernel_rfl
  rw [hE]
  generalize (Try.prog.fieldsOf 164).toList = fs at hf
  have hl : fs.length = 2 := by simpa using congrArg List.length hf
  obtain ⟨f0, f1, rfl⟩ : ∃ f0 f1, fs = [f0, f1] := by
    cases fs with
    | nil => cases hl
    | cons f0 t => cases t with
      | nil => cases hl
      | cons f1 t => cases t with
        | nil => exact ⟨f0, f1, rfl⟩
        | cons f2 t => simp at hl
  simp only [List.map_cons, List.map_nil, List.cons.injEq, Prod.mk.injEq, and_true] at hf
  obtain ⟨⟨n0, t0, o0⟩, n1, t1, o1⟩ := hf
  have q1 := run_equalIn_int (P := Try.prog) w (d + 1) 3 .i64 .i64 (a.1 : Int) (b.1 : Int) Try.underlying3
  have q2 : (Op.equalIn (d + 2) 162 (.agg (a.2.map b8).toArray) (.agg (b.2.map b8).toArray)).run Try.prog w = .ok (a.2 == b.2) w := run_equalIn_bytes (P := Try.prog) w d 162 5 64 Try.underlying162 Try.underlying5 (fun w => by simp [go_sem]) a.2 b.2 ha hb
  have d0 : f0.name ≠ "_" := by rw [n0]; simp
  have d1 : f1.name ≠ "_" := by rw [n1]; simp
  have q1' : (Op.equalIn (d + 2) 3 (.int .i64 (a.1 : Int)) (.int .i64 (b.1 : Int))).run Try.prog w = .ok ((a.1 : Int) == (b.1 : Int)) w := q1
  have p2a := p2 a ha
  have p2b := p2 b hb
  have p1a := p1 a
  have p1b := p1 b
  clear q1 p1 p2 hE hp hu
  generalize (lsC a).toArray = ax at *
  generalize (lsC b).toArray = bx at *
  generalize (.agg (a.2.map b8).toArray : Value) = va at *
  generalize (.agg (b.2.map b8).toArray : Value) = vb at *
  generalize ((a.1 : Int) == (b.1 : Int)) = r1 at *
  generalize (a.2 == b.2) = r2 at *
  rw [Op.eqFields, if_pos d0, Sem.run_bind, t0, o0, p1a, Result.andThen_ok, Sem.run_bind, p1b, Result.andThen_ok, Sem.run_bind, q1', Result.andThen_ok]
  cases r1
  · rfl
  · show (Op.eqFields (d + 2) ax bx [f1]).run Try.prog w = _
    rw [Op.eqFields, if_pos d1, Sem.run_bind, t1, o1, p2a, Result.andThen_ok, Sem.run_bind, p2b, Result.andThen_ok, Sem.run_bind, q2, Result.andThen_ok]
    cases r2 <;> rfl
theorem x_neLs {a b : Nat × List UInt8} (ha : a.2.length = 64) (hb : b.2.length = 64) (ho : o.op = .binOp .neq 164 x y 164) (h1 : ρ x = .agg (lsC a).toArray) (h2 : ρ y = .agg (lsC b).toArray) {r : Bool} (hr : (!((a.1 : Int) == (b.1 : Int) && a.2 == b.2)) = r) : (execOp ρ o).run Try.prog w = .ok (.value (.bool r)) w := by
  have hm : Try.prog.eqGuardType Try.prog.depth 164 = false := by kernel_rfl
  have he := run_eqLs (w := w) 9997 ha hb
  generalize (lsC a).toArray = ax at *
  generalize (lsC b).toArray = bx at *
  have e : (9997 + 3 : Nat) = 10000 := by decide
  rw [e] at he
  have hb : (binOp .neq 164 (.agg ax) (.agg bx)).run Try.prog w = .ok (.bool r) w := by
    rw [run_neq_struct, he, ← hr]
    rfl
  simp only [execOp, ho, h1, h2, Sem.run_bind, run_eqGuard_agg w .neq 164 x y _ _ hm, Result.andThen_ok, hb, Sem.run_pure]
end
end Go.Proofs.Ytlelckdcmlpmdaa
/- disk: slices.Equal of loose writes. -/
namespace Go.Proofs.Ytlelckdcmlpmdaa
open Go Go.RowKit Lou
set_option maxRecDepth 100000 in
set_option maxHeartbeats 4000000 in
theorem leq_gives (w : World) (A : Option Addr) (c : Nat) (xs : List (Nat × List UInt8)) (A' : Option Addr) (c' : Nat) (ys : List (Nat × List UInt8)) (h : InW w w.heap.size A c xs) (h' : InW w w.heap.size A' c' ys) (hl : xs.length ≤ 1000000) :
    Calls Try.prog 157 #[.slice A xs.length c, .slice A' ys.length c'] w (YesR w (xs = ys)) := by
  unfold YesR
  by_cases hll : xs.length = ys.length
  case neg =>
    have h1 : ¬ (xs.length : Int) = (ys.length : Int) := by omega
    have HNE := Lib.hid (fun e : xs = ys => hll (by rw [e]))
    clear hll
    go_enter Try.func157, Try.ntmps157
    go_wp2
    go_ret
    exact ⟨false, rfl, Below.refl _ _, (fun e => by cases e), fun e => absurd e HNE.out⟩
  rw [← hll]
  have HLL := Lib.hid hll
  obtain ⟨hw, hx⟩ := h
  obtain ⟨hw', hx'⟩ := h'
  clear hll
  go_enter Try.func157, Try.ntmps157
  go_wp2
  go_loopw [13] (fun i wr => ∃ k : Nat, k ≤ xs.length ∧ i = .int .i64 k ∧ Hid (xs.take k = ys.take k) ∧ Below w.heap.size w wr) (fun i _ => xs.length - (intOf i).toNat)
  case atStart => exact ⟨0, by omega, rfl, Lib.hid (by simp), Below.refl _ _⟩
  case round =>
    obtain ⟨k, hk, rfl, HT, hBr⟩ := hrel
    by_cases hlt : k < xs.length
    · have hlt' : k < ys.length := by have := HLL.out; omega
      obtain ⟨g, o, rfl, hg, _⟩ := hx.lies (by omega)
      obtain ⟨g', o', rfl, hg', _⟩ := hx'.lies (by omega)
      have hwk : IntKind.i64.wrap ((k : Int) + 1) = (k : Int) + 1 := wrap_i64_fr _ (by omega) (by omega)
      have i1 : (0 : Int) ≤ (k : Int) := by omega
      have i2 : (k : Int) < (xs.length : Int) := by omega
      have r1 : ∀ W, Below wr.heap.size wr W → W.rangeAt g (o + k * 65) (lsC xs[k]) := fun W hW j v hj => ((hBr.trans (hW.mono hBr.size)).cell (p := ⟨g, o + k * 65 + j, none⟩) hg).trans (InW.elem ⟨hw, hx⟩ k hlt j v hj)
      have r2 : ∀ W, Below wr.heap.size wr W → W.rangeAt g' (o' + k * 65) (lsC ys[k]) := fun W hW j v hj => ((hBr.trans (hW.mono hBr.size)).cell (p := ⟨g', o' + k * 65 + j, none⟩) hg').trans (InW.elem ⟨hw', hx'⟩ k hlt' j v hj)
      have HNX : xs[k] = ys[k] → Hid (xs.take (k + 1) = ys.take (k + 1)) := fun e => Lib.hid (by rw [List.take_succ_eq_append_getElem hlt, List.take_succ_eq_append_getElem hlt', HT.out, e])
      have HNE : ¬ xs[k] = ys[k] → Hid (¬ xs = ys) := fun e => Lib.hid (fun h => e (by subst h; rfl))
      have hx64 := hw _ (List.getElem_mem hlt)
      have hy64 := hw' _ (List.getElem_mem hlt')
      generalize xs[k] = x at *
      generalize ys[k] = y at *
      have lx := lsC_length hx64
      have ly := lsC_length hy64
      have hSd : wr.drew.rangeAt g (o + k * 65) (lsC x) ∧ wr.drew.rangeAt g' (o' + k * 65) (lsC y) := ⟨r1 _ (Below.refl _ wr).drew, r2 _ (Below.refl _ wr).drew⟩
      go_wp2
      refine RegF.start (fun W => W.rangeAt g (o + k * 65) (lsC x) ∧ W.rangeAt g' (o' + k * 65) (lsC y)) 99 (by kernel_rfl) ?_
      refine RegF.take0 0 (.slice (some ⟨g, o, none⟩) xs.length c) rfl (by kernel_rfl) (by kernel_rfl) (by kernel_rfl) rfl (fun _ _ _ h => h) hSd (RegF.yld rfl (fun W hW => by obtain ⟨hW1, hW2⟩ := hW; go_simp)) ?_
      simp only [List.getElem_toArray, List.getElem_cons_zero, Act.put, List.setIfInBounds_toArray, List.set_cons_zero, List.set_cons_succ]
      refine RegF.take0 1 (.int .i64 (k : Int)) rfl (by kernel_rfl) (by kernel_rfl) (by kernel_rfl) rfl (fun _ _ _ h => h) hSd (RegF.yld rfl (fun W hW => by obtain ⟨hW1, hW2⟩ := hW; go_simp)) ?_
      simp only [List.getElem_toArray, List.getElem_cons_succ, List.getElem_cons_zero, Act.put, List.setIfInBounds_toArray, List.set_cons_zero, List.set_cons_succ]
      refine RegF.take0 2 (.pointer (some ⟨g, o + k * 65, none⟩)) rfl (by kernel_rfl) (by kernel_rfl) (by kernel_rfl) rfl (fun _ _ _ h => h) hSd (RegF.yld rfl (fun W hW => by obtain ⟨hW1, hW2⟩ := hW; go_simp)) ?_
      simp only [List.getElem_toArray, List.getElem_cons_succ, List.getElem_cons_zero, Act.put, List.setIfInBounds_toArray, List.set_cons_zero, List.set_cons_succ]
      refine RegF.take0 3 (.agg (lsC x).toArray) rfl (by kernel_rfl) (by kernel_rfl) (by kernel_rfl) rfl (fun _ _ _ h => h) hSd (RegF.yld rfl (fun W hW => by obtain ⟨hW1, hW2⟩ := hW; exact x_loadM rowLoose hW1 lx rfl rfl)) ?_
      simp only [List.getElem_toArray, List.getElem_cons_succ, List.getElem_cons_zero, Act.put, List.setIfInBounds_toArray, List.set_cons_zero, List.set_cons_succ]
      refine RegF.take0 4 (.slice (some ⟨g', o', none⟩) xs.length c') rfl (by kernel_rfl) (by kernel_rfl) (by kernel_rfl) rfl (fun _ _ _ h => h) hSd (RegF.yld rfl (fun W hW => by obtain ⟨hW1, hW2⟩ := hW; go_simp)) ?_
      simp only [List.getElem_toArray, List.getElem_cons_succ, List.getElem_cons_zero, Act.put, List.setIfInBounds_toArray, List.set_cons_zero, List.set_cons_succ]
      refine RegF.take0 5 (.int .i64 (k : Int)) rfl (by kernel_rfl) (by kernel_rfl) (by kernel_rfl) rfl (fun _ _ _ h => h) hSd (RegF.yld rfl (fun W hW => by obtain ⟨hW1, hW2⟩ := hW; go_simp)) ?_
      simp only [List.getElem_toArray, List.getElem_cons_succ, List.getElem_cons_zero, Act.put, List.setIfInBounds_toArray, List.set_cons_zero, List.set_cons_succ]
      refine RegF.take0 6 (.pointer (some ⟨g', o' + k * 65, none⟩)) rfl (by kernel_rfl) (by kernel_rfl) (by kernel_rfl) rfl (fun _ _ _ h => h) hSd (RegF.yld rfl (fun W hW => by obtain ⟨hW1, hW2⟩ := hW; go_simp)) ?_
      simp only [List.getElem_toArray, List.getElem_cons_succ, List.getElem_cons_zero, Act.put, List.setIfInBounds_toArray, List.set_cons_zero, List.set_cons_succ]
      refine RegF.take0 7 (.agg (lsC y).toArray) rfl (by kernel_rfl) (by kernel_rfl) (by kernel_rfl) rfl (fun _ _ _ h => h) hSd (RegF.yld rfl (fun W hW => by obtain ⟨hW1, hW2⟩ := hW; exact x_loadM rowLoose hW2 ly rfl rfl)) ?_
      simp only [List.getElem_toArray, List.getElem_cons_succ, List.getElem_cons_zero, Act.put, List.setIfInBounds_toArray, List.set_cons_zero, List.set_cons_succ]
      refine RegF.one 8 (by kernel_rfl) ?_
      by_cases he : x = y
      · have HN := HNX he
        refine RegF.opV (w' := wr.drew) (.bool false) rfl rfl (x_neLs hx64 hy64 rfl rfl rfl (by rw [he]; simp)) ⟨fun _ => hSd, ?_⟩
        simp only [List.getElem_toArray, List.getElem_cons_succ, List.getElem_cons_zero, Act.put, List.setIfInBounds_toArray, List.set_cons_zero, List.set_cons_succ]
        refine RegF.done (by kernel_rfl) ?_
        generalize (lsC x).toArray = ax at *
        generalize (lsC y).toArray = ay at *
        clear HNX HNE he r1 r2 hSd
        go_wp2
        exact ⟨⟨k + 1, by omega, by simp, HN, hBr.drew⟩, by simp [intOf]; omega⟩
      · have HNP := HNE he
        have hr : (!((x.1 : Int) == (y.1 : Int) && x.2 == y.2)) = true := by
          rw [Bool.not_eq_true']
          cases hb : ((x.1 : Int) == (y.1 : Int) && x.2 == y.2) with
          | false => rfl
          | true =>
            simp only [Bool.and_eq_true, beq_iff_eq] at hb
            exact absurd (Prod.ext (by omega) hb.2) he
        refine RegF.opV (w' := wr.drew) (.bool true) rfl rfl (x_neLs hx64 hy64 rfl rfl rfl hr) ⟨fun _ => hSd, ?_⟩
        simp only [List.getElem_toArray, List.getElem_cons_succ, List.getElem_cons_zero, Act.put, List.setIfInBounds_toArray, List.set_cons_zero, List.set_cons_succ]
        refine RegF.done (by kernel_rfl) ?_
        generalize (lsC x).toArray = ax at *
        generalize (lsC y).toArray = ay at *
        clear HNX HNE he r1 r2 hSd hr
        go_wp2
        go_ret
        exact ⟨false, rfl, hBr.drew, (fun e => by cases e), fun hP => absurd hP HNP.out⟩
    · obtain rfl : k = xs.length := by omega
      have he : Hid (xs = ys) := Lib.hid (by
        have h1 := HT.out
        rw [List.take_length, HLL.out, List.take_length] at h1
        exact h1)
      go_wp2
      go_ret
      exact ⟨true, rfl, hBr, fun _ => he.out, fun _ => rfl⟩
end Go.Proofs.Ytlelckdcmlpmdaa
/- disk: maps.Equal of sectors. -/
namespace Go.Proofs.Ytlelckdcmlpmdaa
open Go Go.RowKit Lou

/-- Lists without twins. -/
theorem nodup_le {α : Type} [DecidableEq α] : ∀ (l m : List α), l.Nodup → (∀ x ∈ l, x ∈ m) → l.length ≤ m.length
  | [], _, _, _ => Nat.zero_le _
  | a :: l, m, hn, hs => by
    obtain ⟨h1, h2⟩ := List.nodup_cons.1 hn
    have ha := hs a (List.mem_cons_self ..)
    have := nodup_le l (m.erase a) h2 fun x hx => (List.mem_erase_of_ne (fun e => by subst e; exact h1 hx)).2 (hs x (List.mem_cons_of_mem _ hx))
    rw [List.length_erase_of_mem ha] at this
    have : 0 < m.length := List.length_pos_of_mem ha
    rw [List.length_cons]
    omega
theorem nodup_back {α : Type} [DecidableEq α] (l m : List α) (hn : l.Nodup) (hs : ∀ x ∈ l, x ∈ m) (hl : m.length ≤ l.length) : ∀ x ∈ m, x ∈ l := fun x hx => by
  by_cases h : x ∈ l
  · exact h
  · have := nodup_le l (m.erase x) hn fun y hy => (List.mem_erase_of_ne (fun e => by subst e; exact h hy)).2 (hs y hy)
    rw [List.length_erase_of_mem hx] at this
    have : 0 < m.length := List.length_pos_of_mem hx
    omega
/-- A map's keys. -/
def keyN (e : MapEntry) : Nat := match e.key with | .int _ k => k.toNat | _ => 0
def keysN (es : Array MapEntry) : List Nat := es.toList.map keyN
theorem keyN_of {e : MapEntry} {k : Nat} (h : e.key = .int .i64 (k : Int)) : keyN e = k := by unfold keyN; rw [h]; simp
theorem Ents.nodup {es : Array MapEntry} {f : Nat → Option (List UInt8)} (h : Ents es f) : (keysN es).Nodup := by
  unfold keysN
  refine List.pairwise_iff_getElem.2 fun i j hi hj hij => ?_
  rw [List.length_map] at hi hj
  rw [List.getElem_map, List.getElem_map]
  intro e
  obtain ⟨k, l, h1, h2, _⟩ := h.keys i es.toList[i] (by rw [← Array.getElem?_toList]; exact List.getElem?_eq_getElem hi)
  obtain ⟨k', l', h3, h4, _⟩ := h.keys j es.toList[j] (by rw [← Array.getElem?_toList]; exact List.getElem?_eq_getElem hj)
  rw [keyN_of h2, keyN_of h4] at e
  subst e
  have := h.inj i j _ _ (by rw [← Array.getElem?_toList]; exact List.getElem?_eq_getElem hi) (by rw [← Array.getElem?_toList]; exact List.getElem?_eq_getElem hj) (h2.trans h4.symm)
  omega
theorem Ents.mem {es : Array MapEntry} {f : Nat → Option (List UInt8)} (h : Ents es f) (k : Nat) : k ∈ keysN es ↔ f k ≠ none := by
  unfold keysN
  rw [List.mem_map]
  constructor
  · rintro ⟨e, he, rfl⟩
    obtain ⟨i, hi, rfl⟩ := List.getElem_of_mem he
    obtain ⟨k, l, h1, h2, _⟩ := h.keys i es.toList[i] (by rw [← Array.getElem?_toList]; exact List.getElem?_eq_getElem hi)
    rw [keyN_of h2, h1]
    simp
  · intro hf
    cases hk : f k with
    | none => exact absurd hk hf
    | some l =>
      obtain ⟨i, e, h1, h2, _⟩ := h.all k l hk
      exact ⟨e, Array.mem_toList_iff.2 (Array.mem_of_getElem? h1), keyN_of h2⟩
theorem keysN_length (es : Array MapEntry) : (keysN es).length = es.size := by unfold keysN; rw [List.length_map]; rfl
/-- Two maps tell the same. -/
theorem ents_same {es es' : Array MapEntry} {g g' : Nat → List UInt8} (h : Ents es (spar g)) (h' : Ents es' (spar g')) (hs : es.size = es'.size) (hall : ∀ e ∈ es.toList, ∃ k : Nat, e.key = .int .i64 (k : Int) ∧ g k = g' k) : ∀ k, g k = g' k := by
  have hsub : ∀ k ∈ keysN es, k ∈ keysN es' := fun k hk => by
    obtain ⟨e, he, rfl⟩ := List.mem_map.1 hk
    obtain ⟨k, h1, h2⟩ := hall e he
    have hm := (h.mem (keyN e)).1 hk
    rw [keyN_of h1] at hm ⊢
    rw [h'.mem]
    unfold spar at hm ⊢
    rw [← h2]
    exact hm
  have hback := nodup_back _ _ h.nodup hsub (by rw [keysN_length, keysN_length, hs]; exact Nat.le_refl _)
  have hout : ∀ k, k ∉ keysN es → g k = zer64 := fun k hk => by
    have := mt (h.mem k).2 hk
    unfold spar at this
    by_cases e : g k = zer64
    · exact e
    · rw [if_neg e] at this; simp at this
  have hout' : ∀ k, k ∉ keysN es' → g' k = zer64 := fun k hk => by
    have := mt (h'.mem k).2 hk
    unfold spar at this
    by_cases e : g' k = zer64
    · exact e
    · rw [if_neg e] at this; simp at this
  intro k
  by_cases hk : k ∈ keysN es
  · obtain ⟨e, he, hek⟩ := List.mem_map.1 hk
    obtain ⟨k2, h1, h2⟩ := hall e he
    rw [keyN_of h1] at hek
    subst hek
    exact h2
  · rw [hout k hk, hout' k (fun h2 => hk (hback k h2))]
theorem ents_size {es es' : Array MapEntry} {g g' : Nat → List UInt8} (h : Ents es (spar g)) (h' : Ents es' (spar g')) (he : ∀ k, g k = g' k) : es.size = es'.size := by
  have : g = g' := funext he
  subst this
  have h1 := nodup_le _ _ h.nodup (fun x hx => (h'.mem x).2 ((h.mem x).1 hx))
  have h2 := nodup_le _ _ h'.nodup (fun x hx => (h.mem x).2 ((h'.mem x).1 hx))
  rw [keysN_length, keysN_length] at h1 h2
  omega
section
variable {ρ : Operand → Value} {w : World} {o : Oper} {x y : Operand} {r k clock : Nat} {es : Array MapEntry}
set_option maxRecDepth 100000 in
theorem x_lenMap (hm : w.heap[r]? = some (.map es clock)) (ho : o.op = .call { callee := .builtin .len, args := #[x], argTypes := #[151] }) (h1 : ρ x = .map (some r)) : (execOp ρ o).run Try.prog w = .ok (.value (.int .i64 (es.size : Int))) w := by
  have hr := run_len_map (P := Try.prog) w 151 o.type r es clock Try.underlying151 hm
  simp only [execOp, ho, resolve, invoke, builtin, Sem.run_bind, Sem.run_pure, Result.andThen_ok, List.map_toArray, List.map_cons, List.map_nil, h1, hr]
  rfl
theorem x_neSec {xs ys : List UInt8} (hx1 : xs.length = 64) (hy1 : ys.length = 64) {T : TypeId} (ho : o.op = .binOp .neq 162 x y T) (h1 : ρ x = secV xs) (h2 : ρ y = secV ys) {b : Bool} (hb : (!(xs == ys)) = b) : (execOp ρ o).run Try.prog w = .ok (.value (.bool b)) w := by
  subst hb
  unfold secV at h1 h2
  have h := run_eql_bytes (P := Try.prog) w 162 5 64 Try.underlying162 Try.underlying5 (fun w => by simp [go_sem]) xs ys hx1 hy1
  have hr : (binOp .neq 162 (.agg (xs.map b8).toArray) (.agg (ys.map b8).toArray)).run Try.prog w = .ok (.bool (!(xs == ys))) w := by
    have h' : (binOp .eql 162 (.agg (xs.map b8).toArray) (.agg (ys.map b8).toArray)).run Try.prog w = .ok (.bool (xs == ys)) w := h
    rw [run_eql_struct] at h'
    rw [run_neq_struct]
    generalize (Op.equalIn 10000 162 (.agg (xs.map b8).toArray) (.agg (ys.map b8).toArray)).run Try.prog w = res at h' ⊢
    cases res with
    | ok b w1 =>
      simp only [Result.andThen_ok, Result.ok.injEq, Value.bool.injEq] at h' ⊢
      obtain ⟨rfl, rfl⟩ := h'
      exact ⟨rfl, rfl⟩
    | halt a b => cases h'
  have hm : Try.prog.eqGuardType Try.prog.depth 162 = false := by kernel_rfl
  simp only [execOp, ho, h1, h2, Sem.run_bind, run_eqGuard_agg w .neq 162 x y _ _ hm, Result.andThen_ok, hr, Sem.run_pure]
set_option maxRecDepth 100000 in
/-- m[k], and whether it is there. -/
theorem x_lookup2 {g : Nat → List UInt8} (h : MapF w r g) (ho : o.op = .lookup 151 x y true) (h1 : ρ x = .map (some r)) (h2 : ρ y = .int .i64 (k : Int)) {b : Bool} (hb : decide (¬ g k = zer64) = b) : (execOp ρ o).run Try.prog w = .ok (.value (.tuple #[secV (g k), .bool b])) w := by
  subst hb
  obtain ⟨es, clock, hm, he, _⟩ := h.lies
  have hk : MapKept.IsKey (.int .i64) (.int .i64 (k : Int)) := rfl
  have hc : (Instr.checkKey es.isEmpty 10000 3 (.int .i64 (k : Int))).run Try.prog w = .ok () w := MapKept.run_checkKey Try.underlying3 hk _ 9999
  have hm' : w.heap[r]? = some (.map es clock) := hm
  rcases he.find k with ⟨hf, hn⟩ | ⟨j, e, l0, hf, hj, hek, hfk, hv⟩
  · have hz : g k = zer64 := by
      unfold spar at hn
      split at hn
      · assumption
      · cases hn
    rw [hz]
    have zv : (zeroValue 162).run Try.prog w = .ok (secV zer64) w := by
      simp [go_sem]
      kernel_rfl
    simp [execOp, ho, h1, h2, Instr.lookup, run_underlying Try.underlying151, MapKept.run_getObj_map hm', hc, MapKept.run_findKey Try.underlying3 hf, zv, Result.andThen]
  · have hnz : ¬ g k = zer64 := by
      unfold spar at hfk
      split at hfk
      · cases hfk
      · assumption
    have hg : l0 = g k := by
      unfold spar at hfk
      rw [if_neg hnz] at hfk
      injection hfk with hfk
      exact hfk.symm
    subst hg
    rw [← hv]
    simp [execOp, ho, h1, h2, Instr.lookup, run_underlying Try.underlying151, MapKept.run_getObj_map hm', hc, MapKept.run_findKey Try.underlying3 hf, Result.andThen, hnz]
theorem x_range (hm : w.heap[r]? = some (.map es clock)) {T : TypeId} {kt et : TypeId} (hT : Try.prog.underlying T = some (.map kt et)) (ho : o.op = .range T x) (h1 : ρ x = .map (some r)) : (execOp ρ o).run Try.prog w = .ok (.value (.pointer (some ⟨w.heap.size, 0, none⟩))) (w.alloc (.mapIter (some r) clock #[] clock)) := by
  have := run_range_map (P := Try.prog) w T kt et r es clock hT hm
  simp only [execOp, ho, h1, Sem.run_bind, this, Result.andThen_ok, Sem.run_pure]
theorem x_next {v : Value} {w' : World} (hr : (Instr.next (ρ x) false o.type).run Try.prog w = .ok v w') (ho : o.op = .next x false) : (execOp ρ o).run Try.prog w = .ok (.value v) w' := by
  simp only [execOp, ho, Sem.run_bind, hr, Result.andThen_ok, Sem.run_pure]
theorem x_entry {v : Value} {w' : World} (hr : (Instr.entry (ρ x)).run Try.prog w = .ok v w') (ho : o.op = .entry x) : (execOp ρ o).run Try.prog w = .ok (.value v) w' := by
  simp only [execOp, ho, Sem.run_bind, hr, Result.andThen_ok, Sem.run_pure]
end
end Go.Proofs.Ytlelckdcmlpmdaa
/- disk: maps.Equal of sectors: the walk. -/
namespace Go.Proofs.Ytlelckdcmlpmdaa
open Go Go.RowKit Lou

/-- A loop over a map is under way: its iterator lies at r. -/
def IterAt (w : World) (r m since : Nat) (seen : Array Nat) : Prop := ∃ c0, w.heap[r]? = some (.mapIter (some m) since seen c0) ∧ since ≤ c0
theorem setBlock_below {w w1 : World} {B r : Nat} {o : Obj} (h : w1 = w ∨ w1 = w.drew) (hr : B ≤ r) : Below B w (ChangeMaps.setBlock w1 r o) := by
  rcases h with rfl | rfl
  · exact ⟨rfl, rfl, rfl, by simp [ChangeMaps.setBlock], fun k hk => by simp [ChangeMaps.setBlock]; rw [Array.getElem?_setIfInBounds_ne (by omega)]; try rfl⟩
  · exact ⟨rfl, rfl, rfl, by simp [ChangeMaps.setBlock], fun k hk => by simp [ChangeMaps.setBlock]; rw [Array.getElem?_setIfInBounds_ne (by omega)]; try rfl⟩
/-- The step: nothing is left, or an entry comes. -/
theorem iter_next {w : World} {r m since clock : Nat} {seen : Array Nat} {es : Array MapEntry} (ty : TypeId) (h : IterAt w r m since seen) (hm : w.heap[m]? = some (.map es clock)) (hold : ∀ x ∈ es.toList, x.born < since) (hc : since ≤ clock) (hst : MapKept.Stamped es clock) (hne : m < r) (hr : r < w.heap.size) :
    ((∀ x ∈ es.toList, seen.contains x.born = true) ∧ (Instr.next (.pointer (some ⟨r, 0, none⟩)) false ty).run Try.prog w = .ok (.tuple #[.bool false]) w) ∨
    ∃ e, ∃ w' : World, e ∈ es.toList ∧ seen.contains e.born = false ∧ (Instr.next (.pointer (some ⟨r, 0, none⟩)) false ty).run Try.prog w = .ok (.tuple #[.bool true, e.key, e.val]) w' ∧ IterAt w' r m since (seen.push e.born) ∧ Below r w w' ∧ w'.rangeLeft m r < w.rangeLeft m r ∧
      (Instr.entry (.pointer (some ⟨r, 0, none⟩))).run Try.prog w' = .ok (.tuple #[e.key, e.val]) w' := by
  obtain ⟨c0, hi, hs⟩ := h
  rcases run_next_at (P := Try.prog) w ty r m since c0 seen es clock hi hm hold hs with ⟨h0, hrun⟩ | ⟨e, he, w1, hal, hrun⟩
  · exact .inl ⟨all_seen es seen h0, hrun⟩
  · obtain ⟨hem, hes⟩ := mem_left he
    have hi1 : w1.heap[r]? = some (.mapIter (some m) since seen c0) := by rcases hal with rfl | rfl <;> exact hi
    have hm1 : w1.heap[m]? = some (.map es clock) := by rcases hal with rfl | rfl <;> exact hm
    have hset := MapKept.heap_set (o' := .mapIter (some m) since (seen.push e.born) clock) hi1
    have hm2 : (ChangeMaps.setBlock w1 r (.mapIter (some m) since (seen.push e.born) clock)).heap[m]? = some (.map es clock) := (hset.2 m (by omega)).trans hm1
    refine .inr ⟨e, _, hem, hes, hrun, ⟨clock, hset.1, hc⟩, setBlock_below hal (Nat.le_refl _), ?_, run_entry_at _ r m since seen es clock e hset.1 hm2 hem ((MapKept.stamped_iff es clock).1 hst).2.1⟩
    have e1 : (ChangeMaps.setBlock w1 r (.mapIter (some m) since (seen.push e.born) clock)).rangeLeft m r = (leftOf es (seen.push e.born)).size := by
      unfold World.rangeLeft
      have h1 : (ChangeMaps.setBlock w1 r (.mapIter (some m) since (seen.push e.born) clock)).heap[r]? = _ := hset.1
      rw [hm2, h1]
    have e2 : w.rangeLeft m r = (leftOf es seen).size := by
      unfold World.rangeLeft
      rw [hm, hi]
    rw [e1, e2]
    exact left_shrinks es seen e he
/-- A new box of a sector. -/
theorem newSec (W : World) (l : List UInt8) : BlkIs ((W.alloc (.cells (zer64.map b8).toArray 162)).setRow W.heap.size (l.map b8).toArray) W.heap.size 162 (l.map b8).toArray ∧ Below W.heap.size W ((W.alloc (.cells (zer64.map b8).toArray 162)).setRow W.heap.size (l.map b8).toArray) :=
  ⟨(BlkIs.new W 162 (zer64.map b8).toArray).setRow _, below_setRow ((Below.refl _ W).alloc (Nat.le_refl _) _) (Nat.le_refl _) _⟩
set_option maxRecDepth 100000 in
set_option maxHeartbeats 4000000 in
theorem meq_gives (w : World) (r1 r2 : Nat) (g1 g2 : Nat → List UInt8) (h1 : MapF w r1 g1) (h2 : MapF w r2 g2) : Calls Try.prog 156 #[.map (some r1), .map (some r2)] w (YesR w (∀ k, g1 k = g2 k)) := by
  obtain ⟨es, clock, hm, he, hst⟩ := h1.lies
  obtain ⟨es', clock', hm', he', _⟩ := h2.lies
  have hlt := h1.lt
  unfold YesR
  by_cases hs : es.size = es'.size
  case neg =>
    have HNE := Lib.hid (fun e : ∀ k, g1 k = g2 k => hs (ents_size he he' e))
    have hs2 : ¬ (es.size : Int) = (es'.size : Int) := by omega
    clear hs
    go_enter Try.func156, Try.ntmps156
    go_wp2_with (first
      | (refine wp_exec rfl (x_lenMap hm rfl rfl) ?_)
      | (refine wp_exec rfl (x_lenMap hm' rfl rfl) ?_))
    go_ret
    exact ⟨false, rfl, Below.refl _ _, (fun e => by cases e), fun e => absurd e HNE.out⟩
  have hs2 : (es.size : Int) = (es'.size : Int) := by omega
  have HEQ : (∀ e ∈ es.toList, ∃ k : Nat, e.key = .int .i64 (k : Int) ∧ g1 k = g2 k) → Hid (∀ k, g1 k = g2 k) := fun h => Lib.hid (ents_same he he' hs h)
  have hW1 : (w.alloc (.mapIter (some r1) clock #[] clock)).heap[w.heap.size]? = some (.mapIter (some r1) clock #[] clock) := heap_alloc_new w _
  have hB1 : Below w.heap.size w (w.alloc (.mapIter (some r1) clock #[] clock)) := (Below.refl _ w).alloc (Nat.le_refl _) _
  have hsz1 : w.heap.size < (w.alloc (.mapIter (some r1) clock #[] clock)).heap.size := by rw [World.size_alloc]; omega
  have HKEY : ∀ e ∈ es.toList, ∃ k : Nat, e.key = .int .i64 (k : Int) ∧ e.val = secV (g1 k) ∧ ¬ g1 k = zer64 := fun e hem => by
    obtain ⟨i, hi, rfl⟩ := List.getElem_of_mem hem
    obtain ⟨k, l, q1, q2, q3⟩ := he.keys i es.toList[i] (by rw [← Array.getElem?_toList]; exact List.getElem?_eq_getElem hi)
    unfold spar at q1
    split at q1
    · cases q1
    · rename_i hz
      injection q1 with q1
      subst q1
      exact ⟨k, q2, q3, hz⟩
  have hcl : ∀ x ∈ es.toList, x.born < clock := ((MapKept.stamped_iff es clock).1 hst).1
  have hnd := ((MapKept.stamped_iff es clock).1 hst).2.1
  have HEQ := Lib.hid HEQ
  have HS2 := Lib.hid hs2
  clear hs he' hs2
  go_enter Try.func156, Try.ntmps156
  go_wp2_with (first
    | (refine wp_exec rfl (x_lenMap hm rfl rfl) ?_)
    | (refine wp_exec rfl (x_lenMap hm' rfl rfl) ?_; rw [← HS2.out])
    | (refine wp_exec rfl (x_range hm Try.underlying151 rfl rfl) ?_))
  simp only [Act.put, List.setIfInBounds_toArray, List.set_cons_zero, List.set_cons_succ]
  go_loopw [16] (fun _ wr => ∃ seen : Array Nat, IterAt wr w.heap.size r1 clock seen ∧ Below w.heap.size w wr ∧ w.heap.size < wr.heap.size ∧ Hid (∀ e ∈ es.toList, seen.contains e.born = true → ∃ k : Nat, e.key = .int .i64 (k : Int) ∧ g1 k = g2 k)) (fun _ wr => wr.rangeLeft r1 w.heap.size)
  case atStart => exact ⟨#[], ⟨clock, hW1, Nat.le_refl _⟩, hB1, hsz1, Lib.hid (fun e _ h => by simp at h)⟩
  case round =>
    obtain ⟨seen, hit, hBr, hsz, HA⟩ := hrel
    have hmr : wr.heap[r1]? = some (.map es clock) := (hBr.block r1 hlt).trans hm
    rcases iter_next 0 hit hmr hcl (Nat.le_refl _) hst hlt hsz with ⟨hall, hrun⟩ | ⟨e, w2, hem, hes, hrun, hit2, hB2, hdec, hent⟩
    · have HE := HEQ.out (fun e hem => HA.out e hem (hall e hem))
      go_wp2_with (refine wp_exec rfl (x_next hrun rfl) ?_)
      go_ret
      exact ⟨true, rfl, hBr, fun _ => HE.out, fun _ => rfl⟩
    · obtain ⟨k, hek, hev, hz⟩ := HKEY e hem
      rw [hek, hev] at hrun hent
      have hBr2 := hBr.trans hB2
      have hsz2 : w.heap.size < w2.heap.size := Nat.lt_of_lt_of_le hsz hB2.size
      have hM2 : MapF w2 r2 g2 := (h2.below hBr h2.lt).below hB2 h2.lt
      have hl1 := h1.len k
      have hl2 := h2.len k
      have HAe : g1 k = g2 k → Hid (∀ e' ∈ es.toList, (seen.push e.born).contains e'.born = true → ∃ k : Nat, e'.key = .int .i64 (k : Int) ∧ g1 k = g2 k) := fun heq => Lib.hid (fun e' he' hc => by
        rw [contains_push, Bool.or_eq_true] at hc
        rcases hc with hc | hc
        · exact HA.out e' he' hc
        · have hb : e'.born = e.born := by simpa using hc
          obtain rfl := born_inj hnd he' hem hb
          exact ⟨k, hek, heq⟩)
      have HNE : ¬ g1 k = g2 k → Hid (¬ ∀ k, g1 k = g2 k) := fun hne => Lib.hid (fun h => hne (h k))
      obtain ⟨b3, hB3⟩ := newSec w2 (g1 k)
      have hM3 := hM2.grow hB3
      generalize hg1 : g1 k = l1 at *
      generalize hg2 : g2 k = l2 at *
      have HG2 := Lib.hid hg2
      have hz64 : ((zer64.map b8).toArray).size = 64 := by decide
      have hs1 : ((l1.map b8).toArray).size = ((zer64.map b8).toArray).size := by rw [hz64]; simp [hl1]
      have hs2 : ((l2.map b8).toArray).size = ((zer64.map b8).toArray).size := by rw [hz64]; simp [hl2]
      have hit3 : ∀ W, Below w2.heap.size w2 W → IterAt W w.heap.size r1 clock (seen.push e.born) := fun W hW => by
        obtain ⟨c0, q1, q2⟩ := hit2
        exact ⟨c0, (hW.block _ hsz2).trans q1, q2⟩
      have hleft : ∀ W, Below w2.heap.size w2 W → W.rangeLeft r1 w.heap.size = w2.rangeLeft r1 w.heap.size := fun W hW => by
        unfold World.rangeLeft
        rw [hW.block _ hsz2, hW.block r1 (Nat.lt_trans hlt hsz2)]
      have HZ64 := Lib.hid hz64
      have HS1 := Lib.hid hs1
      have HS2' := Lib.hid hs2
      clear hg1 hg2 hz64 hs1 hs2
      go_upto_region 6 with (first
        | (refine wp_exec rfl (x_next hrun rfl) ?_)
        | (refine wp_exec rfl (x_entry hent rfl) ?_)
        | (refine wp_exec rfl (x_allocSec rfl) ?_)
        | (refine wp_storeW rfl 162 (.tmp 6) (.tmp 20) rfl w2.heap.size rfl rfl rowDSec (BlkIs.new w2 162 (zer64.map b8).toArray) HZ64.out HS1.out (b8_one _) ?_))
      obtain ⟨W3, hW3⟩ : ∃ W, (w2.alloc (.cells (zer64.map b8).toArray 162)).setRow w2.heap.size (l1.map b8).toArray = W := ⟨_, rfl⟩
      rw [hW3] at b3 hB3 hM3
      rw [hW3]
      clear hW3 hrun hent
      obtain ⟨b4, hB4⟩ := newSec W3 l2
      have b34 := b3.below hB4 b3.lt
      have hB24 := hB3.trans (hB4.mono hB3.size)
      have hlk : ∀ (ρ : Operand → Value) (o : Oper) (x y : Operand) (b : Bool), o.op = .lookup 151 x y true → ρ x = .map (some r2) → ρ y = .int .i64 (k : Int) → decide (¬ l2 = zer64) = b → (execOp ρ o).run Try.prog W3 = .ok (.value (.tuple #[secV l2, .bool b])) W3 := fun ρ o x y b q1 q2 q3 q4 => by
        have := x_lookup2 (ρ := ρ) (k := k) hM3 q1 q2 q3 (b := b) (by rw [HG2.out]; exact q4)
        rw [HG2.out] at this
        exact this
      by_cases hz2 : l2 = zer64
      · have HNP := HNE (fun e => hz (by rw [e, hz2]))
        have hdb : decide (¬ l2 = zer64) = false := by simp [hz2]
        clear hz2
        go_upto_region 7 with (first
          | (refine wp_exec rfl (hlk _ _ _ _ false rfl rfl rfl hdb) ?_)
          | (refine wp_exec rfl (x_allocSec rfl) ?_)
          | (refine wp_storeW rfl 162 (.tmp 7) (.tmp 25) rfl W3.heap.size rfl rfl rowDSec (BlkIs.new W3 162 (zer64.map b8).toArray) HZ64.out HS2'.out (b8_one _) ?_))
        obtain ⟨W4, hW4⟩ : ∃ W, (W3.alloc (.cells (zer64.map b8).toArray 162)).setRow W3.heap.size (l2.map b8).toArray = W := ⟨_, rfl⟩
        rw [hW4] at b4 hB4 b34 hB24
        rw [hW4]
        clear hW4 hlk
        go_wp2
        go_ret
        exact ⟨false, rfl, hBr2.trans (hB24.mono hBr2.size), (fun e => by cases e), fun hP => absurd hP HNP.out⟩
      · have hdb : decide (¬ l2 = zer64) = true := by simp [hz2]
        clear hz2
        go_upto_region 7 with (first
          | (refine wp_exec rfl (hlk _ _ _ _ true rfl rfl rfl hdb) ?_)
          | (refine wp_exec rfl (x_allocSec rfl) ?_)
          | (refine wp_storeW rfl 162 (.tmp 7) (.tmp 25) rfl W3.heap.size rfl rfl rowDSec (BlkIs.new W3 162 (zer64.map b8).toArray) HZ64.out HS2'.out (b8_one _) ?_))
        obtain ⟨W4, hW4⟩ : ∃ W, (W3.alloc (.cells (zer64.map b8).toArray 162)).setRow W3.heap.size (l2.map b8).toArray = W := ⟨_, rfl⟩
        rw [hW4] at b4 hB4 b34 hB24
        rw [hW4]
        clear hW4 hlk
        have ld1 : ∀ (ρ : Operand → Value) (o : Oper) (x : Operand), o.op = .load 162 x → ρ x = .pointer (some ⟨w2.heap.size, 0, none⟩) → (execOp ρ o).run Try.prog W4 = .ok (.value (secV l1)) W4 := fun ρ o x q1 q2 => x_loadM rowDSec b34.range (by rw [← HZ64.out, ← HS1.out]; rfl) q1 q2
        have ld2 : ∀ (ρ : Operand → Value) (o : Oper) (x : Operand), o.op = .load 162 x → ρ x = .pointer (some ⟨W3.heap.size, 0, none⟩) → (execOp ρ o).run Try.prog W4 = .ok (.value (secV l2)) W4 := fun ρ o x q1 q2 => x_loadM rowDSec b4.range (by rw [← HZ64.out, ← HS2'.out]; rfl) q1 q2
        by_cases hll : l1 = l2
        · have HN := HAe hll
          have hq : (!(l1 == l2)) = false := by rw [hll]; simp
          clear HNE HAe hz hll
          go_wp2_with (first
            | (refine wp_execG (by first | rfl | simp [Region.wanted, yielded]) (ld1 _ _ _ rfl rfl) ?_)
            | (refine wp_execG (by first | rfl | simp [Region.wanted, yielded]) (ld2 _ _ _ rfl rfl) ?_)
            | (refine wp_execG (by first | rfl | simp [Region.wanted, yielded]) (x_neSec hl1 hl2 rfl rfl rfl hq) ?_))
          exact ⟨⟨seen.push e.born, hit3 _ hB24, hBr2.trans (hB24.mono hBr2.size), Nat.lt_of_lt_of_le hsz2 hB24.size, HN⟩, by rw [hleft _ hB24]; exact hdec⟩
        · have HNP := HNE hll
          have hq : (!(l1 == l2)) = true := by simpa using hll
          clear HNE HAe hz hll
          go_wp2_with (first
            | (refine wp_execG (by first | rfl | simp [Region.wanted, yielded]) (ld1 _ _ _ rfl rfl) ?_)
            | (refine wp_execG (by first | rfl | simp [Region.wanted, yielded]) (ld2 _ _ _ rfl rfl) ?_)
            | (refine wp_execG (by first | rfl | simp [Region.wanted, yielded]) (x_neSec hl1 hl2 rfl rfl rfl hq) ?_))
          go_ret
          exact ⟨false, rfl, hBr2.trans (hB24.mono hBr2.size), (fun e => by cases e), fun hP => absurd hP HNP.out⟩
end Go.Proofs.Ytlelckdcmlpmdaa
