/- Texts that the proof of DiskCopies leans on, part 4. -/
import Derived.Deep.DeepCutAuto
import Derived.Deep.CutBlock
import Derived.Test.YtlelckdcmlpmdaaDiskCopiesB3
/- louperef04: New, done, Stop, Sector, Read, Write, Sync. -/
namespace Go.Proofs.Ytlelckdcmlpmdaa
open Go Go.RowKit Lou

section
variable {w : World} {ops : Array Oper} {i : Nat} {o : Oper} {a : Act} {Q : Exit → Act → World → Prop} {K : Act → World → Prop}
theorem opAppR (ho : ops[i]? = some o) (hgd : o.guard = none) {S T : TypeId} {sz by_ : Nat} {z : Value} (hT : ElT S T sz by_ z) (s x : Operand) (hc : o.op = .call { callee := .builtin .append, args := #[s, x], argTypes := #[S, S] })
    (base : Nat) (v : Value) (n : Nat) (cs : List Value) (hs : a.eval s = v) (hown : w.ownsRow base T sz v n cs) (B : Nat) (A : Option Addr) (m c : Nat) (cs2 : List Value) (hx : a.eval x = .slice A m c) (hin : InG w B sz A m c cs2)
    (hm : n + m ≤ maxLen) (hbytes : (n + m) * by_ ≤ 140737488355328) (hbase : base ≤ w.heap.size)
    (h : ∀ v' w', w'.ownsRow base T sz v' (n + m) (cs ++ cs2) → w.grownBy w' v.ownBlock → K (a.put o.dst v') w') : wpOp Try.prog ops Q i K a w := by
  obtain ⟨v', w', hr, h2, h3⟩ := run_appG (w := w) o.type hT base v n cs hown B A m c cs2 hin hm hbytes hbase
  refine RegF.opV v' ho hgd (w' := w') ?_ (h v' w' h2 h3)
  unfold execOp
  simp only [hc, resolve, invoke, builtin, Sem.run_bind, Sem.run_pure, Result.andThen_ok, List.map_toArray, List.map_cons, List.map_nil, hs, hx, hr]
end
theorem four_oneR {v0 v1 v2 v3 : Value} (h0 : v0.oneCell' = true) (h1 : v1.oneCell' = true) (h2 : v2.oneCell' = true) (h3 : v3.oneCell' = true) : ∀ v ∈ (#[v0, v1, v2, v3] : Array Value).toList, v.oneCell' = true := by
  intro v hv
  simp at hv
  rcases hv with rfl | rfl | rfl | rfl <;> assumption
theorem row_litR (w : World) (T : TypeId) (sz : Nat) (cs : List Value) (hn : cs.length = sz) (h1 : ∀ v ∈ cs, v.oneCell' = true) : InG (w.alloc (.cells cs.toArray T)) (w.alloc (.cells cs.toArray T)).heap.size sz (some ⟨w.heap.size, 0, none⟩) 1 1 cs :=
  ⟨Nat.le_refl _, by omega, (fun e => by cases e), by omega, h1, fun _ => ⟨w.heap.size, 0, rfl, by simp, fun j v hj => by
    rw [(BlkIs.new w T cs.toArray).cell, Nat.zero_add]
    simpa using hj⟩⟩
theorem ownG_rest {w : World} {base r : Nat} {T : TypeId} {sz n : Nat} {v : Value} {xs : List Value} (h : w.ownsRow base T sz v n xs) (hr : r < base) (i : Nat) (u : Value) : (w.setCell ⟨r, i, none⟩ u).ownsRow base T sz v n xs :=
  ownG_later h fun q hq => Below.heap_setCell w ⟨r, i, none⟩ u q (fun e => by have := ownG_ge h q hq; simp at e; omega)
def zeroR : Array Value := #[.int .i64 0, .slice none 0 0, .slice none 0 0, .int .i64 0]
/-- The world in which a method has its box and its result's. -/
def rcW (w : World) (cs : Array Value) : World := (w.alloc (.cells cs 141)).alloc (.cells zeroR 141)
theorem rcW_is (w : World) (cs : Array Value) : BlkIs (rcW w cs) w.heap.size 141 cs ∧ BlkIs (rcW w cs) (w.heap.size + 1) 141 #[.int .i64 0, .slice none 0 0, .slice none 0 0, .int .i64 0] ∧ Below w.heap.size w (rcW w cs) := by
  have b0 := BlkIs.new w 141 cs
  have b2 := BlkIs.new (w.alloc (.cells cs 141)) 141 zeroR
  rw [World.size_alloc] at b2
  exact ⟨b0.alloc _, b2, ((Below.refl _ w).alloc (Nat.le_refl _) _).alloc (by simp) _⟩
def rlft (left : Int) : Int := if 0 < left then left - 1 else left
def VAL (many : Int) (As : Option Addr) (ns cs : Nat) (Al : Option Addr) (nl cl : Nat) (left : Int) : Value := .agg #[.int .i64 many, .slice As ns cs, .slice Al nl cl, .int .i64 left]
set_option maxRecDepth 100000 in
set_option maxHeartbeats 2000000 in
theorem rnew_gives (w : World) (n : Int) : Calls Try.prog 82 #[.int .i64 n] w fun e w' => e = .returned (VAL n none 0 0 none 0 0 (-1)) ∧ Below w.heap.size w w' := by
  have b0 := BlkIs.new w 141 #[.int .i64 0, .slice none 0 0, .slice none 0 0, .int .i64 0]
  have hB : Below w.heap.size w (w.alloc (.cells #[.int .i64 0, .slice none 0 0, .slice none 0 0, .int .i64 0] 141)) := (Below.refl _ w).alloc (Nat.le_refl _) _
  go_enter Try.func82, Try.ntmps82
  go_wp2_with (refine wp_storeW rfl 141 (.tmp 2) (.tmp 4) rfl w.heap.size rfl rfl rowRDisk b0 (by rfl) (by rfl) (four_oneR rfl rfl rfl rfl) ?_)
  exact bodyPost_ret (results_cellW 2 rfl rfl rowRDisk (b0.setRow _) (by rfl)) rfl ⟨rfl, below_setRow hB (Nat.le_refl _) _⟩
set_option maxRecDepth 100000 in
set_option maxHeartbeats 2000000 in
theorem rdone_gives (w : World) (many : Int) (As : Option Addr) (ns cs : Nat) (Al : Option Addr) (nl cl : Nat) (left : Int) (h1 : -1000000 ≤ left) (h2 : left ≤ 9223372036854775807) : Calls Try.prog 185 #[VAL many As ns cs Al nl cl left] w fun e w' => e = .returned (VAL many As ns cs Al nl cl (rlft left)) ∧ Below w.heap.size w w' := by
  obtain ⟨b1, b2, hB1⟩ := rcW_is w #[.int .i64 many, .slice As ns cs, .slice Al nl cl, .int .i64 left]
  unfold VAL at *
  obtain ⟨W1, hW1⟩ : ∃ W1, W1 = rcW w #[.int .i64 many, .slice As ns cs, .slice Al nl cl, .int .i64 left] := ⟨_, rfl⟩
  rw [← hW1] at b1 b2 hB1
  unfold rcW zeroR at hW1
  have HW1 := Lib.hid hW1
  clear hW1
  have a0 : W1.cell? ⟨w.heap.size, 0, none⟩ = some (.int .i64 many) := by rw [b1.cell]; rfl
  have a1 : W1.cell? ⟨w.heap.size, 1, none⟩ = some (.slice As ns cs) := by rw [b1.cell]; rfl
  have a2 : W1.cell? ⟨w.heap.size, 2, none⟩ = some (.slice Al nl cl) := by rw [b1.cell]; rfl
  have a3 : W1.cell? ⟨w.heap.size, 3, none⟩ = some (.int .i64 left) := by rw [b1.cell]; rfl
  have f3 := b1.free 3
  by_cases hl : 0 < left
  · have e : rlft left = left - 1 := if_pos hl
    have hw0 : IntKind.i64.wrap (left - 1) = left - 1 := wrap_i64_fr _ (by omega) (by omega)
    rw [e]
    obtain ⟨l2, hl2⟩ : ∃ x, x = left - 1 := ⟨_, rfl⟩
    have hw : IntKind.i64.wrap (left - 1) = l2 := by rw [hl2]; exact hw0
    rw [← hl2]
    clear hw0 hl2 e
    have b1' := b1.set 3 (.int .i64 l2)
    have b2' := b2.other (p := ⟨w.heap.size, 3, none⟩) (by simp) (.int .i64 l2)
    have hB2 := hB1.setCell (p := ⟨w.heap.size, 3, none⟩) (by simp) (.int .i64 l2)
    clear h1 h2
    go_enter Try.func185, Try.ntmps185
    go_upto_region 1 with fail
    rw [← HW1.out]
    clear HW1
    go_wp2_with (first
      | (refine wp_loadW rfl 141 (.tmp 1) rfl (w.heap.size) rfl rowRDisk b1' (by rfl) ?_)
      | (refine wp_storeW rfl 141 (.tmp 2) (.tmp 10) rfl (w.heap.size + 1) rfl rfl rowRDisk b2' (by rfl) (by rfl) (four_oneR rfl rfl rfl rfl) ?_))
    exact bodyPost_ret (results_cellW 2 rfl rfl rowRDisk (b2'.setRow _) (by rfl)) rfl ⟨rfl, below_setRow hB2 (by omega) _⟩
  · have e : rlft left = left := if_neg hl
    rw [e]
    clear h1 h2
    go_enter Try.func185, Try.ntmps185
    go_upto_region 1 with fail
    rw [← HW1.out]
    clear HW1
    go_wp2_with (first
      | (refine wp_loadW rfl 141 (.tmp 1) rfl (w.heap.size) rfl rowRDisk b1 (by rfl) ?_)
      | (refine wp_storeW rfl 141 (.tmp 2) (.tmp 10) rfl (w.heap.size + 1) rfl rfl rowRDisk b2 (by rfl) (by rfl) (four_oneR rfl rfl rfl rfl) ?_))
    exact bodyPost_ret (results_cellW 2 rfl rfl rowRDisk (b2.setRow _) (by rfl)) rfl ⟨rfl, below_setRow hB1 (by omega) _⟩
set_option maxRecDepth 100000 in
set_option maxHeartbeats 2000000 in
theorem rstop_gives (w : World) (many : Int) (As : Option Addr) (ns cs : Nat) (Al : Option Addr) (nl cl : Nat) (left : Int) (t : Int) : Calls Try.prog 147 #[VAL many As ns cs Al nl cl left, .int .i64 t] w fun e w' => e = .returned (.tuple #[VAL many As ns cs Al nl cl (if t < 0 then left else t), .int .i64 (if t < 0 then 2 else 0)]) ∧ Below w.heap.size w w' := by
  obtain ⟨b1, b2, hB1⟩ := rcW_is w #[.int .i64 many, .slice As ns cs, .slice Al nl cl, .int .i64 left]
  unfold VAL at *
  obtain ⟨W1, hW1⟩ : ∃ W1, W1 = rcW w #[.int .i64 many, .slice As ns cs, .slice Al nl cl, .int .i64 left] := ⟨_, rfl⟩
  rw [← hW1] at b1 b2 hB1
  unfold rcW zeroR at hW1
  have HW1 := Lib.hid hW1
  clear hW1
  have a0 : W1.cell? ⟨w.heap.size, 0, none⟩ = some (.int .i64 many) := by rw [b1.cell]; rfl
  have a1 : W1.cell? ⟨w.heap.size, 1, none⟩ = some (.slice As ns cs) := by rw [b1.cell]; rfl
  have a2 : W1.cell? ⟨w.heap.size, 2, none⟩ = some (.slice Al nl cl) := by rw [b1.cell]; rfl
  have a3 : W1.cell? ⟨w.heap.size, 3, none⟩ = some (.int .i64 left) := by rw [b1.cell]; rfl
  have f3 := b1.free 3
  by_cases hl : t < 0
  · rw [if_pos hl, if_pos hl]
    go_enter Try.func147, Try.ntmps147
    go_upto_region 1 with fail
    rw [← HW1.out]
    clear HW1
    go_wp2_with (first
      | (refine wp_loadW rfl 141 (.tmp 2) rfl (w.heap.size) rfl rowRDisk b1 (by rfl) ?_)
      | (refine wp_storeW rfl 141 (.tmp 4) (.tmp 8) rfl (w.heap.size + 1) rfl rfl rowRDisk b2 (by rfl) (by rfl) (four_oneR rfl rfl rfl rfl) ?_))
    exact bodyPost_ret (results_cellW_tmp 4 5 rfl rfl rfl rowRDisk (b2.setRow _) (by rfl)) rfl ⟨rfl, below_setRow hB1 (by omega) _⟩
  · rw [if_neg hl, if_neg hl]
    have b1' := b1.set 3 (.int .i64 t)
    have b2' := b2.other (p := ⟨w.heap.size, 3, none⟩) (by simp) (.int .i64 t)
    have hB2 := hB1.setCell (p := ⟨w.heap.size, 3, none⟩) (by simp) (.int .i64 t)
    go_enter Try.func147, Try.ntmps147
    go_upto_region 1 with fail
    rw [← HW1.out]
    clear HW1
    go_wp2_with (first
      | (refine wp_loadW rfl 141 (.tmp 2) rfl (w.heap.size) rfl rowRDisk b1' (by rfl) ?_)
      | (refine wp_storeW rfl 141 (.tmp 4) (.tmp 11) rfl (w.heap.size + 1) rfl rfl rowRDisk b2' (by rfl) (by rfl) (four_oneR rfl rfl rfl rfl) ?_))
    exact bodyPost_ret (results_cellW_tmp 4 5 rfl rfl rfl rowRDisk (b2'.setRow _) (by rfl)) rfl ⟨rfl, below_setRow hB2 (by omega) _⟩
set_option maxRecDepth 100000 in
set_option maxHeartbeats 2000000 in
theorem rsector_gives (w : World) (many : Int) (sy ls : List (Nat × List UInt8)) (As : Option Addr) (cs : Nat) (Al : Option Addr) (cl : Nat) (left : Int) (h : RIs w w.heap.size sy ls As cs Al cl) (hn1 : sy.length ≤ 400000) (hn2 : ls.length ≤ 400000) (at_ : Int) : Calls Try.prog 155 #[VAL many As sy.length cs Al ls.length cl left, .int .i64 at_] w fun e w' => e = .returned (.string (str (lastB (sy ++ ls) at_))) ∧ Below w.heap.size w w' := by
  have b1 := BlkIs.new w 141 #[.int .i64 many, .slice As sy.length cs, .slice Al ls.length cl, .int .i64 left]
  have hB1 : Below w.heap.size w (w.alloc (.cells #[.int .i64 many, .slice As sy.length cs, .slice Al ls.length cl, .int .i64 left] 141)) := (Below.refl _ w).alloc (Nat.le_refl _) _
  unfold VAL at *
  obtain ⟨W1, hW1⟩ : ∃ W1, W1 = w.alloc (.cells #[.int .i64 many, .slice As sy.length cs, .slice Al ls.length cl, .int .i64 left] 141) := ⟨_, rfl⟩
  rw [← hW1] at b1 hB1
  have HW1 := Lib.hid hW1
  clear hW1
  have a1 : W1.cell? ⟨w.heap.size, 1, none⟩ = some (.slice As sy.length cs) := by rw [b1.cell]; rfl
  have a2 : W1.cell? ⟨w.heap.size, 2, none⟩ = some (.slice Al ls.length cl) := by rw [b1.cell]; rfl
  have hs := (h.s.below hB1).more hB1.size
  have hl2 := (h.l.below hB1).more hB1.size
  have HP1 : w.heap.size < W1.heap.size := b1.lt
  have HP2 := HP1
  have hlen : sy.length + ls.length = (sy ++ ls).length := by rw [List.length_append]
  have HLen := Lib.hid hlen
  clear hlen h
  go_enter Try.func155, Try.ntmps155
  go_upto_region 1 with fail
  rw [← HW1.out]
  clear HW1
  have hSd : W1.drew.cell? ⟨w.heap.size, 1, none⟩ = some (.slice As sy.length cs) ∧ W1.drew.cell? ⟨w.heap.size, 2, none⟩ = some (.slice Al ls.length cl) := ⟨a1, a2⟩
  have hBd : Below W1.heap.size W1 W1.drew := (Below.refl _ W1).drew
  refine RegF.start (fun W => W.cell? ⟨w.heap.size, 1, none⟩ = some (.slice As sy.length cs) ∧ W.cell? ⟨w.heap.size, 2, none⟩ = some (.slice Al ls.length cl)) 9 (by kernel_rfl) ?_
  refine RegF.take 1 (.pointer (some ⟨w.heap.size, 1, none⟩)) rfl (by kernel_rfl) (by kernel_rfl) (by kernel_rfl) (by kernel_rfl) (fun _ _ _ h => h) hSd (RegF.yld rfl (fun W hW => by obtain ⟨hW1, hW2⟩ := hW; go_simp)) ?_
  simp only [List.getElem_toArray, List.getElem_cons_succ, List.getElem_cons_zero, Act.put, List.setIfInBounds_toArray, List.set_cons_zero, List.set_cons_succ]
  refine RegF.take 2 (.slice As sy.length cs) rfl (by kernel_rfl) (by kernel_rfl) (by kernel_rfl) (by kernel_rfl) (fun _ _ _ h => h) hSd (RegF.yld rfl (fun W hW => by obtain ⟨hW1, hW2⟩ := hW; go_simp)) ?_
  simp only [List.getElem_toArray, List.getElem_cons_succ, List.getElem_cons_zero, Act.put, List.setIfInBounds_toArray, List.set_cons_zero, List.set_cons_succ]
  refine RegF.take 4 (.pointer (some ⟨w.heap.size, 2, none⟩)) rfl (by kernel_rfl) (by kernel_rfl) (by kernel_rfl) (by kernel_rfl) (fun _ _ _ h => h) hSd (RegF.yld rfl (fun W hW => by obtain ⟨hW1, hW2⟩ := hW; go_simp)) ?_
  simp only [List.getElem_toArray, List.getElem_cons_succ, List.getElem_cons_zero, Act.put, List.setIfInBounds_toArray, List.set_cons_zero, List.set_cons_succ]
  refine RegF.take 5 (.slice Al ls.length cl) rfl (by kernel_rfl) (by kernel_rfl) (by kernel_rfl) (by kernel_rfl) (fun _ _ _ h => h) hSd (RegF.yld rfl (fun W hW => by obtain ⟨hW1, hW2⟩ := hW; go_simp)) ?_
  simp only [List.getElem_toArray, List.getElem_cons_succ, List.getElem_cons_zero, Act.put, List.setIfInBounds_toArray, List.set_cons_zero, List.set_cons_succ]
  refine RegF.take 7 (.int .i64 at_) rfl (by kernel_rfl) (by kernel_rfl) (by kernel_rfl) (by kernel_rfl) (fun _ _ _ h => h) hSd (RegF.yld rfl (fun W hW => by obtain ⟨hW1, hW2⟩ := hW; go_simp)) ?_
  simp only [List.getElem_toArray, List.getElem_cons_succ, List.getElem_cons_zero, Act.put, List.setIfInBounds_toArray, List.set_cons_zero, List.set_cons_succ]
  have hBe := hBd.alloc (Nat.le_refl _) (.cells #[] 256)
  have e0 : (W1.drew.alloc (.cells #[] 256)).ownsRow W1.heap.size 256 2 (.slice (some ⟨W1.heap.size, 0, none⟩) 0 0) 0 [] := World.ownsRow_lit W1.drew #[] 0 (Nat.le_refl _) (by unfold maxLen; omega) rfl
  have hSk : ∀ W', Below W1.heap.size W1 W' → W'.cell? ⟨w.heap.size, 1, none⟩ = some (.slice As sy.length cs) ∧ W'.cell? ⟨w.heap.size, 2, none⟩ = some (.slice Al ls.length cl) := fun W' hB => ⟨(hB.cell (p := ⟨w.heap.size, 1, none⟩) HP1).trans a1, (hB.cell (p := ⟨w.heap.size, 2, none⟩) HP2).trans a2⟩
  refine RegF.one 0 (by kernel_rfl) ?_
  refine RegF.opV (w' := W1.drew.alloc (.cells #[] 256)) (.slice (some ⟨W1.heap.size, 0, none⟩) 0 0) rfl rfl (by go_simp) ⟨fun _ => hSk _ hBe, ?_⟩
  simp only [List.getElem_toArray, List.getElem_cons_zero, Act.put, List.setIfInBounds_toArray, List.set_cons_zero, List.set_cons_succ]
  refine RegF.one 3 (by kernel_rfl) ?_
  refine opAppR rfl rfl elRW (.tmp 5) (.tmp 7) rfl W1.heap.size (.slice (some ⟨W1.heap.size, 0, none⟩) 0 0) 0 [] rfl e0 _ As sy.length cs (wsC sy) rfl (hs.below hBe) (by unfold maxLen; omega) (by omega) hBe.size ?_
  intro v3 w3 own3 hg3
  have hB3 := hBe.trans (grown_below hg3 hBe.size (ownG_ge e0))
  rw [List.nil_append, Nat.zero_add] at own3
  refine ⟨fun _ => hSk _ hB3, ?_⟩
  simp only [List.getElem_toArray, List.getElem_cons_succ, List.getElem_cons_zero, Act.put, List.setIfInBounds_toArray, List.set_cons_zero, List.set_cons_succ]
  refine RegF.one 6 (by kernel_rfl) ?_
  refine opAppR rfl rfl elRW (.tmp 8) (.tmp 10) rfl W1.heap.size v3 sy.length (wsC sy) rfl own3 _ Al ls.length cl (wsC ls) rfl (hl2.below hB3) (by unfold maxLen; omega) (by omega) hB3.size ?_
  intro v6 w6 own6 hg6
  have hB6 := hB3.trans (grown_below hg6 hB3.size (ownG_ge own3))
  rw [← wsC_append] at own6
  obtain ⟨A6, c6, rfl, in6⟩ := ownG_in own6 (wsC_one _)
  refine ⟨fun _ => hSk _ hB6, ?_⟩
  simp only [List.getElem_toArray, List.getElem_cons_succ, List.getElem_cons_zero, Act.put, List.setIfInBounds_toArray, List.set_cons_zero, List.set_cons_succ]
  have in6' : InG w6 w6.heap.size 2 A6 (sy ++ ls).length c6 (wsC (sy ++ ls)) := by rw [← HLen.out]; exact in6
  have HL := last_gives w6 A6 c6 (sy ++ ls) in6' (by rw [List.length_append]; omega) at_
  rw [← HLen.out] at HL
  obtain ⟨st, hst⟩ : ∃ x, x = str (lastB (sy ++ ls) at_) := ⟨_, rfl⟩
  rw [← hst] at HL
  have HST := Lib.hid hst
  clear hst
  refine RegF.one 8 (by kernel_rfl) ?_
  refine RegF.opC 150 #[.tmp 11, .tmp 12] #[139, 3] rfl rfl rfl (enters_of Try.func150 (by kernel_rfl) rfl) #[.slice A6 (sy.length + ls.length) c6, .int .i64 at_] (by simp only [List.map_toArray, List.map_cons, List.map_nil]; rfl) (HL.mono ?_)
  rintro e w8 ⟨rfl, hB8⟩
  have hB18 := hB6.trans (hB8.mono hB6.size)
  refine ⟨_, rfl, fun _ => hSk _ hB18, ?_⟩
  simp only [List.getElem_toArray, List.getElem_cons_succ, List.getElem_cons_zero, Act.put, List.setIfInBounds_toArray, List.set_cons_zero, List.set_cons_succ]
  refine RegF.one 9 (by kernel_rfl) ?_
  refine RegF.opV (w' := w8) (.string st) rfl rfl (by go_simp) ⟨fun h => absurd rfl h, ?_⟩
  simp only [List.getElem_toArray, List.getElem_cons_succ, List.getElem_cons_zero, Act.put, List.setIfInBounds_toArray, List.set_cons_zero, List.set_cons_succ]
  refine RegF.done (by kernel_rfl) ?_
  go_wp2
  go_ret
  exact ⟨by rw [← HST.out]; rfl, hB1.trans (hB18.mono hB1.size)⟩
set_option maxRecDepth 100000 in
set_option maxHeartbeats 2000000 in
theorem rread4_gives (w : World) (many : Int) (sy ls : List (Nat × List UInt8)) (As : Option Addr) (cs : Nat) (Al : Option Addr) (cl : Nat) (left : Int) (h : RIs w w.heap.size sy ls As cs Al cl) (hn1 : sy.length ≤ 400000) (hn2 : ls.length ≤ 400000) (at_ : Int) : Calls Try.prog 149 #[VAL many As sy.length cs Al ls.length cl left, .int .i64 at_] w fun e w' => e = .returned (if at_ < 0 ∨ many ≤ at_ then .tuple #[.string (str []), .int .i64 4] else if left = 0 then .tuple #[.string (str []), .int .i64 140] else .tuple #[.string (str (lastB (sy ++ ls) at_)), .int .i64 0]) ∧ Below w.heap.size w w' := by
  have b1 := BlkIs.new w 141 #[.int .i64 many, .slice As sy.length cs, .slice Al ls.length cl, .int .i64 left]
  have hB1 : Below w.heap.size w (w.alloc (.cells #[.int .i64 many, .slice As sy.length cs, .slice Al ls.length cl, .int .i64 left] 141)) := (Below.refl _ w).alloc (Nat.le_refl _) _
  have HS := rsector_gives (w.alloc (.cells #[.int .i64 many, .slice As sy.length cs, .slice Al ls.length cl, .int .i64 left] 141)) many sy ls As cs Al cl left (h.grow hB1) hn1 hn2 at_
  unfold VAL at *
  generalize str (lastB (sy ++ ls) at_) = st at *
  obtain ⟨W1, hW1⟩ : ∃ W1, W1 = w.alloc (.cells #[.int .i64 many, .slice As sy.length cs, .slice Al ls.length cl, .int .i64 left] 141) := ⟨_, rfl⟩
  rw [← hW1] at b1 hB1 HS
  have HW1 := Lib.hid hW1
  clear hW1
  have a0 : W1.cell? ⟨w.heap.size, 0, none⟩ = some (.int .i64 many) := by rw [b1.cell]; rfl
  have a3 : W1.cell? ⟨w.heap.size, 3, none⟩ = some (.int .i64 left) := by rw [b1.cell]; rfl
  have e0 : str [] = { data := #[] } := rfl
  by_cases hr : at_ < 0 ∨ many ≤ at_
  · rw [if_pos hr, e0]
    rcases ha : decide (at_ < 0) with _ | _
    · have h1 : many ≤ at_ := by simp at ha; omega
      go_enter Try.func149, Try.ntmps149
      go_upto_region 1 with fail
      rw [← HW1.out]
      clear HW1
      go_wp2
      go_ret2
      exact ⟨rfl, hB1⟩
    · go_enter Try.func149, Try.ntmps149
      go_upto_region 1 with fail
      rw [← HW1.out]
      clear HW1
      go_wp2
      go_ret2
      exact ⟨rfl, hB1⟩
  · rw [if_neg hr]
    have h1 : decide (at_ < 0) = false := by simp; omega
    have h2 : ¬ many ≤ at_ := by omega
    clear hr
    by_cases hl : left = 0
    · rw [if_pos hl, e0]
      subst hl
      go_enter Try.func149, Try.ntmps149
      go_upto_region 1 with fail
      rw [← HW1.out]
      clear HW1
      go_wp2
      go_ret2
      exact ⟨rfl, hB1⟩
    · rw [if_neg hl]
      go_enter Try.func149, Try.ntmps149
      go_upto_region 1 with fail
      rw [← HW1.out]
      clear HW1
      go_wp2_with (first
        | (refine wp_loadW rfl 141 (.tmp 2) rfl (w.heap.size) rfl rowRDisk b1 (by rfl) ?_)
        | (go_at_call 155; refine HS.mono ?_; rintro e w5 ⟨rfl, hB5⟩))
      go_ret2
      exact ⟨rfl, hB1.trans (hB5.mono hB1.size)⟩
end Go.Proofs.Ytlelckdcmlpmdaa
/- louperef04: Write, Sync. -/
namespace Go.Proofs.Ytlelckdcmlpmdaa
open Go Go.RowKit Lou

/-- What a write that isn't carried out answers. -/
def rwE (many at_ left : Int) (n : Nat) : Int := if n ≠ 64 then 2 else if at_ < 0 ∨ many ≤ at_ then 4 else if left = 0 then 140 else 0
set_option maxRecDepth 100000 in
set_option maxHeartbeats 2000000 in
theorem rwrite_bad (w : World) (many : Int) (As : Option Addr) (ns cs : Nat) (Al : Option Addr) (nl cl : Nat) (left : Int) (at_ : Int) (l : List UInt8) (hE : ¬ rwE many at_ left l.length = 0) : Calls Try.prog 145 #[VAL many As ns cs Al nl cl left, .int .i64 at_, .string (str l)] w fun e w' => e = .returned (.tuple #[VAL many As ns cs Al nl cl left, .int .i64 (rwE many at_ left l.length)]) ∧ Below w.heap.size w w' := by
  obtain ⟨b1, b2, hB1⟩ := rcW_is w #[.int .i64 many, .slice As ns cs, .slice Al nl cl, .int .i64 left]
  unfold VAL at *
  obtain ⟨W1, hW1⟩ : ∃ W1, W1 = rcW w #[.int .i64 many, .slice As ns cs, .slice Al nl cl, .int .i64 left] := ⟨_, rfl⟩
  rw [← hW1] at b1 b2 hB1
  unfold rcW zeroR at hW1
  have HW1 := Lib.hid hW1
  clear hW1
  have a0 : W1.cell? ⟨w.heap.size, 0, none⟩ = some (.int .i64 many) := by rw [b1.cell]; rfl
  have a1 : W1.cell? ⟨w.heap.size, 1, none⟩ = some (.slice As ns cs) := by rw [b1.cell]; rfl
  have a2 : W1.cell? ⟨w.heap.size, 2, none⟩ = some (.slice Al nl cl) := by rw [b1.cell]; rfl
  have a3 : W1.cell? ⟨w.heap.size, 3, none⟩ = some (.int .i64 left) := by rw [b1.cell]; rfl
  have f3 := b1.free 3
  unfold rwE at *
  by_cases h1 : l.length ≠ 64
  · rw [if_pos h1]
    have h1' : ((str l).size : Int) ≠ 64 := by rw [str_size]; omega
    have h1b : (((str l).size : Int) != 64) = true := by simpa using h1'
    generalize str l = st at *
    clear hE h1
    go_enter Try.func145, Try.ntmps145
    go_upto_region 1 with fail
    rw [← HW1.out]
    clear HW1
    go_wp2_with (first
      | (refine wp_loadW rfl 141 (.tmp 3) rfl (w.heap.size) rfl rowRDisk b1 (by rfl) ?_)
      | (refine wp_storeW rfl 141 (.tmp 6) (.tmp 11) rfl (w.heap.size + 1) rfl rfl rowRDisk b2 (by rfl) (by rfl) (four_oneR rfl rfl rfl rfl) ?_))
    exact bodyPost_ret (results_cellW_tmp 6 7 rfl rfl rfl rowRDisk (b2.setRow _) (by rfl)) rfl ⟨rfl, below_setRow hB1 (by omega) _⟩
  · rw [if_neg h1] at hE ⊢
    have h1' : ((str l).size : Int) = 64 := by rw [str_size]; omega
    generalize str l = st at *
    clear h1
    by_cases hr : at_ < 0 ∨ many ≤ at_
    · rw [if_pos hr]
      clear hE
      rcases ha : decide (at_ < 0) with _ | _
      · have h1 : many ≤ at_ := by simp at ha; omega
        go_enter Try.func145, Try.ntmps145
        go_upto_region 1 with fail
        rw [← HW1.out]
        clear HW1
        go_wp2_with (first
          | (refine wp_loadW rfl 141 (.tmp 3) rfl (w.heap.size) rfl rowRDisk b1 (by rfl) ?_)
          | (refine wp_storeW rfl 141 (.tmp 6) (.tmp 20) rfl (w.heap.size + 1) rfl rfl rowRDisk b2 (by rfl) (by rfl) (four_oneR rfl rfl rfl rfl) ?_))
        exact bodyPost_ret (results_cellW_tmp 6 7 rfl rfl rfl rowRDisk (b2.setRow _) (by rfl)) rfl ⟨rfl, below_setRow hB1 (by omega) _⟩
      · skip
        go_enter Try.func145, Try.ntmps145
        go_upto_region 1 with fail
        rw [← HW1.out]
        clear HW1
        go_wp2_with (first
          | (refine wp_loadW rfl 141 (.tmp 3) rfl (w.heap.size) rfl rowRDisk b1 (by rfl) ?_)
          | (refine wp_storeW rfl 141 (.tmp 6) (.tmp 20) rfl (w.heap.size + 1) rfl rfl rowRDisk b2 (by rfl) (by rfl) (four_oneR rfl rfl rfl rfl) ?_))
        exact bodyPost_ret (results_cellW_tmp 6 7 rfl rfl rfl rowRDisk (b2.setRow _) (by rfl)) rfl ⟨rfl, below_setRow hB1 (by omega) _⟩
    · rw [if_neg hr] at hE ⊢
      have h3 : decide (at_ < 0) = false := by simp; omega
      have h4 : ¬ many ≤ at_ := by omega
      have hl : left = 0 := by
        by_cases hl : left = 0
        · exact hl
        · rw [if_neg hl] at hE; exact absurd rfl hE
      subst hl
      rw [if_pos rfl]
      clear hE hr
      go_enter Try.func145, Try.ntmps145
      go_upto_region 1 with fail
      rw [← HW1.out]
      clear HW1
      go_wp2_with (first
        | (refine wp_loadW rfl 141 (.tmp 3) rfl (w.heap.size) rfl rowRDisk b1 (by rfl) ?_)
        | (refine wp_storeW rfl 141 (.tmp 6) (.tmp 24) rfl (w.heap.size + 1) rfl rfl rowRDisk b2 (by rfl) (by rfl) (four_oneR rfl rfl rfl rfl) ?_))
      exact bodyPost_ret (results_cellW_tmp 6 7 rfl rfl rfl rowRDisk (b2.setRow _) (by rfl)) rfl ⟨rfl, below_setRow hB1 (by omega) _⟩
set_option maxRecDepth 100000 in
set_option maxHeartbeats 2000000 in
theorem rwrite_ok (w : World) (many : Int) (sy ls : List (Nat × List UInt8)) (As : Option Addr) (cs : Nat) (Al : Option Addr) (cl : Nat) (left : Int) (h : RIs w w.heap.size sy ls As cs Al cl) (hn1 : sy.length ≤ 400000) (hn2 : ls.length ≤ 400000) (h1 : -1000000 ≤ left) (h2 : left ≤ 9223372036854775807) (k : Nat) (l : List UInt8) (hE : rwE many (k : Int) left l.length = 0) :
    Calls Try.prog 145 #[VAL many As sy.length cs Al ls.length cl left, .int .i64 (k : Int), .string (str l)] w fun e w' => ∃ A' c', e = .returned (.tuple #[VAL many As sy.length cs A' (ls ++ [(k, l)]).length c' (rlft left), .int .i64 0]) ∧ RIs w' w'.heap.size sy (ls ++ [(k, l)]) As cs A' c' ∧ Below w.heap.size w w' := by
  have hlen : (ls ++ [(k, l)]).length = ls.length + 1 := by simp
  rw [hlen]
  obtain ⟨b1, b2, hB1⟩ := rcW_is w #[.int .i64 many, .slice As sy.length cs, .slice Al ls.length cl, .int .i64 left]
  unfold VAL at *
  obtain ⟨W1, hW1⟩ : ∃ W1, W1 = rcW w #[.int .i64 many, .slice As sy.length cs, .slice Al ls.length cl, .int .i64 left] := ⟨_, rfl⟩
  rw [← hW1] at b1 b2 hB1
  unfold rcW zeroR at hW1
  have HW1 := Lib.hid hW1
  clear hW1
  have a0 : W1.cell? ⟨w.heap.size, 0, none⟩ = some (.int .i64 many) := by rw [b1.cell]; rfl
  have a1 : W1.cell? ⟨w.heap.size, 1, none⟩ = some (.slice As sy.length cs) := by rw [b1.cell]; rfl
  have a2 : W1.cell? ⟨w.heap.size, 2, none⟩ = some (.slice Al ls.length cl) := by rw [b1.cell]; rfl
  have a3 : W1.cell? ⟨w.heap.size, 3, none⟩ = some (.int .i64 left) := by rw [b1.cell]; rfl
  have f3 := b1.free 3
  have hs0 := h.s
  have hls := (h.l.below hB1).more hB1.size
  have hcell : wrC (k, l) = [.int .i64 (k : Int), .string (str l)] := rfl
  have hy : many ≤ (k : Int) → False := fun hh => by unfold rwE at hE; split at hE; cases hE; rw [if_pos (.inr hh)] at hE; cases hE
  have h64 : l.length = 64 := by
    by_cases hh : l.length = 64
    · exact hh
    · unfold rwE at hE; rw [if_pos hh] at hE; cases hE
  have hl0 : ¬ left = 0 := fun hh => by
    unfold rwE at hE
    rw [if_neg (by omega), if_neg (by omega), if_pos hh] at hE
    cases hE
  have h1' : ((str l).size : Int) = 64 := by rw [str_size]; omega
  have h3 : decide ((k : Int) < 0) = false := by simp
  have h4 : ¬ many ≤ (k : Int) := fun hh => hy hh
  have HD := fun W A' n' c' => rdone_gives W many As sy.length cs A' n' c' left h1 h2
  unfold VAL at HD
  have hE0 : (W1.alloc (.cells #[] 256)).ownsRow W1.heap.size 256 2 (.slice (some ⟨W1.heap.size, 0, none⟩) 0 0) 0 [] := World.ownsRow_lit W1 #[] 0 (Nat.le_refl _) (by unfold maxLen; omega) rfl
  have hBe : Below W1.heap.size W1 (W1.alloc (.cells #[] 256)) := (Below.refl _ W1).alloc (Nat.le_refl _) _
  have hle := hBe.size
  have hp1 := b1.lt
  have hp2 := b2.lt
  clear hE hy h64 h1 h2 h hlen
  generalize hst : str l = st at *
  have HST := Lib.hid hst
  have h1c : ∀ v ∈ ([.int .i64 (k : Int), .string st] : List Value), v.oneCell' = true := fun v hv => by rcases List.mem_cons.1 hv with rfl | hv; rfl; obtain rfl := List.mem_singleton.1 hv; rfl
  clear hst
  go_enter Try.func145, Try.ntmps145
  go_upto_region 1 with fail
  rw [← HW1.out]
  clear HW1
  go_upto_region 8 with (first
    | (at_builtin; refine wp_appG rfl elRW (.tmp 25) (.tmp 27) rfl W1.heap.size (.slice (some ⟨W1.heap.size, 0, none⟩) 0 0) 0 [] rfl hE0 _ Al ls.length cl (wsC ls) rfl (hls.below hBe) (by unfold maxLen; omega) (by omega) hle ?_; intro v3 w3 own3 hg3; have hB3 := hBe.trans (grown_below hg3 hle (ownG_ge hE0)); rw [List.nil_append, Nat.zero_add] at own3; obtain ⟨A3, c3, rfl, _⟩ := ownG_in own3 (wsC_one _); have hBa : Below w3.heap.size w3 (w3.alloc (.cells #[.int .i64 (k : Int), .string st] 256)) := (Below.refl _ w3).alloc (Nat.le_refl _) _; have own4 := ownG_grow own3 hBa; have hB4 := hB3.trans (hBa.mono hB3.size))
    | (at_builtin; refine wp_appG rfl elRW (.tmp 28) (.tmp 32) rfl W1.heap.size (.slice A3 ls.length c3) ls.length (wsC ls) rfl own4 _ _ 1 1 [.int .i64 (k : Int), .string st] rfl (row_litR w3 256 2 [.int .i64 (k : Int), .string st] rfl h1c) (by unfold maxLen; omega) (by omega) hB4.size ?_; intro v5 w5 own5 hg5; have hB5 := hB4.trans (grown_below hg5 hB4.size (ownG_ge own4)); obtain ⟨A5, c5, rfl, in5⟩ := ownG_in own5 (fun v hv => by rcases List.mem_append.1 hv with h | h; exact wsC_one _ v h; exact h1c v h); have b15 := b1.below hB5 hp1; have b25 := b2.below hB5 hp2; have c25 : w5.cell? ⟨w.heap.size, 2, none⟩ = some (.slice Al ls.length cl) := (by rw [b15.cell]; rfl); have f25 := b15.free 2))
  have b16 := b15.set 2 (.slice A5 (ls.length + 1) c5)
  have b26 := b25.other (p := ⟨w.heap.size, 2, none⟩) (by simp) (.slice A5 (ls.length + 1) c5)
  have hB6 := (hB1.trans (hB5.mono hB1.size)).setCell (p := ⟨w.heap.size, 2, none⟩) (by simp) (.slice A5 (ls.length + 1) c5)
  have own6 := ownG_rest own5 hp1 2 (.slice A5 (ls.length + 1) c5)
  generalize w5.setCell ⟨w.heap.size, 2, none⟩ (.slice A5 (ls.length + 1) c5) = w6 at *
  have HD := HD w6 A5 (ls.length + 1) c5
  go_wp2_with (first
    | (refine wp_loadW rfl 141 (.tmp 3) rfl (w.heap.size) rfl rowRDisk b16 (by rfl) ?_)
    | (go_at_call 185; refine HD.mono ?_; rintro e w8 ⟨rfl, hB8⟩; have b28 := b26.below hB8 b26.lt)
    | (refine wp_storeW rfl 141 (.tmp 6) (.tmp 36) rfl (w.heap.size + 1) rfl rfl rowRDisk b28 (by rfl) (by rfl) (four_oneR rfl rfl rfl rfl) ?_))
  have hB08 := hB6.trans (hB8.mono hB6.size)
  have hBf := below_setRow hB08 (show w.heap.size ≤ w.heap.size + 1 by omega) #[.int .i64 many, .slice As sy.length cs, .slice A5 (ls.length + 1) c5, .int .i64 (rlft left)]
  have own9 : (w8.setRow (w.heap.size + 1) #[.int .i64 many, .slice As sy.length cs, .slice A5 (ls.length + 1) c5, .int .i64 (rlft left)]).ownsRow W1.heap.size 256 2 (.slice A5 (ls.length + 1) c5) (ls.length + 1) (wsC ls ++ [.int .i64 (k : Int), .string st]) := ownG_later (ownG_grow own6 hB8) fun r hr => setRow_other _ _ r _ (by have := ownG_ge own6 r hr; omega)
  obtain ⟨A7, c7, e7, in7⟩ := ownG_in own9 (fun v hv => by rcases List.mem_append.1 hv with h | h; exact wsC_one _ v h; exact h1c v h)
  injection e7 with e71 e72 e73
  subst e71 e73
  have hlen : (ls ++ [(k, l)]).length = ls.length + 1 := by simp
  have hws : wsC (ls ++ [(k, l)]) = wsC ls ++ [.int .i64 (k : Int), .string st] := by rw [wsC_append, ← HST.out]; simp [wsC, wrC]
  exact bodyPost_ret (results_cellW_tmp 6 7 rfl rfl rfl rowRDisk (b28.setRow _) (by rfl)) rfl ⟨A5, c5, rfl, ⟨(hs0.below hBf).more hBf.size, by rw [hlen, hws]; exact in7⟩, hBf⟩
set_option maxRecDepth 100000 in
set_option maxHeartbeats 2000000 in
theorem rsync_bad (w : World) (many : Int) (As : Option Addr) (ns cs : Nat) (Al : Option Addr) (nl cl : Nat) (left : Int) (hl : left = 0) : Calls Try.prog 146 #[VAL many As ns cs Al nl cl left] w fun e w' => e = .returned (.tuple #[VAL many As ns cs Al nl cl left, .int .i64 140]) ∧ Below w.heap.size w w' := by
  subst hl
  obtain ⟨b1, b2, hB1⟩ := rcW_is w #[.int .i64 many, .slice As ns cs, .slice Al nl cl, .int .i64 0]
  unfold VAL at *
  obtain ⟨W1, hW1⟩ : ∃ W1, W1 = rcW w #[.int .i64 many, .slice As ns cs, .slice Al nl cl, .int .i64 0] := ⟨_, rfl⟩
  rw [← hW1] at b1 b2 hB1
  unfold rcW zeroR at hW1
  have HW1 := Lib.hid hW1
  clear hW1
  have a0 : W1.cell? ⟨w.heap.size, 0, none⟩ = some (.int .i64 many) := by rw [b1.cell]; rfl
  have a1 : W1.cell? ⟨w.heap.size, 1, none⟩ = some (.slice As ns cs) := by rw [b1.cell]; rfl
  have a2 : W1.cell? ⟨w.heap.size, 2, none⟩ = some (.slice Al nl cl) := by rw [b1.cell]; rfl
  have a3 : W1.cell? ⟨w.heap.size, 3, none⟩ = some (.int .i64 0) := by rw [b1.cell]; rfl
  have f3 := b1.free 3
  go_enter Try.func146, Try.ntmps146
  go_upto_region 1 with fail
  rw [← HW1.out]
  clear HW1
  go_wp2_with (first
    | (refine wp_loadW rfl 141 (.tmp 1) rfl (w.heap.size) rfl rowRDisk b1 (by rfl) ?_)
    | (refine wp_storeW rfl 141 (.tmp 2) (.tmp 7) rfl (w.heap.size + 1) rfl rfl rowRDisk b2 (by rfl) (by rfl) (four_oneR rfl rfl rfl rfl) ?_))
  exact bodyPost_ret (results_cellW_tmp 2 3 rfl rfl rfl rowRDisk (b2.setRow _) (by rfl)) rfl ⟨rfl, below_setRow hB1 (by omega) _⟩
set_option maxRecDepth 100000 in
set_option maxHeartbeats 2000000 in
theorem rsync_ok (w : World) (many : Int) (sy ls : List (Nat × List UInt8)) (As : Option Addr) (cs : Nat) (Al : Option Addr) (cl : Nat) (left : Int) (h : RIs w w.heap.size sy ls As cs Al cl) (hn1 : sy.length ≤ 400000) (hn2 : ls.length ≤ 400000) (h1 : -1000000 ≤ left) (h2 : left ≤ 9223372036854775807) (hl0 : ¬ left = 0) :
    Calls Try.prog 146 #[VAL many As sy.length cs Al ls.length cl left] w fun e w' => ∃ A' c', e = .returned (.tuple #[VAL many A' (sy ++ ls).length c' none 0 0 (rlft left), .int .i64 0]) ∧ RIs w' w'.heap.size (sy ++ ls) [] A' c' none 0 ∧ Below w.heap.size w w' := by
  have hlen : (sy ++ ls).length = sy.length + ls.length := by simp
  rw [hlen]
  obtain ⟨b1, b2, hB1⟩ := rcW_is w #[.int .i64 many, .slice As sy.length cs, .slice Al ls.length cl, .int .i64 left]
  unfold VAL at *
  obtain ⟨W1, hW1⟩ : ∃ W1, W1 = rcW w #[.int .i64 many, .slice As sy.length cs, .slice Al ls.length cl, .int .i64 left] := ⟨_, rfl⟩
  rw [← hW1] at b1 b2 hB1
  unfold rcW zeroR at hW1
  have HW1 := Lib.hid hW1
  clear hW1
  have a0 : W1.cell? ⟨w.heap.size, 0, none⟩ = some (.int .i64 many) := by rw [b1.cell]; rfl
  have a1 : W1.cell? ⟨w.heap.size, 1, none⟩ = some (.slice As sy.length cs) := by rw [b1.cell]; rfl
  have a2 : W1.cell? ⟨w.heap.size, 2, none⟩ = some (.slice Al ls.length cl) := by rw [b1.cell]; rfl
  have a3 : W1.cell? ⟨w.heap.size, 3, none⟩ = some (.int .i64 left) := by rw [b1.cell]; rfl
  have f3 := b1.free 3
  have hs := (h.s.below hB1).more hB1.size
  have hl2 := (h.l.below hB1).more hB1.size
  have HP1 : w.heap.size < W1.heap.size := b1.lt
  have HP2 := HP1
  have hp2 := b2.lt
  have HD := fun W A' n' c' => rdone_gives W many A' n' c' none 0 0 left h1 h2
  unfold VAL at HD
  have HLen := Lib.hid hlen
  clear h1 h2 h hlen
  go_enter Try.func146, Try.ntmps146
  go_upto_region 1 with fail
  rw [← HW1.out]
  clear HW1
  go_wp2_with fail
  have hSd : W1.drew.cell? ⟨w.heap.size, 1, none⟩ = some (.slice As sy.length cs) ∧ W1.drew.cell? ⟨w.heap.size, 2, none⟩ = some (.slice Al ls.length cl) := ⟨a1, a2⟩
  have hBd : Below W1.heap.size W1 W1.drew := (Below.refl _ W1).drew
  refine RegF.start (fun W => W.cell? ⟨w.heap.size, 1, none⟩ = some (.slice As sy.length cs) ∧ W.cell? ⟨w.heap.size, 2, none⟩ = some (.slice Al ls.length cl)) 8 (by kernel_rfl) ?_
  refine RegF.take 1 (.pointer (some ⟨w.heap.size, 1, none⟩)) rfl (by kernel_rfl) (by kernel_rfl) (by kernel_rfl) (by kernel_rfl) (fun _ _ _ h => h) hSd (RegF.yld rfl (fun W hW => by obtain ⟨hW1, hW2⟩ := hW; go_simp)) ?_
  simp only [List.getElem_toArray, List.getElem_cons_succ, List.getElem_cons_zero, Act.put, List.setIfInBounds_toArray, List.set_cons_zero, List.set_cons_succ]
  refine RegF.take 2 (.slice As sy.length cs) rfl (by kernel_rfl) (by kernel_rfl) (by kernel_rfl) (by kernel_rfl) (fun _ _ _ h => h) hSd (RegF.yld rfl (fun W hW => by obtain ⟨hW1, hW2⟩ := hW; go_simp)) ?_
  simp only [List.getElem_toArray, List.getElem_cons_succ, List.getElem_cons_zero, Act.put, List.setIfInBounds_toArray, List.set_cons_zero, List.set_cons_succ]
  refine RegF.take 4 (.pointer (some ⟨w.heap.size, 2, none⟩)) rfl (by kernel_rfl) (by kernel_rfl) (by kernel_rfl) (by kernel_rfl) (fun _ _ _ h => h) hSd (RegF.yld rfl (fun W hW => by obtain ⟨hW1, hW2⟩ := hW; go_simp)) ?_
  simp only [List.getElem_toArray, List.getElem_cons_succ, List.getElem_cons_zero, Act.put, List.setIfInBounds_toArray, List.set_cons_zero, List.set_cons_succ]
  refine RegF.take 5 (.slice Al ls.length cl) rfl (by kernel_rfl) (by kernel_rfl) (by kernel_rfl) (by kernel_rfl) (fun _ _ _ h => h) hSd (RegF.yld rfl (fun W hW => by obtain ⟨hW1, hW2⟩ := hW; go_simp)) ?_
  simp only [List.getElem_toArray, List.getElem_cons_succ, List.getElem_cons_zero, Act.put, List.setIfInBounds_toArray, List.set_cons_zero, List.set_cons_succ]
  have hBe := hBd.alloc (Nat.le_refl _) (.cells #[] 256)
  have e0 : (W1.drew.alloc (.cells #[] 256)).ownsRow W1.heap.size 256 2 (.slice (some ⟨W1.heap.size, 0, none⟩) 0 0) 0 [] := World.ownsRow_lit W1.drew #[] 0 (Nat.le_refl _) (by unfold maxLen; omega) rfl
  have hSk : ∀ W', Below W1.heap.size W1 W' → W'.cell? ⟨w.heap.size, 1, none⟩ = some (.slice As sy.length cs) ∧ W'.cell? ⟨w.heap.size, 2, none⟩ = some (.slice Al ls.length cl) := fun W' hB => ⟨(hB.cell (p := ⟨w.heap.size, 1, none⟩) HP1).trans a1, (hB.cell (p := ⟨w.heap.size, 2, none⟩) HP2).trans a2⟩
  refine RegF.one 0 (by kernel_rfl) ?_
  refine RegF.opV (w' := W1.drew.alloc (.cells #[] 256)) (.slice (some ⟨W1.heap.size, 0, none⟩) 0 0) rfl rfl (by go_simp) ⟨fun _ => hSk _ hBe, ?_⟩
  simp only [List.getElem_toArray, List.getElem_cons_zero, Act.put, List.setIfInBounds_toArray, List.set_cons_zero, List.set_cons_succ]
  refine RegF.one 3 (by kernel_rfl) ?_
  refine opAppR rfl rfl elRW (.tmp 8) (.tmp 10) rfl W1.heap.size (.slice (some ⟨W1.heap.size, 0, none⟩) 0 0) 0 [] rfl e0 _ As sy.length cs (wsC sy) rfl (hs.below hBe) (by unfold maxLen; omega) (by omega) hBe.size ?_
  intro v3 w3 own3 hg3
  have hB3 := hBe.trans (grown_below hg3 hBe.size (ownG_ge e0))
  rw [List.nil_append, Nat.zero_add] at own3
  refine ⟨fun _ => hSk _ hB3, ?_⟩
  simp only [List.getElem_toArray, List.getElem_cons_succ, List.getElem_cons_zero, Act.put, List.setIfInBounds_toArray, List.set_cons_zero, List.set_cons_succ]
  refine RegF.one 6 (by kernel_rfl) ?_
  refine opAppR rfl rfl elRW (.tmp 11) (.tmp 13) rfl W1.heap.size v3 sy.length (wsC sy) rfl own3 _ Al ls.length cl (wsC ls) rfl (hl2.below hB3) (by unfold maxLen; omega) (by omega) hB3.size ?_
  intro v6 w6 own6 hg6
  have hB6 := hB3.trans (grown_below hg6 hB3.size (ownG_ge own3))
  rw [← wsC_append] at own6
  obtain ⟨A6, c6, rfl, in6⟩ := ownG_in own6 (wsC_one _)
  refine ⟨fun _ => hSk _ hB6, ?_⟩
  simp only [List.getElem_toArray, List.getElem_cons_succ, List.getElem_cons_zero, Act.put, List.setIfInBounds_toArray, List.set_cons_zero, List.set_cons_succ]
  refine RegF.one 7 (by kernel_rfl) ?_
  refine RegF.opV (w' := w6) (.pointer (some ⟨w.heap.size, 1, none⟩)) rfl rfl (by go_simp) ⟨fun _ => hSk _ hB6, ?_⟩
  simp only [List.getElem_toArray, List.getElem_cons_succ, List.getElem_cons_zero, Act.put, List.setIfInBounds_toArray, List.set_cons_zero, List.set_cons_succ]
  have b16 := b1.below hB6 HP1
  have b26 := b2.below hB6 hp2
  have c16 : w6.cell? ⟨w.heap.size, 1, none⟩ = some (.slice As sy.length cs) := by rw [b16.cell]; rfl
  have f16 := b16.free 1
  refine RegF.one 8 (by kernel_rfl) ?_
  refine RegF.opS (w' := w6.setCell ⟨w.heap.size, 1, none⟩ (.slice A6 (sy.length + ls.length) c6)) rfl rfl (by go_simp) ⟨fun h => absurd rfl h, ?_⟩
  simp only [List.getElem_toArray, List.getElem_cons_succ, List.getElem_cons_zero, Act.put]
  refine RegF.done (by kernel_rfl) ?_
  have b17 := b16.set 1 (.slice A6 (sy.length + ls.length) c6)
  have b27 := b26.other (p := ⟨w.heap.size, 1, none⟩) (by simp) (.slice A6 (sy.length + ls.length) c6)
  have hB7 := (hB1.trans (hB6.mono hB1.size)).setCell (p := ⟨w.heap.size, 1, none⟩) (by simp) (.slice A6 (sy.length + ls.length) c6)
  have own7 := ownG_rest own6 HP1 1 (.slice A6 (sy.length + ls.length) c6)
  generalize w6.setCell ⟨w.heap.size, 1, none⟩ (.slice A6 (sy.length + ls.length) c6) = w7 at *
  clear hSk hSd hBd hBe e0 own3 hg3 hg6 c16 f16 hB3
  have c27 : w7.cell? ⟨w.heap.size, 2, none⟩ = some (.slice Al ls.length cl) := by rw [b17.cell]; rfl
  have f27 := b17.free 2
  have b18 := b17.set 2 (.slice none 0 0)
  have b28 := b27.other (p := ⟨w.heap.size, 2, none⟩) (by simp) (.slice none 0 0)
  have hB8 := hB7.setCell (p := ⟨w.heap.size, 2, none⟩) (by simp) (.slice none 0 0)
  have own8 := ownG_rest own7 HP1 2 (.slice none 0 0)
  obtain ⟨w8, hw8⟩ : ∃ W, W = w7.setCell ⟨w.heap.size, 2, none⟩ (.slice none 0 0) := ⟨_, rfl⟩
  rw [← hw8] at b18 b28 hB8 own8
  have HW8 := Lib.hid hw8
  clear hw8
  have HD := HD w8 A6 (sy.length + ls.length) c6
  go_upto_region 5 with fail
  rw [← HW8.out]
  clear HW8
  go_wp2_with (first
    | (refine wp_loadW rfl 141 (.tmp 1) rfl (w.heap.size) rfl rowRDisk b18 (by rfl) ?_)
    | (go_at_call 185; refine HD.mono ?_; rintro e w9 ⟨rfl, hB9⟩; have b29 := b28.below hB9 b28.lt)
    | (refine wp_storeW rfl 141 (.tmp 2) (.tmp 18) rfl (w.heap.size + 1) rfl rfl rowRDisk b29 (by rfl) (by rfl) (four_oneR rfl rfl rfl rfl) ?_))
  have hB09 := hB8.trans (hB9.mono hB8.size)
  have hBf := below_setRow hB09 (show w.heap.size ≤ w.heap.size + 1 by omega) #[.int .i64 many, .slice A6 (sy.length + ls.length) c6, .slice none 0 0, .int .i64 (rlft left)]
  have own9 : (w9.setRow (w.heap.size + 1) #[.int .i64 many, .slice A6 (sy.length + ls.length) c6, .slice none 0 0, .int .i64 (rlft left)]).ownsRow W1.heap.size 256 2 (.slice A6 (sy.length + ls.length) c6) (sy.length + ls.length) (wsC (sy ++ ls)) := ownG_later (ownG_grow own8 hB9) fun r hr => setRow_other _ _ r _ (by have := ownG_ge own8 r hr; omega)
  obtain ⟨A7, c7, e7, in7⟩ := ownG_in own9 (wsC_one _)
  injection e7 with e71 e72 e73
  subst e71 e73
  exact bodyPost_ret (results_cellW_tmp 2 3 rfl rfl rfl rowRDisk (b29.setRow _) (by rfl)) rfl ⟨A6, c6, rfl, ⟨by rw [HLen.out]; exact in7, InG.mt _ _ _⟩, hBf⟩
end Go.Proofs.Ytlelckdcmlpmdaa
/- disk: the methods where they answer an error; Len, Loose. -/
namespace Go.Proofs.Ytlelckdcmlpmdaa
open Go Go.RowKit Lou

/-- The document's Left. -/
def relL (stops : Bool) (left : Int) : Int := if stops then left else -1
theorem relL_stopped (stops : Bool) (left : Int) : (stops && left == 0) = decide (relL stops left = 0) := by
  cases stops
  · rfl
  · by_cases h : left = 0 <;> simp [relL, h]
def rdE (many at_ left : Int) : Int := if at_ < 0 ∨ many ≤ at_ then 4 else if left = 0 then 140 else 0
section
variable (w : World) (p many : Nat) (g : Nat → List UInt8) (xs : List (Nat × List UInt8)) (left : Int) (stops : Bool)
theorem first_wr (s s0 s1 p n : Nat) (many : Nat) (at_ left : Int) (stops : Bool) : firstE [askLen s n, askThere s0 s1 many at_, askGoes p left stops] = rwE many at_ (relL stops left) n := by
  unfold rwE
  by_cases h1 : n = 64
  · rw [if_neg (by omega)]
    by_cases h2 : at_ < 0 ∨ (many : Int) ≤ at_
    · rw [if_pos h2]
      have : (decide (at_ < 0) || decide ((many : Int) ≤ at_)) = true := by simpa using h2
      simp [firstE, askLen, askThere, h1, this]
    · rw [if_neg h2]
      have : (decide (at_ < 0) || decide ((many : Int) ≤ at_)) = false := by simp; omega
      have hs := relL_stopped stops left
      by_cases h3 : relL stops left = 0
      · rw [if_pos h3]
        rw [decide_eq_true h3] at hs
        simp only [firstE, askLen, askThere, askGoes, h1, this, hs]
        rfl
      · rw [if_neg h3]
        rw [decide_eq_false h3] at hs
        simp only [firstE, askLen, askThere, askGoes, h1, this, hs]
        rfl
  · rw [if_pos h1]
    have : ((n : Int) != 64) = true := by simp; omega
    simp only [firstE, askLen, this]
    rfl
theorem first_rd (s0 s1 p : Nat) (many : Nat) (at_ left : Int) (stops : Bool) : firstE [askThere s0 s1 many at_, askGoes p left stops] = rdE many at_ (relL stops left) := by
  unfold rdE
  by_cases h2 : at_ < 0 ∨ (many : Int) ≤ at_
  · rw [if_pos h2]
    have : (decide (at_ < 0) || decide ((many : Int) ≤ at_)) = true := by simpa using h2
    simp only [firstE, askThere, this]
    rfl
  · rw [if_neg h2]
    have : (decide (at_ < 0) || decide ((many : Int) ≤ at_)) = false := by simp; omega
    have hs := relL_stopped stops left
    by_cases h3 : relL stops left = 0
    · rw [if_pos h3]
      rw [decide_eq_true h3] at hs
      simp only [firstE, askThere, askGoes, this, hs]
      rfl
    · rw [if_neg h3]
      rw [decide_eq_false h3] at hs
      simp only [firstE, askThere, askGoes, this, hs]
      rfl
set_option maxRecDepth 100000 in
set_option maxHeartbeats 4000000 in
theorem write_bad (hD : DkIs w p many g xs left stops) (at_ : Int) (A : Option Addr) (n c : Nat) (hE : ¬ rwE many at_ (relL stops left) n = 0) :
    Calls Try.prog 21 #[.pointer (some ⟨p, 0, none⟩), .int .i64 at_, .slice A n c] w fun e w' => e = .returned (.int .i64 (rwE many at_ (relL stops left) n)) ∧ Below w.heap.size w w' := by
  have hB0 : Below w.heap.size w (w.alloc (.cells #[.slice A n c] 30)) := (Below.refl _ w).alloc (Nat.le_refl _) _
  have b0 := BlkIs.new w 30 #[.slice A n c]
  have HT := there_gives (w.alloc (.cells #[.slice A n c] 30)) p at_
  have HA : ∀ w1 w2 : World, Below (w.heap.size + 1) (w.alloc (.cells #[.slice A n c] 30)) w1 → Below w1.heap.size w1 w2 → BlkIs w1 (w.heap.size + 1) 26 #[.pointer (some ⟨p, 0, none⟩)] → BlkIs w1 (w.heap.size + 1 + 1) 3 #[.int .i64 at_] →
      Calls Try.prog 88 #[.pointer (some ⟨p, 0, none⟩), .slice (some ⟨w2.heap.size, 0, none⟩) 3 3] (w2.alloc (.cells #[.func (.func 89) #[] #[.pointer (some ⟨w.heap.size, 0, none⟩)], .int .i64 2, .func (.func 159) #[] #[.pointer (some ⟨w.heap.size + 1 + 1, 0, none⟩), .pointer (some ⟨w.heap.size + 1, 0, none⟩)], .int .i64 4, .func (.func 154) #[.pointer (some ⟨p, 0, none⟩)] #[], .int .i64 140] 157))
        fun e w' => e = .returned (.int .i64 (rwE many at_ (relL stops left) n)) ∧ Below w2.heap.size w2 w' := fun w1 w2 hB1 hB2 s0 s1 => by
    have hB1' : Below (w.alloc (.cells #[.slice A n c] 30)).heap.size (w.alloc (.cells #[.slice A n c] 30)) w1 := by rw [World.size_alloc]; exact hB1
    have h12 := hB1'.trans (hB2.mono hB1'.size)
    have h1 := hD.grow (hB0.trans (h12.mono hB0.size))
    have e3 := asked3_gives w2 p many g xs left stops h1 (askLen w.heap.size n) (askThere (w.heap.size + 1) (w.heap.size + 1 + 1) many at_) (askGoes p left stops)
      (ans_len w2 w.heap.size A n c (b0.below h12 b0.lt)) (ans_there w2 p many g xs left stops at_ _ _ h1 (s0.below hB2 s0.lt) (s1.below hB2 s1.lt)) (ans_goes w2 p many g xs left stops h1)
    rw [first_wr] at e3
    exact e3
  have hs0 : (w.alloc (.cells #[.slice A n c] 30)).heap.size = w.heap.size + 1 := World.size_alloc _ _
  rw [hs0] at HT
  have HS0 := Lib.hid hs0
  generalize rwE many at_ (relL stops left) n = E at *
  have hE2 : (E == 0) = false := by simpa using hE
  clear hs0
  go_enter Try.func21, Try.ntmps21
  go_wp2_with (first
    | (go_at_call 90; refine HT.mono ?_; rintro e w1 ⟨rfl, s1, s2, hB1⟩)
    | (go_at_call 91; refine (goes_gives w1 p).mono ?_; rintro e w2 ⟨rfl, hB2⟩)
    | (go_at_call 88; refine (HA w1 w2 hB1 hB2 s1 s2).mono ?_; rintro e w3 ⟨rfl, hB3⟩))
  go_ret
  have s0 := hB0.size
  have s1 := HS0.out ▸ hB1.size
  exact ⟨rfl, hB0.trans ((hB1.trans ((hB2.trans (hB3.mono hB2.size)).mono s1)).mono (by omega))⟩
set_option maxRecDepth 100000 in
set_option maxHeartbeats 2000000 in
theorem sync_bad (hD : DkIs w p many g xs left stops) (hs : relL stops left = 0) :
    Calls Try.prog 23 #[.pointer (some ⟨p, 0, none⟩)] w fun e w' => e = .returned (.int .i64 140) ∧ Below w.heap.size w w' := by
  have hs2 : (stops && left == 0) = true := by rw [relL_stopped]; exact decide_eq_true hs
  have HG := goes_gives w p
  have HA : ∀ W, Below w.heap.size w W → Calls Try.prog 88 #[.pointer (some ⟨p, 0, none⟩), .slice (some ⟨W.heap.size, 0, none⟩) 1 1] (W.alloc (.cells #[.func (.func 154) #[.pointer (some ⟨p, 0, none⟩)] #[], .int .i64 140] 157)) fun e w' => e = .returned (.int .i64 140) ∧ Below W.heap.size W w' := by
    intro W hB
    have := asked1_gives W p many g xs left stops (hD.grow hB) (askGoes p left stops) (ans_goes W p many g xs left stops (hD.grow hB))
    have hf : firstE [askGoes p left stops] = 140 := by simp only [firstE, askGoes, hs2]; rfl
    rw [hf] at this
    exact this
  clear hs hs2
  go_enter Try.func23, Try.ntmps23
  go_wp2_with (first
    | (go_at_call 91; refine HG.mono ?_; rintro e w1 ⟨rfl, hB1⟩)
    | (go_at_call 88; refine (HA _ hB1).mono ?_; rintro e w2 ⟨rfl, hB2⟩))
  go_ret
  exact ⟨rfl, hB1.trans (hB2.mono hB1.size)⟩
set_option maxRecDepth 100000 in
set_option maxHeartbeats 2000000 in
theorem read_bad (hD : DkIs w p many g xs left stops) (at_ : Int) (hE : ¬ rdE many at_ (relL stops left) = 0) :
    Calls Try.prog 26 #[.pointer (some ⟨p, 0, none⟩), .int .i64 at_] w fun e w' => e = .returned (.tuple #[.slice none 0 0, .int .i64 (rdE many at_ (relL stops left))]) ∧ Below w.heap.size w w' := by
  have HT := there_gives w p at_
  have HA : ∀ w1 w2 : World, Below w.heap.size w w1 → Below w1.heap.size w1 w2 → BlkIs w1 w.heap.size 26 #[.pointer (some ⟨p, 0, none⟩)] → BlkIs w1 (w.heap.size + 1) 3 #[.int .i64 at_] →
      Calls Try.prog 88 #[.pointer (some ⟨p, 0, none⟩), .slice (some ⟨w2.heap.size, 0, none⟩) 2 2] (w2.alloc (.cells #[.func (.func 159) #[] #[.pointer (some ⟨w.heap.size + 1, 0, none⟩), .pointer (some ⟨w.heap.size, 0, none⟩)], .int .i64 4, .func (.func 154) #[.pointer (some ⟨p, 0, none⟩)] #[], .int .i64 140] 157))
        fun e w' => e = .returned (.int .i64 (rdE many at_ (relL stops left))) ∧ Below w2.heap.size w2 w' := fun w1 w2 hB1 hB2 s0 s1 => by
    have h1 := hD.grow (hB1.trans (hB2.mono hB1.size))
    have e3 := asked2_gives w2 p many g xs left stops h1 (askThere w.heap.size (w.heap.size + 1) many at_) (askGoes p left stops)
      (ans_there w2 p many g xs left stops at_ _ _ h1 (s0.below hB2 s0.lt) (s1.below hB2 s1.lt)) (ans_goes w2 p many g xs left stops h1)
    rw [first_rd] at e3
    exact e3
  generalize rdE many at_ (relL stops left) = E at *
  have hE2 : (E != 0) = true := by simpa using hE
  go_enter Try.func26, Try.ntmps26
  go_wp2_with (first
    | (go_at_call 90; refine HT.mono ?_; rintro e w1 ⟨rfl, s1, s2, hB1⟩)
    | (go_at_call 91; refine (goes_gives w1 p).mono ?_; rintro e w2 ⟨rfl, hB2⟩)
    | (go_at_call 88; refine (HA w1 w2 hB1 hB2 s1 s2).mono ?_; rintro e w3 ⟨rfl, hB3⟩))
  go_ret2
  exact ⟨rfl, hB1.trans ((hB2.trans (hB3.mono hB2.size)).mono hB1.size)⟩
set_option maxRecDepth 100000 in
set_option maxHeartbeats 2000000 in
theorem stop_bad (hD : DkIs w p many g xs left stops) (t : Int) (ht : t < 0) :
    Calls Try.prog 87 #[.pointer (some ⟨p, 0, none⟩), .int .i64 t] w fun e w' => e = .returned (.int .i64 2) ∧ Below w.heap.size w w' := by
  have hB0 : Below w.heap.size w (w.alloc (.cells #[.int .i64 t] 3)) := (Below.refl _ w).alloc (Nat.le_refl _) _
  have b0 := BlkIs.new w 3 #[.int .i64 t]
  have HA : Calls Try.prog 88 #[.pointer (some ⟨p, 0, none⟩), .slice (some ⟨w.heap.size + 1, 0, none⟩) 1 1] ((w.alloc (.cells #[.int .i64 t] 3)).alloc (.cells #[.func (.func 158) #[] #[.pointer (some ⟨w.heap.size, 0, none⟩)], .int .i64 2] 157)) fun e w' => e = .returned (.int .i64 2) ∧ Below (w.heap.size + 1) (w.alloc (.cells #[.int .i64 t] 3)) w' := by
    have h := asked1_gives (w.alloc (.cells #[.int .i64 t] 3)) p many g xs left stops (hD.grow hB0) (askStop w.heap.size t) (ans_stop _ w.heap.size t b0)
    have hf : firstE [askStop w.heap.size t] = 2 := by simp only [firstE, askStop, decide_eq_true ht]; rfl
    rw [hf, World.size_alloc] at h
    exact h
  clear ht
  go_enter Try.func87, Try.ntmps87
  go_wp2_with (go_at_call 88; refine HA.mono ?_; rintro e w2 ⟨rfl, hB2⟩)
  go_ret
  exact ⟨rfl, hB0.trans (hB2.mono (by omega))⟩
set_option maxRecDepth 100000 in
set_option maxHeartbeats 2000000 in
theorem crash_bad (hD : DkIs w p many g xs left stops) (t : Int) (K : Value) (ht : t < 0 ∨ 63 < t) :
    Calls Try.prog 25 #[.pointer (some ⟨p, 0, none⟩), .int .i64 t, K] w fun e w' => e = .returned (.int .i64 2) ∧ Below w.heap.size w w' := by
  have hB0 : Below w.heap.size w (w.alloc (.cells #[.int .i64 t] 3)) := (Below.refl _ w).alloc (Nat.le_refl _) _
  have b0 := BlkIs.new w 3 #[.int .i64 t]
  have HA : Calls Try.prog 88 #[.pointer (some ⟨p, 0, none⟩), .slice (some ⟨w.heap.size + 1, 0, none⟩) 1 1] ((w.alloc (.cells #[.int .i64 t] 3)).alloc (.cells #[.func (.func 97) #[] #[.pointer (some ⟨w.heap.size, 0, none⟩)], .int .i64 2] 157)) fun e w' => e = .returned (.int .i64 2) ∧ Below (w.heap.size + 1) (w.alloc (.cells #[.int .i64 t] 3)) w' := by
    have h := asked1_gives (w.alloc (.cells #[.int .i64 t] 3)) p many g xs left stops (hD.grow hB0) (askTear w.heap.size t) (ans_tear _ w.heap.size t b0)
    have hq : (decide (t < 0) || decide (63 < t)) = true := by simpa using ht
    have hf : firstE [askTear w.heap.size t] = 2 := by simp only [firstE, askTear, hq]; rfl
    rw [hf, World.size_alloc] at h
    exact h
  clear ht
  go_enter Try.func25, Try.ntmps25
  go_wp2_with (go_at_call 88; refine HA.mono ?_; rintro e w2 ⟨rfl, hB2⟩)
  go_ret
  exact ⟨rfl, hB0.trans (hB2.mono (by omega))⟩
set_option maxRecDepth 100000 in
theorem len_gives (h : DkIs w p many g xs left stops) : Calls Try.prog 152 #[.pointer (some ⟨p, 0, none⟩)] w fun e w' => e = .returned (.int .i64 (many : Int)) ∧ w = w' := by
  have HN := none_gives w p many g xs left stops h
  obtain ⟨r, A, c, hb, hm, hx⟩ := h.has
  have c1 : w.cell? ⟨p, 1, none⟩ = some (.int .i64 (many : Int)) := by rw [hb.cell]; rfl
  go_enter Try.func152, Try.ntmps152
  go_wp2_with (go_at_call 95; refine HN.mono ?_; rintro e w' ⟨rfl, rfl⟩)
  go_ret
  exact ⟨rfl, rfl⟩
set_option maxRecDepth 100000 in
theorem loose_gives (h : DkIs w p many g xs left stops) : Calls Try.prog 153 #[.pointer (some ⟨p, 0, none⟩)] w fun e w' => e = .returned (.int .i64 (xs.length : Int)) ∧ w = w' := by
  have HN := none_gives w p many g xs left stops h
  obtain ⟨r, A, c, hb, hm, hx⟩ := h.has
  have c2 : w.cell? ⟨p, 2, none⟩ = some (.slice A xs.length c) := by rw [hb.cell]; rfl
  go_enter Try.func153, Try.ntmps153
  go_wp2_with (go_at_call 95; refine HN.mono ?_; rintro e w' ⟨rfl, rfl⟩)
  go_ret
  exact ⟨rfl, rfl⟩
end
end Go.Proofs.Ytlelckdcmlpmdaa
/- Regions that draw their order, walked by hand, where no operation writes what is looked at: fin is no operation's number. -/
namespace Go.Proofs.Ytlelckdcmlpmdaa
open Go Go.RowKit Lou
namespace RegF
section
variable {P : Program} {ops : Array Oper} {Q : Exit → Act → World → Prop} {md : Region.Mode} {S : World → Prop} {fin : Nat}
theorem first0 {i : Nat} {oi : Oper} {v : Value} (hi : ops[i]? = some oi) (hsel : ∀ (j : Nat) (o : Oper) cs b, ops[j]? = some o → o.op ≠ .select cs b)
    (hQ : ∀ c a w, Q (.panic c) (a.put oi.dst v) w → Q (.panic c) a w) (hfin : ops[fin]? = none) :
    ∀ (fuel : Nat) (listed : Array Bool) (a : Act) (w : World),
      (∀ j oj, ops[j]? = some oj → j ≠ i → listed.getD j true = false → (∀ e ∈ oj.after, Region.binds md e = true → e.on ≠ i) → oi.apart ops oj = true) →
      i ∈ Region.ready md ops listed → YieldsIf P ops S oi v a → S w →
      wpAnyF P md ops Q S fin fuel (listed.setIfInBounds i true) (a.put oi.dst v) w → wpAnyF P md ops Q S fin (fuel + 1) listed a w := by
  intro fuel
  induction fuel with
  | zero =>
    intro listed a w _ hr hy hS H
    refine ⟨fun h => (by rw [h] at hr; cases hr), fun j hj => ?_⟩
    by_cases hji : j = i
    · subst hji; exact hy.wpOp hi hS ⟨fun _ => hS, H⟩
    · have := ready_mono hj hji
      rw [H.1] at this
      cases this
  | succ fuel ih =>
    intro listed a w hfree hr hy hS H
    refine ⟨fun h => (by rw [h] at hr; cases hr), fun j hj => ?_⟩
    by_cases hji : j = i
    · subst hji; exact hy.wpOp hi hS ⟨fun _ => hS, H⟩
    · have h1 := H.2 j (ready_mono hj hji)
      obtain ⟨hjun, oj, hoj, hall⟩ := mem_ready.1 hj
      have hnot : ∀ e ∈ oj.after, Region.binds md e = true → e.on ≠ i := fun e he hb heq => by
        have h1 := hall e he hb
        have h0 := (mem_ready.1 hr).1
        rw [heq] at h1
        rcases Nat.lt_or_ge i listed.size with h' | h'
        · simp [h'] at h0 h1; rw [h0] at h1; cases h1
        · simp [Array.getElem?_eq_none h'] at h1
      have hjf : j ≠ fin := fun e => by subst e; rw [hoj] at hfin; cases hfin
      have h2 := wpOp_putIf hoj (hfree j oj hoj hji hjun hnot) (fun cs b => hsel i oi cs b hi) (fun cs b => hsel j oj cs b hoj) hQ hy h1
      have hfree' : ∀ k ok, ops[k]? = some ok → k ≠ i → (listed.setIfInBounds j true).getD k true = false →
          (∀ e ∈ ok.after, Region.binds md e = true → e.on ≠ i) → oi.apart ops ok = true := fun k ok hk hki hun hno => by
        refine hfree k ok hk hki ?_ hno
        by_cases hjk : j = k
        · subst hjk; exact hjun
        · rw [getD_set_ne true hjk] at hun; exact hun
      refine wpOp_mono (fun a' w' h3 => ⟨h3.2.1, ih (listed.setIfInBounds j true) a' w' hfree' (ready_mono hr (Ne.symm hji)) h3.1 (h3.2.1 hjf) ?_⟩) h2
      rw [Array.setIfInBounds_comm _ _ hji]
      exact h3.2.2
theorem take0 {fuel : Nat} {listed : Array Bool} {a : Act} {w : World} (i : Nat) {oi : Oper} (v : Value) (hi : ops[i]? = some oi)
    (hs : Region.noSelect ops = true) (hf : Region.free md ops listed i = true) (hr : (Region.ready md ops listed).contains i = true) (hfin : ops[fin]? = none)
    (hQ : ∀ c a w, Q (.panic c) (a.put oi.dst v) w → Q (.panic c) a w) (hS : S w) (hy : YieldsIf P ops S oi v a)
    (h : wpAnyF P md ops Q S fin fuel (listed.setIfInBounds i true) (a.put oi.dst v) w) : wpAnyF P md ops Q S fin (fuel + 1) listed a w :=
  first0 hi (Region.noSelect_spec hs) hQ hfin fuel listed a w (Region.free_spec hi hf) (by simpa using hr) hy hS h
end
end RegF
end Go.Proofs.Ytlelckdcmlpmdaa
/- A range over a function whose rounds may lean on what the iterator says of each value it hands over, in the world in which it does. -/
namespace Go.Proofs.Ytlelckdcmlpmdaa
open Go Go.RowKit Go.Shelf
attribute [local go_sem] Oper.semAt_some

/-- What abides whatever happens to blocks from B on. -/
def AbNew {β : Type} (B : Nat) (I : β → World → Prop) : Prop := ∀ s X Y row, I s X → X.grownBy Y row → (∀ r, row = some r → B ≤ r) → I s Y
theorem AbNew.more {β : Type} {B B' : Nat} {I : β → World → Prop} (h : AbNew B I) (hB : B ≤ B') : AbNew B' I := fun s X Y row hs hg hr => h s X Y row hs hg (fun r e => Nat.le_trans hB (hr r e))
theorem AbNew.alloc {β : Type} {B : Nat} {I : β → World → Prop} (h : AbNew B I) {s : β} {X : World} (o : Obj) (hs : I s X) : I s (X.alloc o) :=
  h s X _ none hs ⟨rfl, rfl, rfl, by simp, fun k hk _ => Below.heap_alloc X o k hk⟩ (fun r e => by cases e)
theorem AbNew.drew {β : Type} {B : Nat} {I : β → World → Prop} (h : AbNew B I) {s : β} {X : World} (hs : I s X) : I s X.drew := h s X _ none hs (grownBy_drew X none) (fun r e => by cases e)
theorem AbNew.putObj {β : Type} {B : Nat} {I : β → World → Prop} (h : AbNew B I) {s : β} {X : World} {l : Nat} (o : Obj) (hs : I s X) (hl : B ≤ l) : I s (X.putObj l o) := h s X _ (some l) hs (grownBy_putObj' X l o) (fun r e => by cases e; exact hl)
theorem AbNew.setCell {β : Type} {B : Nat} {I : β → World → Prop} (h : AbNew B I) {s : β} {X : World} {p : Addr} (v : Value) (hs : I s X) (hl : B ≤ p.block) : I s (X.setCell p v) :=
  h s X _ (some p.block) hs ⟨rfl, rfl, rfl, by simp, fun k _ hk => Below.heap_setCell X p v k (fun e => hk (by rw [e]))⟩ (fun r e => by cases e; exact hl)
theorem AbNew.grow {β : Type} {B : Nat} {I : β → World → Prop} (h : AbNew B I) {s : β} {X Y : World} (hs : I s X) (hg : Below X.heap.size X Y) : I s Y := h s X Y none hs ⟨hg.os, hg.tape, hg.output, hg.size, fun k hk _ => hg.block k hk⟩ (fun r e => by cases e)
/-- All blocks are kept, but those below B that may be written. -/
def KeepOut (Mu : Nat → Prop) (B : Nat) (W W' : World) : Prop := W.heap.size ≤ W'.heap.size ∧ ∀ k o, W.heap[k]? = some o → (k < B → ¬ Mu k) → W'.heap[k]? = some o
theorem KeepOut.refl (Mu : Nat → Prop) (B : Nat) (W : World) : KeepOut Mu B W W := ⟨Nat.le_refl _, fun _ _ h _ => h⟩
theorem KeepOut.trans {Mu : Nat → Prop} {B : Nat} {X Y Z : World} (h : KeepOut Mu B X Y) (k : KeepOut Mu B Y Z) : KeepOut Mu B X Z := ⟨Nat.le_trans h.1 k.1, fun i o hi hm => k.2 i o (h.2 i o hi hm) hm⟩
theorem KeepOut.any {Mu : Nat → Prop} {B : Nat} {X Y : World} (h : KeepOut Mu B X Y) : KeepOut (fun _ => True) B X Y := ⟨h.1, fun k o hk hm => h.2 k o hk (fun hb => absurd trivial (hm hb))⟩
theorem KeepOut.more {Mu : Nat → Prop} {B B' : Nat} {X Y : World} (h : KeepOut Mu B X Y) (hB : B ≤ B') : KeepOut Mu B' X Y := ⟨h.1, fun k o hk hm => h.2 k o hk (fun hb => hm (by omega))⟩
theorem KeepOut.grow (Mu : Nat → Prop) (B : Nat) {X Y : World} (h : Below X.heap.size X Y) : KeepOut Mu B X Y := ⟨h.size, fun k o hk _ => (h.block k (Array.getElem?_eq_some_iff.1 hk).1).trans hk⟩
theorem KeepOut.setCell {Mu : Nat → Prop} {B : Nat} (X : World) (p : Addr) (v : Value) (hp : p.block < B) (hm : Mu p.block) : KeepOut Mu B X (X.setCell p v) :=
  ⟨by simp, fun k o hk hn => (Below.heap_setCell X p v k (fun e => hn (by rw [e]; exact hp) (by rw [e]; exact hm))).trans hk⟩
theorem KeepOut.cell {Mu : Nat → Prop} {B : Nat} {X Y : World} (h : KeepOut Mu B X Y) {p : Addr} {v : Value} (hc : X.cell? p = some v) (hm : p.block < B → ¬ Mu p.block) : Y.cell? p = some v := by
  have hb : ∃ o, X.heap[p.block]? = some o := by
    cases ho : X.heap[p.block]? with
    | none => simp [World.cell?, ho] at hc
    | some o => exact ⟨o, rfl⟩
  obtain ⟨o, ho⟩ := hb
  rw [World.cell?_of_block ((h.2 _ o ho hm).trans ho.symm)]
  exact hc
theorem KeepOut.blk {Mu : Nat → Prop} {B : Nat} {X Y : World} (h : KeepOut Mu B X Y) {g : Nat} {t : TypeId} {cs : Array Value} (hb : BlkIs X g t cs) (hm : g < B → ¬ Mu g) : BlkIs Y g t cs := h.2 _ _ hb hm
theorem KeepOut.inB {Mu : Nat → Prop} {B n₀ : Nat} {X Y : World} (h : KeepOut Mu B X Y) {A : Option Addr} {c : Nat} {l : List UInt8} (hb : InB X n₀ A c l) (hm : ∀ g, g < n₀ → ¬ Mu g) : InB Y n₀ A c l :=
  ⟨hb.le, hb.max, hb.nil, fun hl => by
    obtain ⟨g, o, e, hg, hc⟩ := hb.lies hl
    exact ⟨g, o, e, hg, fun j hj => h.cell (hc j hj) (fun _ => hm g hg)⟩⟩
/-- What an iterator does: as the kit's SeqStopsK, but that a round is asked only at values of which Rd holds, and keeps all but what lay there at the start and may be written (Mu). -/
def SeqR {α : Type} (F : Fence) (n : Nat) (P : Program) (g : Nat) (lb : Array Value) (encs : α → Array Value) (Mu : Nat → Prop) (Rd : List α → α → World → Prop) (S Sp : List α → Prop) (w : World) : Prop :=
  ∀ (l : Nat) (J Jx : List α → World → Prop) (W : World), Below w.heap.size w W → AbNew W.heap.size J → AbNew W.heap.size Jx →
    (∀ pre x W1, J pre W1 → Rd pre x W1 → YieldAt F (n - 1) P l (encs x) W1 fun e W' =>
      (e = .returned (.bool true) ∧ J (pre ++ [x]) W' ∧ KeepOut Mu W.heap.size W1 W') ∨ (e = .returned (.bool false) ∧ Jx (pre ++ [x]) W' ∧ KeepOut (fun _ => True) W.heap.size W1 W')) →
    J [] W →
    CallsIn F n P g (#[.func (.yield l) #[] #[]] ++ lb) W fun e W' => (∃ v, e = .returned v) ∧ ((∃ xs, S xs ∧ J xs W') ∨ (∃ pre, Sp pre ∧ Jx pre W'))
/-- How the body of a round may be left. -/
def postR {α : Type} (Mu : Nat → Prop) (B : Nat) (I : List α → World → Prop) (Ix : Code → List α → World → Prop) (xs : List α) (W : World) : Exit → Act → World → Prop
  | .normal, _, W' => KeepOut Mu B W W' ∧ I xs W'
  | .ret, _, W' => KeepOut (fun _ => True) B W W' ∧ Ix .ret xs W'
  | .exit id, _, W' => KeepOut (fun _ => True) B W W' ∧ Ix (.exit id) xs W'
  | .goto t, _, W' => KeepOut (fun _ => True) B W W' ∧ Ix (.goto t) xs W'
  | .panic _, _, _ => False
  | .outgrown, _, _ => False

section
variable {F : Fence} {n : Nat} {P : Program} {w : World}
theorem wpIn_rangeFunc_R {α : Type} {g : Operand} {ps : Array Tmp} {assign body : Code} {Q : Exit → Act → World → Prop} {a : Act}
    (hro : F.round = none) (h1 : 1 ≤ n) {gf : Nat} {lb : Array Value} (hg : a.eval g = .func (.func gf) #[] lb) (hFg : F.fn gf) (eg : ∀ args w, (callFunc gf args).run P w = .ok (.enter gf args) w)
    {encs : α → Array Value} {Mu : Nat → Prop} {Rd : List α → α → World → Prop} {S Sp : List α → Prop} {w0 : World} (hseq : SeqR F (n - 1) P gf lb encs Mu Rd S Sp w0)
    (hb0 : Below w0.heap.size w0 w) (hps : ∀ x, (encs x).size = ps.size)
    (I : List α → World → Prop) (Ix : Code → List α → World → Prop) (hI : AbNew w.heap.size I) (hIx : ∀ c, AbNew w.heap.size (Ix c)) (hRd : ∀ pre x, OwnFrom w.heap.size (fun (_ : Unit) W => Rd pre x W)) (h0 : I [] w) (a₁ : α → Act)
    (hassign : ∀ (l : Nat) (x : α) (W : World) (K : Act → World → Prop), K (a₁ x) W →
      assign.wpIn (F.inRound l) (n - 1 - 1) P (Exit.then K (fun _ _ _ => False)) { tmps := (ps.zip (encs x)).foldl (fun t (p, v) => t.setIfInBounds p v) a.tmps, defers := [] } W)
    (hbody : ∀ (l : Nat) (pre : List α) (x : α) (W : World), I pre W → Rd pre x W → body.wpIn (F.inRound l) (n - 1 - 1) P (postR Mu w.heap.size I Ix (pre ++ [x]) W) (a₁ x) W)
    (hdone : ∀ (D : Nat) (xs : List α) (W : World), w.heap.size ≤ D → S xs → I xs W → W.heap[D]? = some (.deferred (some [])) → Q .normal { a with defers := { target := .collected D, args := #[] } :: a.defers } W)
    (hstop : ∀ (D : Nat) (c : Code) (pre : List α) (W : World), w.heap.size ≤ D → Sp pre → Ix c pre W → W.heap[D]? = some (.deferred (some [])) → c.wpIn F n P Q { a with defers := { target := .collected D, args := #[] } :: a.defers } W) :
    (Code.rangeFunc g ps assign body).wpIn F n P Q a w := by
  refine wpIn_rangeFunc fun fn hfn => ?_
  rw [hro]
  -- the loop's record, and the world that bears it and the block for deferred calls
  obtain ⟨rec, hrec⟩ : ∃ rec : LoopState → Option Code → Loop, rec = fun st pe => { state := st, pending := pe, fn, tmps := a.tmps, params := ps, assign, body, defers := w.heap.size } := ⟨_, rfl⟩
  obtain ⟨V, hV⟩ : ∃ V, (w.alloc (.deferred (some []))).alloc (.loop (rec .ready none)) = V := ⟨_, rfl⟩
  have vL : V.heap[w.heap.size + 1]? = some (.loop (rec .ready none)) := by
    subst hV
    have := World.alloc_heap_new (w.alloc (.deferred (some []))) (.loop (rec .ready none))
    rwa [World.size_alloc] at this
  have vD : V.heap[w.heap.size]? = some (.deferred (some [])) := by
    subst hV
    exact (Below.heap_alloc _ _ _ (by simp)).trans (World.alloc_heap_new w _)
  have vI : I [] V := by subst hV; exact hI.alloc _ (hI.alloc _ h0)
  have vS : V.heap.size = w.heap.size + 2 := by subst hV; simp
  have vB : Below w0.heap.size w0 V := by
    subst hV
    exact hb0.trans ((((Below.refl _ w).alloc (Nat.le_refl _) _).alloc (by simp) _).mono hb0.size)
  refine ⟨w.heap.size + 1, [{ target := .collected w.heap.size, args := #[] }], V, { target := .fn (.func gf) lb, args := #[.func (.yield (w.heap.size + 1)) #[] #[]] }, V, gf, #[.func (.yield (w.heap.size + 1)) #[] #[]] ++ lb, V, ?_, ?_, ?_, ?_, fun _ => h1, ?_⟩
  · rw [← hV, hrec]; exact run_enterLoop_outer _ _ _ _ _
  · simp only [resolve, hg]
    simp [go_sem]
  · intro f' hf'
    simp [Target.leads] at hf'
    subst hf'
    exact hFg
  · simp [invoke, go_sem, eg]
  have apart : ∀ {A B : World} {row : Option Nat} {k : Nat} {o : Obj}, A.heap[k]? = some o → A.grownBy B row → (∀ r, row = some r → V.heap.size ≤ r) → k < V.heap.size → B.heap[k]? = some o := fun hk hg hr hlt =>
    (hg.block _ (Array.getElem?_eq_some_iff.1 hk).1 (fun e => by have := hr _ e.symm; omega)).trans hk
  refine (hseq (w.heap.size + 1)
    (fun pre W => I pre W ∧ W.heap[w.heap.size + 1]? = some (.loop (rec .ready none)) ∧ W.heap[w.heap.size]? = some (.deferred (some [])))
    (fun pre W => ∃ c, Ix c pre W ∧ W.heap[w.heap.size + 1]? = some (.loop (rec .done (some c))) ∧ W.heap[w.heap.size]? = some (.deferred (some [])))
    V vB
    (fun s A B row hs hg' hr => ⟨hI s A B row hs.1 hg' (fun r e => by have := hr r e; omega), apart hs.2.1 hg' hr (by omega), apart hs.2.2 hg' hr (by omega)⟩)
    (fun s A B row hs hg' hr => by
      obtain ⟨c, hc, hl, hk⟩ := hs
      exact ⟨c, hIx c s A B row hc hg' (fun r e => by have := hr r e; omega), apart hl hg' hr (by omega), apart hk hg' hr (by omega)⟩)
    ?round ⟨vI, vL, vD⟩).mono ?behind
  case round =>
    rintro pre x W ⟨hi, hl, hk⟩ hrd
    have hlt : w.heap.size + 1 < W.heap.size := (Array.getElem?_eq_some_iff.1 hl).1
    have hy := run_yield (P := P) (args := encs x) hl (by rw [hrec]; exact hps x)
    rw [hrec] at hy
    refine ⟨fn, _, assign, body, hy, roundIn_of_wpIn hfn (hassign _ x W _ ⟨_, run_beginRound hl (by rw [hrec]), ?_⟩)⟩
    clear hy
    have bL : (W.putObj (w.heap.size + 1) (.loop { rec .ready none with state := .busy })).heap[w.heap.size + 1]? = some (.loop { rec .ready none with state := .busy }) := World.putObj_heap_same hlt
    have bD : (W.putObj (w.heap.size + 1) (.loop { rec .ready none with state := .busy })).heap[w.heap.size]? = some (.deferred (some [])) := (World.putObj_heap_other (by omega)).trans hk
    refine wpIn_mono (hbody _ pre x _ (hI.putObj _ hi (by omega)) ((hRd pre x).putObj (s := ()) _ hrd (by omega) hl rfl)) ?_
    -- the round's end
    have fin : ∀ (jump : Option Code) (U : World), KeepOut (fun _ => True) w.heap.size (W.putObj (w.heap.size + 1) (.loop { rec .ready none with state := .busy })) U →
        (Instr.endRound (w.heap.size + 1) jump).run P U = .ok (.bool jump.isNone) (U.putObj (w.heap.size + 1) (.loop (rec (if jump.isNone then .ready else .done) jump))) ∧
        U.heap[w.heap.size + 1]? = some (.loop { rec .ready none with state := .busy }) ∧
        (U.putObj (w.heap.size + 1) (.loop (rec (if jump.isNone then .ready else .done) jump))).heap[w.heap.size + 1]? = some (.loop (rec (if jump.isNone then .ready else .done) jump)) ∧
        (U.putObj (w.heap.size + 1) (.loop (rec (if jump.isNone then .ready else .done) jump))).heap[w.heap.size]? = some (.deferred (some [])) := fun jump U hkU => by
      have uL := hkU.2 _ _ bL (fun h => by omega)
      have := run_endRound (P := P) jump uL
      rw [hrec] at this ⊢
      exact ⟨this, by rw [hrec] at uL; exact uL, World.putObj_heap_same (Array.getElem?_eq_some_iff.1 uL).1, (World.putObj_heap_other (by omega)).trans (hkU.2 _ _ bD (fun h => by omega))⟩
    have out : ∀ (c : Code) (U : World), KeepOut (fun _ => True) w.heap.size (W.putObj (w.heap.size + 1) (.loop { rec .ready none with state := .busy })) U → Ix c (pre ++ [x]) U →
        (∃ c', Ix c' (pre ++ [x]) (U.putObj (w.heap.size + 1) (.loop (rec .done (some c)))) ∧ (U.putObj (w.heap.size + 1) (.loop (rec .done (some c)))).heap[w.heap.size + 1]? = some (.loop (rec .done (some c'))) ∧ (U.putObj (w.heap.size + 1) (.loop (rec .done (some c)))).heap[w.heap.size]? = some (.deferred (some []))) ∧ KeepOut (fun _ => True) V.heap.size W (U.putObj (w.heap.size + 1) (.loop (rec .done (some c)))) := fun c U hkU hix => by
      obtain ⟨_, h3, h4, h5⟩ := fin (some c) U hkU
      refine ⟨⟨c, (hIx c).putObj _ hix (by omega), h4, h5⟩, by have := hkU.1; simpa using this, fun k o hk hm => ?_⟩
      have hkl : k ≠ w.heap.size + 1 := fun e => hm (by omega) trivial
      rw [World.putObj_heap_other hkl]
      exact hkU.2 k o (by rw [World.putObj_heap_other hkl]; exact hk) (fun h => hm (by omega))
    rintro e a3 U hp
    cases e with
    | normal =>
      obtain ⟨hk3, hi3⟩ := hp
      obtain ⟨hr, h3, h4, h5⟩ := fin none U hk3.any
      refine ⟨_, _, hr, .inl ⟨rfl, ⟨hI.putObj _ hi3 (by omega), h4, h5⟩, by have := hk3.1; simpa using this, fun k o hk hm => ?_⟩⟩
      by_cases hkl : k = w.heap.size + 1
      · subst hkl
        rw [hl] at hk
        rw [← hk]
        exact h4
      · rw [World.putObj_heap_other hkl]
        exact hk3.2 k o (by rw [World.putObj_heap_other hkl]; exact hk) (fun h => hm (by omega))
    | ret => exact ⟨_, _, (fin (some .ret) U hp.1).1, .inr ⟨rfl, out .ret U hp.1 hp.2⟩⟩
    | exit id => exact ⟨_, _, (fin (some (.exit id)) U hp.1).1, .inr ⟨rfl, out (.exit id) U hp.1 hp.2⟩⟩
    | goto t => exact ⟨_, _, (fin (some (.goto t)) U hp.1).1, .inr ⟨rfl, out (.goto t) U hp.1 hp.2⟩⟩
    | panic ch => exact hp.elim
    | outgrown => exact hp.elim
  case behind =>
    rintro e U ⟨⟨v, rfl⟩, (⟨xs, hS, hi, hl, hk⟩ | ⟨pre, hSp, c, hi, hl, hk⟩)⟩
    · have hr := run_endLoop (P := P) hl (by rw [hrec]; simp)
      rw [hrec] at hr
      exact ⟨none, _, hr, hdone _ xs _ (Nat.le_refl _) hS (hI.putObj _ hi (by omega)) ((World.putObj_heap_other (by omega)).trans hk)⟩
    · have hr := run_endLoop (P := P) hl (by rw [hrec]; simp)
      rw [hrec] at hr
      exact ⟨some c, _, hr, hstop _ c pre _ (Nat.le_refl _) hSp ((hIx c).putObj _ hi (by omega)) ((World.putObj_heap_other (by omega)).trans hk)⟩
end
end Go.Proofs.Ytlelckdcmlpmdaa
/- octet.Numbers: what its function goes through. -/
namespace Lou
/-- The numbers read in order from the start, and where the next would stand. -/
inductive Run (l : List UInt8) : List (Nat × Nat) → Nat → Prop
  | nil : Run l [] 0
  | snoc {pre : List (Nat × Nat)} {p v u : Nat} : Run l pre p → rd (l.drop p) = some (v, u) → Run l (pre ++ [(p, v)]) (p + u)
theorem Run.le {l : List UInt8} {pre : List (Nat × Nat)} {p : Nat} (h : Run l pre p) : pre.length ≤ p ∧ p ≤ l.length := by
  induction h with
  | nil => simp
  | snoc _ hr ih =>
    have := rd_bound hr
    simp at this ⊢
    omega
theorem Run.inv {l : List UInt8} {r : List (Nat × Nat)} {q : Nat} (h : Run l r q) : (r = [] ∧ q = 0) ∨ ∃ pre p v u, r = pre ++ [(p, v)] ∧ q = p + u ∧ Run l pre p ∧ rd (l.drop p) = some (v, u) := by
  cases h with
  | nil => exact .inl ⟨rfl, rfl⟩
  | snoc h hr => exact .inr ⟨_, _, _, _, rfl, rfl, h, hr⟩
theorem Run.det {l : List UInt8} {pre : List (Nat × Nat)} {p : Nat} (h : Run l pre p) : ∀ {q}, Run l pre q → p = q := by
  induction h with
  | nil =>
    intro q hq
    rcases hq.inv with ⟨_, e⟩ | ⟨pre, p, v, u, e, _⟩
    · exact e.symm
    · simp at e
  | snoc h hr ih =>
    intro q hq
    rcases hq.inv with ⟨e, _⟩ | ⟨pre', p', v', u', e, rfl, h', hr'⟩
    · simp at e
    · have e1 := List.append_inj' e rfl
      obtain ⟨rfl, e2⟩ := e1
      simp only [List.cons.injEq, Prod.mk.injEq, and_true] at e2
      obtain ⟨rfl, rfl⟩ := e2
      rw [hr] at hr'
      injection hr' with e3
      injection e3 with _ e4
      rw [e4]
/-- What stands next is the only one that goes on. -/
theorem Run.next {l : List UInt8} {pre : List (Nat × Nat)} {p : Nat} (h : Run l pre p) {x : Nat × Nat} {q : Nat} (h' : Run l (pre ++ [x]) q) : ∃ u, x.1 = p ∧ rd (l.drop p) = some (x.2, u) ∧ q = p + u := by
  rcases h'.inv with ⟨e, _⟩ | ⟨pre', p', v', u', e, rfl, h2, hr'⟩
  · simp at e
  · have e1 := List.append_inj' e rfl
    obtain ⟨rfl, e2⟩ := e1
    simp only [List.cons.injEq, and_true] at e2
    subst e2
    have := h.det h2
    subst this
    exact ⟨u', rfl, hr', rfl⟩
end Lou
namespace Go.Proofs.Ytlelckdcmlpmdaa
open Go Go.RowKit Lou Go.Shelf
attribute [local go_sem] Oper.semAt_some

theorem wrap_i64_id' (n : Int) (h0 : -9223372036854775808 ≤ n) (h1 : n < 9223372036854775808) : IntKind.i64.wrap n = n := by
  simp [IntKind.wrap, IntKind.bits, IntKind.signed]
  split <;> omega
theorem wpIn_scope_wide {P : Program} {n : Nat} {c : Code} {Q : Exit → Act → World → Prop} {a : Act} {w : World} (h : c.wpIn Fence.wide n P (Exit.noGoto Q) a w) : (Code.scope c).wpIn Fence.wide n P Q a w := wpIn_wide.2 (wp_scope_straight (wpIn_wide.1 h))
section
variable {w0 : World} {n₀ : Nat}

end
end Go.Proofs.Ytlelckdcmlpmdaa
/- slices.Chunk over bytes; frame.Cut: what its function goes through. -/
namespace Go.Proofs.Ytlelckdcmlpmdaa
open Go Go.RowKit Lou Go.Shelf
attribute [local go_sem] Oper.semAt_some

/-- How long a chunk is; how many there are. -/
def chLen (L k : Nat) : Nat := min 64 (L - 64 * k)
def chAll (L : Nat) : Nat := (L + 63) / 64
/-- Two boxes hold what they held. -/
def Keep2 (Bs Bn : Nat) (W W' : World) : Prop := W'.cell? ⟨Bs, 0, none⟩ = W.cell? ⟨Bs, 0, none⟩ ∧ W'.cell? ⟨Bn, 0, none⟩ = W.cell? ⟨Bn, 0, none⟩
theorem Keep2.trans {Bs Bn : Nat} {X Y Z : World} (h : Keep2 Bs Bn X Y) (k : Keep2 Bs Bn Y Z) : Keep2 Bs Bn X Z := ⟨k.1.trans h.1, k.2.trans h.2⟩
/-- A chunk's bytes. -/
def chunkB (b : List UInt8) (k : Nat) : List UInt8 := (b.drop (64 * k)).take 64
theorem BlkIs.abNew {B g : Nat} {t : TypeId} {cs : Array Value} (hg : g < B) {W W' : World} {row : Option Nat} (h : BlkIs W g t cs) (hgr : W.grownBy W' row) (hr : ∀ r, row = some r → B ≤ r) : BlkIs W' g t cs :=
  h.grown hgr (fun e => by have := hr g e.symm; omega)
theorem below_abNew {B n₀ : Nat} {w : World} (hB : n₀ ≤ B) {W W' : World} {row : Option Nat} (hw : n₀ ≤ W.heap.size) (h : Below n₀ w W) (hgr : W.grownBy W' row) (hr : ∀ r, row = some r → B ≤ r) : Below n₀ w W' :=
  h.trans (grown_below hgr hw (fun r e => Nat.le_trans hB (hr r e)))
section
variable {n₀ : Nat}
/-- What Cut's function hands over: a chunk's number, and where its bytes lie. -/
def cutEnc (L : Nat) (x : Nat × (Option Addr × Nat)) : Array Value := #[.int .i64 (x.1 : Int), .slice x.2.1 (chLen L x.1) x.2.2]
def CutRd (b : List UInt8) (pre : List (Nat × (Option Addr × Nat))) (x : Nat × (Option Addr × Nat)) (W : World) : Prop := x.1 = pre.length ∧ 64 * x.1 < b.length ∧ InB W W.heap.size x.2.1 x.2.2 (chunkB b x.1)
end
end Go.Proofs.Ytlelckdcmlpmdaa
/- As RangeR, but what a round begins with (the range's variables, laid anew) may lie in memory. -/
namespace Go.Proofs.Ytlelckdcmlpmdaa
open Go Go.RowKit Go.Shelf
attribute [local go_sem] Oper.semAt_some

section
variable {F : Fence} {n : Nat} {P : Program} {w : World}
theorem wpIn_rangeFunc_A {α : Type} {g : Operand} {ps : Array Tmp} {assign body : Code} {Q : Exit → Act → World → Prop} {a : Act}
    (hro : F.round = none) (h1 : 1 ≤ n) {gf : Nat} {lb : Array Value} (hg : a.eval g = .func (.func gf) #[] lb) (hFg : F.fn gf) (eg : ∀ args w, (callFunc gf args).run P w = .ok (.enter gf args) w)
    {encs : α → Array Value} {Mu : Nat → Prop} {Rd : List α → α → World → Prop} {S Sp : List α → Prop} {w0 : World} (hseq : SeqR F (n - 1) P gf lb encs Mu Rd S Sp w0)
    (hb0 : Below w0.heap.size w0 w) (hps : ∀ x, (encs x).size = ps.size)
    (I : List α → World → Prop) (Ix : Code → List α → World → Prop) (hI : AbNew w.heap.size I) (hIx : ∀ c, AbNew w.heap.size (Ix c)) (hRd : ∀ pre x, OwnFrom w.heap.size (fun (_ : Unit) W => Rd pre x W)) (h0 : I [] w) (As : α → Act → World → Prop) (hAs : ∀ x a, OwnFrom w.heap.size (fun (_ : Unit) W => As x a W))
    (hassign : ∀ (l : Nat) (x : α) (W : World) (K : Act → World → Prop), w.heap.size ≤ W.heap.size → (∀ a W', Below W.heap.size W W' → As x a W' → K a W') →
      assign.wpIn (F.inRound l) (n - 1 - 1) P (Exit.then K (fun _ _ _ => False)) { tmps := (ps.zip (encs x)).foldl (fun t (p, v) => t.setIfInBounds p v) a.tmps, defers := [] } W)
    (hbody : ∀ (l : Nat) (pre : List α) (x : α) (W : World) (a : Act), w.heap.size ≤ W.heap.size → I pre W → Rd pre x W → As x a W → body.wpIn (F.inRound l) (n - 1 - 1) P (postR Mu w.heap.size I Ix (pre ++ [x]) W) a W)
    (hdone : ∀ (D : Nat) (xs : List α) (W : World), w.heap.size ≤ D → S xs → I xs W → W.heap[D]? = some (.deferred (some [])) → Q .normal { a with defers := { target := .collected D, args := #[] } :: a.defers } W)
    (hstop : ∀ (D : Nat) (c : Code) (pre : List α) (W : World), w.heap.size ≤ D → Sp pre → Ix c pre W → W.heap[D]? = some (.deferred (some [])) → c.wpIn F n P Q { a with defers := { target := .collected D, args := #[] } :: a.defers } W) :
    (Code.rangeFunc g ps assign body).wpIn F n P Q a w := by
  refine wpIn_rangeFunc fun fn hfn => ?_
  rw [hro]
  -- the loop's record, and the world that bears it and the block for deferred calls
  obtain ⟨rec, hrec⟩ : ∃ rec : LoopState → Option Code → Loop, rec = fun st pe => { state := st, pending := pe, fn, tmps := a.tmps, params := ps, assign, body, defers := w.heap.size } := ⟨_, rfl⟩
  obtain ⟨V, hV⟩ : ∃ V, (w.alloc (.deferred (some []))).alloc (.loop (rec .ready none)) = V := ⟨_, rfl⟩
  have vL : V.heap[w.heap.size + 1]? = some (.loop (rec .ready none)) := by
    subst hV
    have := World.alloc_heap_new (w.alloc (.deferred (some []))) (.loop (rec .ready none))
    rwa [World.size_alloc] at this
  have vD : V.heap[w.heap.size]? = some (.deferred (some [])) := by
    subst hV
    exact (Below.heap_alloc _ _ _ (by simp)).trans (World.alloc_heap_new w _)
  have vI : I [] V := by subst hV; exact hI.alloc _ (hI.alloc _ h0)
  have vS : V.heap.size = w.heap.size + 2 := by subst hV; simp
  have vB : Below w0.heap.size w0 V := by
    subst hV
    exact hb0.trans ((((Below.refl _ w).alloc (Nat.le_refl _) _).alloc (by simp) _).mono hb0.size)
  refine ⟨w.heap.size + 1, [{ target := .collected w.heap.size, args := #[] }], V, { target := .fn (.func gf) lb, args := #[.func (.yield (w.heap.size + 1)) #[] #[]] }, V, gf, #[.func (.yield (w.heap.size + 1)) #[] #[]] ++ lb, V, ?_, ?_, ?_, ?_, fun _ => h1, ?_⟩
  · rw [← hV, hrec]; exact run_enterLoop_outer _ _ _ _ _
  · simp only [resolve, hg]
    simp [go_sem]
  · intro f' hf'
    simp [Target.leads] at hf'
    subst hf'
    exact hFg
  · simp [invoke, go_sem, eg]
  have apart : ∀ {A B : World} {row : Option Nat} {k : Nat} {o : Obj}, A.heap[k]? = some o → A.grownBy B row → (∀ r, row = some r → V.heap.size ≤ r) → k < V.heap.size → B.heap[k]? = some o := fun hk hg hr hlt =>
    (hg.block _ (Array.getElem?_eq_some_iff.1 hk).1 (fun e => by have := hr _ e.symm; omega)).trans hk
  refine (hseq (w.heap.size + 1)
    (fun pre W => I pre W ∧ W.heap[w.heap.size + 1]? = some (.loop (rec .ready none)) ∧ W.heap[w.heap.size]? = some (.deferred (some [])))
    (fun pre W => ∃ c, Ix c pre W ∧ W.heap[w.heap.size + 1]? = some (.loop (rec .done (some c))) ∧ W.heap[w.heap.size]? = some (.deferred (some [])))
    V vB
    (fun s A B row hs hg' hr => ⟨hI s A B row hs.1 hg' (fun r e => by have := hr r e; omega), apart hs.2.1 hg' hr (by omega), apart hs.2.2 hg' hr (by omega)⟩)
    (fun s A B row hs hg' hr => by
      obtain ⟨c, hc, hl, hk⟩ := hs
      exact ⟨c, hIx c s A B row hc hg' (fun r e => by have := hr r e; omega), apart hl hg' hr (by omega), apart hk hg' hr (by omega)⟩)
    ?round ⟨vI, vL, vD⟩).mono ?behind
  case round =>
    rintro pre x W0 ⟨hi0, hl0, hk0⟩ hrd0
    have hlt0 : w.heap.size + 1 < W0.heap.size := (Array.getElem?_eq_some_iff.1 hl0).1
    have hy := run_yield (P := P) (args := encs x) hl0 (by rw [hrec]; exact hps x)
    rw [hrec] at hy
    refine ⟨fn, _, assign, body, hy, roundIn_of_wpIn hfn (hassign _ x W0 _ (by omega) (fun a2 W hBW hA2 => ⟨_, run_beginRound ((hBW.block _ hlt0).trans hl0) (by rw [hrec]), ?_⟩))⟩
    clear hy
    have hl := (hBW.block _ hlt0).trans hl0
    have hk := (hBW.block _ (show w.heap.size < W0.heap.size by omega)).trans hk0
    have hi := hI.grow hi0 hBW
    have hrd := (hRd pre x) () W0 W none hrd0 ⟨hBW.os, hBW.tape, hBW.output, hBW.size, fun k hk _ => hBW.block k hk⟩ (fun r e => by cases e)
    have hlt : w.heap.size + 1 < W.heap.size := (Array.getElem?_eq_some_iff.1 hl).1
    have bL : (W.putObj (w.heap.size + 1) (.loop { rec .ready none with state := .busy })).heap[w.heap.size + 1]? = some (.loop { rec .ready none with state := .busy }) := World.putObj_heap_same hlt
    have bD : (W.putObj (w.heap.size + 1) (.loop { rec .ready none with state := .busy })).heap[w.heap.size]? = some (.deferred (some [])) := (World.putObj_heap_other (by omega)).trans hk
    refine wpIn_mono (hbody _ pre x _ _ (by simp; omega) (hI.putObj _ hi (by omega)) ((hRd pre x).putObj (s := ()) _ hrd (by omega) hl rfl) ((hAs x a2).putObj (s := ()) _ hA2 (by omega) hl rfl)) ?_
    -- the round's end
    have fin : ∀ (jump : Option Code) (U : World), KeepOut (fun _ => True) w.heap.size (W.putObj (w.heap.size + 1) (.loop { rec .ready none with state := .busy })) U →
        (Instr.endRound (w.heap.size + 1) jump).run P U = .ok (.bool jump.isNone) (U.putObj (w.heap.size + 1) (.loop (rec (if jump.isNone then .ready else .done) jump))) ∧
        U.heap[w.heap.size + 1]? = some (.loop { rec .ready none with state := .busy }) ∧
        (U.putObj (w.heap.size + 1) (.loop (rec (if jump.isNone then .ready else .done) jump))).heap[w.heap.size + 1]? = some (.loop (rec (if jump.isNone then .ready else .done) jump)) ∧
        (U.putObj (w.heap.size + 1) (.loop (rec (if jump.isNone then .ready else .done) jump))).heap[w.heap.size]? = some (.deferred (some [])) := fun jump U hkU => by
      have uL := hkU.2 _ _ bL (fun h => by omega)
      have := run_endRound (P := P) jump uL
      rw [hrec] at this ⊢
      exact ⟨this, by rw [hrec] at uL; exact uL, World.putObj_heap_same (Array.getElem?_eq_some_iff.1 uL).1, (World.putObj_heap_other (by omega)).trans (hkU.2 _ _ bD (fun h => by omega))⟩
    have out : ∀ (c : Code) (U : World), KeepOut (fun _ => True) w.heap.size (W.putObj (w.heap.size + 1) (.loop { rec .ready none with state := .busy })) U → Ix c (pre ++ [x]) U →
        (∃ c', Ix c' (pre ++ [x]) (U.putObj (w.heap.size + 1) (.loop (rec .done (some c)))) ∧ (U.putObj (w.heap.size + 1) (.loop (rec .done (some c)))).heap[w.heap.size + 1]? = some (.loop (rec .done (some c'))) ∧ (U.putObj (w.heap.size + 1) (.loop (rec .done (some c)))).heap[w.heap.size]? = some (.deferred (some []))) ∧ KeepOut (fun _ => True) V.heap.size W0 (U.putObj (w.heap.size + 1) (.loop (rec .done (some c)))) := fun c U hkU hix => by
      obtain ⟨_, h3, h4, h5⟩ := fin (some c) U hkU
      refine ⟨⟨c, (hIx c).putObj _ hix (by omega), h4, h5⟩, (KeepOut.grow _ _ hBW).trans ⟨by have := hkU.1; simpa using this, fun k o hk hm => ?_⟩⟩
      have hkl : k ≠ w.heap.size + 1 := fun e => hm (by omega) trivial
      rw [World.putObj_heap_other hkl]
      exact hkU.2 k o (by rw [World.putObj_heap_other hkl]; exact hk) (fun h => hm (by omega))
    rintro e a3 U hp
    cases e with
    | normal =>
      obtain ⟨hk3, hi3⟩ := hp
      obtain ⟨hr, h3, h4, h5⟩ := fin none U hk3.any
      refine ⟨_, _, hr, .inl ⟨rfl, ⟨hI.putObj _ hi3 (by omega), h4, h5⟩, (KeepOut.grow _ _ hBW).trans ⟨by have := hk3.1; simpa using this, fun k o hk hm => ?_⟩⟩⟩
      by_cases hkl : k = w.heap.size + 1
      · subst hkl
        rw [hl] at hk
        rw [← hk]
        exact h4
      · rw [World.putObj_heap_other hkl]
        exact hk3.2 k o (by rw [World.putObj_heap_other hkl]; exact hk) (fun h => hm (by omega))
    | ret => exact ⟨_, _, (fin (some .ret) U hp.1).1, .inr ⟨rfl, out .ret U hp.1 hp.2⟩⟩
    | exit id => exact ⟨_, _, (fin (some (.exit id)) U hp.1).1, .inr ⟨rfl, out (.exit id) U hp.1 hp.2⟩⟩
    | goto t => exact ⟨_, _, (fin (some (.goto t)) U hp.1).1, .inr ⟨rfl, out (.goto t) U hp.1 hp.2⟩⟩
    | panic ch => exact hp.elim
    | outgrown => exact hp.elim
  case behind =>
    rintro e U ⟨⟨v, rfl⟩, (⟨xs, hS, hi, hl, hk⟩ | ⟨pre, hSp, c, hi, hl, hk⟩)⟩
    · have hr := run_endLoop (P := P) hl (by rw [hrec]; simp)
      rw [hrec] at hr
      exact ⟨none, _, hr, hdone _ xs _ (Nat.le_refl _) hS (hI.putObj _ hi (by omega)) ((World.putObj_heap_other (by omega)).trans hk)⟩
    · have hr := run_endLoop (P := P) hl (by rw [hrec]; simp)
      rw [hrec] at hr
      exact ⟨some c, _, hr, hstop _ c pre _ (Nat.le_refl _) hSp ((hIx c).putObj _ hi (by omega)) ((World.putObj_heap_other (by omega)).trans hk)⟩
end
end Go.Proofs.Ytlelckdcmlpmdaa
