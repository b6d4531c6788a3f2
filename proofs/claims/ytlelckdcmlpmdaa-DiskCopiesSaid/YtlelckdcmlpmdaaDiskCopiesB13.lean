/- Texts that the proof of DiskCopies leans on, part 13. -/
import Derived.Test.YtlelckdcmlpmdaaDiskCopiesB12
/- loupelaw04.is: a disk that stands as the document's. -/
namespace Go.Proofs.Ytlelckdcmlpmdaa
open Go Go.RowKit Lou Go.Shelf
attribute [local go_sem] Oper.semAt_some

@[local go_sem] theorem run_eqF106 (w : World) (f : Fn) (xs ys : Array Value) : (binOp .eql 106 (.func f xs ys) .nilFunc).run Try.prog w = .ok (.bool false) w := by
  have h := run_eqF_nil (P := Try.prog) 9999 106 w f xs ys Try.underlying106
  have e : binOp .eql 106 (.func f xs ys) .nilFunc = (do pure (.bool (← Op.equalIn (9999 + 1) 106 (.func f xs ys) .nilFunc))) := rfl
  rw [e]
  simp only [Sem.run_bind, h, Result.andThen, Sem.run_pure]
section
variable {ρ : Operand → Value} {w : World} {o : Oper} {x y : Operand}
theorem r_eqF {f : Fn} {xs ys : Array Value} (ho : o.op = .binOp .eql 106 x y 106) (h1 : ρ x = .func f xs ys) (h2 : ρ y = .nilFunc) : (execOp ρ o).run Try.prog w = .ok (.value (.bool false)) w := by
  simp [execOp, ho, h1, h2, go_sem, Result.andThen]
theorem r_fld0 {b : Nat} (ho : o.op = .fieldAddr 141 x 0) (h1 : ρ x = .pointer (some ⟨b, 0, none⟩)) : (execOp ρ o).run Try.prog w = .ok (.value (.pointer (some ⟨b, 0, none⟩))) w := by
  simp [execOp, ho, h1, go_sem, Result.andThen]
theorem r_fld2 {b : Nat} (ho : o.op = .fieldAddr 141 x 2) (h1 : ρ x = .pointer (some ⟨b, 0, none⟩)) : (execOp ρ o).run Try.prog w = .ok (.value (.pointer (some ⟨b, 2, none⟩))) w := by
  simp [execOp, ho, h1, go_sem, Result.andThen]
theorem r_fld3 {b : Nat} (ho : o.op = .fieldAddr 141 x 3) (h1 : ρ x = .pointer (some ⟨b, 0, none⟩)) : (execOp ρ o).run Try.prog w = .ok (.value (.pointer (some ⟨b, 3, none⟩))) w := by
  simp [execOp, ho, h1, go_sem, Result.andThen]
theorem r_neQ {m : Int} (ho : o.op = .binOp .neq 3 x y 3) (h1 : ρ x = .int .i64 m) (h2 : ρ y = .int .i64 m) : (execOp ρ o).run Try.prog w = .ok (.value (.bool false)) w := by
  simp [execOp, ho, h1, h2, go_sem, Result.andThen, bne]
theorem r_eq0 {m : Int} {b : Bool} (ho : o.op = .binOp .eql 3 x y 3) (h1 : ρ x = .int .i64 m) (h2 : ρ y = .int .i64 0) (hb : decide (m = 0) = b) : (execOp ρ o).run Try.prog w = .ok (.value (.bool b)) w := by
  subst hb
  have e : (m == 0) = decide (m = 0) := by by_cases h : m = 0 <;> simp [h]
  simp [execOp, ho, h1, h2, go_sem, Result.andThen, e]
theorem r_neB {m : Bool} (ho : o.op = .binOp .neq 4 x y 4) (h1 : ρ x = .bool m) (h2 : ρ y = .bool m) : (execOp ρ o).run Try.prog w = .ok (.value (.bool false)) w := by
  simp [execOp, ho, h1, h2, go_sem, Result.andThen, bne]
theorem r_geqN {m n : Int} (ho : o.op = .binOp .geq 3 x y 3) (h1 : ρ x = .int .i64 m) (h2 : ρ y = .int .i64 n) (hlt : m < n) : (execOp ρ o).run Try.prog w = .ok (.value (.bool false)) w := by
  have h3 : ¬ n ≤ m := by omega
  simp [execOp, ho, h1, h2, go_sem, Result.andThen, h3]
theorem r_leqN {m n : Int} (ho : o.op = .binOp .leq 3 x y 3) (h1 : ρ x = .int .i64 m) (h2 : ρ y = .int .i64 n) (hlt : n < m) : (execOp ρ o).run Try.prog w = .ok (.value (.bool false)) w := by
  have h3 : ¬ m ≤ n := by omega
  simp [execOp, ho, h1, h2, go_sem, Result.andThen, h3]
theorem r_neT {s : ByteArray} (ho : o.op = .binOp .neq 9 x y 9) (h1 : ρ x = .string s) (h2 : ρ y = .string s) : (execOp ρ o).run Try.prog w = .ok (.value (.bool false)) w := by
  simp [execOp, ho, h1, h2, go_sem, Result.andThen, bne]
end
/-- The last sector that came. -/
def lastOf (pre : List (Nat × Nat)) : Int := match pre.getLast? with | some x => (x.1 : Int) | none => -1
theorem lastOf_snoc (pre : List (Nat × Nat)) (x : Nat × Nat) : lastOf (pre ++ [x]) = (x.1 : Int) := by unfold lastOf; simp
theorem lastOf_lt {K : List Nat} (hK : K.Pairwise (· < ·)) {pre : List (Nat × Nat)} {x : Nat} (h1 : K[pre.length]? = some x) (h2 : pre.map (·.1) = K.take pre.length) : lastOf pre < (x : Int) := by
  unfold lastOf
  cases hl : pre.getLast? with
  | none => simp only; omega
  | some y =>
    simp only
    rw [List.getLast?_eq_getElem?] at hl
    have hne : pre.length ≠ 0 := fun e => by rw [List.length_eq_zero_iff.1 e] at hl; simp at hl
    obtain ⟨hi, _⟩ := List.getElem?_eq_some_iff.1 h1
    have e1 : (pre.map (·.1))[pre.length - 1]? = some y.1 := by rw [List.getElem?_map, hl]; rfl
    rw [h2, List.getElem?_take_of_lt (by omega)] at e1
    obtain ⟨hj, e2⟩ := List.getElem?_eq_some_iff.1 e1
    obtain ⟨_, e3⟩ := List.getElem?_eq_some_iff.1 h1
    have := List.pairwise_iff_getElem.1 hK (pre.length - 1) pre.length hj hi (by omega)
    rw [e2, e3] at this
    omega
/-- The function's own blocks. -/
structure Ib (s : Nat) (vals : Array Value) (W : World) : Prop where
  v : BlkIs W s 141 vals
  m : BlkIs W (s + 1) 3 #[.int .i64 99]
  o : BlkIs W (s + 1 + 1) 4 #[.bool false]
theorem Ib.below {s : Nat} {vals : Array Value} {W W' : World} {B : Nat} (h : Ib s vals W) (hB : Below B W W') (hs : s + 1 + 1 < B) : Ib s vals W' := ⟨h.v.below hB (by omega), h.m.below hB (by omega), h.o.below hB hs⟩
theorem Ib.grow {s : Nat} {vals : Array Value} {W W' : World} (h : Ib s vals W) (hB : Below W.heap.size W W') : Ib s vals W' := ⟨h.v.below hB h.v.lt, h.m.below hB h.m.lt, h.o.below hB h.o.lt⟩
theorem Ib.abN {s B : Nat} {vals : Array Value} {W W' : World} {row : Option Nat} (h : Ib s vals W) (h1 : s + 1 + 1 < B) (hg : W.grownBy W' row) (hr : ∀ r, row = some r → B ≤ r) : Ib s vals W' :=
  ⟨h.v.abN (by omega) hg hr, h.m.abN (by omega) hg hr, h.o.abN h1 hg hr⟩
/-- How many of the first sectors are not noughts. -/
theorem keysUp_next (g : Nat → List UInt8) (k : Nat) : (keysUp g (k + 1)).length = (keysUp g k).length + if g k = zer64 then 0 else 1 := by
  unfold keysUp
  rw [List.range_succ, List.filter_append, List.length_append]
  by_cases e : g k = zer64 <;> simp [e]
set_option maxRecDepth 100000 in
set_option maxHeartbeats 8000000 in
theorem is_in (n : Nat) (hn : 9 ≤ n) (w : World) (p many : Nat) (sy ls : List (Nat × List UInt8)) (left : Int) (stops : Bool) (As : Option Addr) (cs : Nat) (Al : Option Addr) (cl : Nat) (hD : DkIs w p many (gOf sy) ls left stops) (hR : RIs w w.heap.size sy ls As cs Al cl)
    (hat : ∀ x ∈ sy ++ ls, x.1 < many) (hn1 : sy.length ≤ 400000) (hn2 : ls.length ≤ 400000) (hm : many ≤ 12) :
    CallsIn Fence.wide n Try.prog 85 #[.pointer (some ⟨p, 0, none⟩), VAL (many : Int) As sy.length cs Al ls.length cl (relL stops left), .int .i64 99] w fun e w' => e = .returned (.bool true) ∧ Below w.heap.size w w' := by
  have h1 : 1 ≤ n := by omega
  unfold VAL
  obtain ⟨vals, hvals⟩ : ∃ vals : Array Value, vals = #[.int .i64 (many : Int), .slice As sy.length cs, .slice Al ls.length cl, .int .i64 (relL stops left)] := ⟨_, rfl⟩
  have b0 := ((BlkIs.new w 141 #[.int .i64 (many : Int), .slice As sy.length cs, .slice Al ls.length cl, .int .i64 (relL stops left)]).alloc (.cells #[.int .i64 99] 3)).alloc (.cells #[.bool false] 4)
  have b1 := (BlkIs.new (w.alloc (.cells #[.int .i64 (many : Int), .slice As sy.length cs, .slice Al ls.length cl, .int .i64 (relL stops left)] 141)) 3 #[.int .i64 99]).alloc (.cells #[.bool false] 4)
  have b2 := BlkIs.new ((w.alloc (.cells #[.int .i64 (many : Int), .slice As sy.length cs, .slice Al ls.length cl, .int .i64 (relL stops left)] 141)).alloc (.cells #[.int .i64 99] 3)) 4 #[.bool false]
  rw [World.size_alloc] at b1
  rw [World.size_alloc, World.size_alloc] at b2
  have hB0 : Below w.heap.size w (((w.alloc (.cells #[.int .i64 (many : Int), .slice As sy.length cs, .slice Al ls.length cl, .int .i64 (relL stops left)] 141)).alloc (.cells #[.int .i64 99] 3)).alloc (.cells #[.bool false] 4)) :=
    (((Below.refl _ w).alloc (Nat.le_refl _) _).alloc (by simp) _).alloc (by simp; omega) _
  have hD0 := hD.grow hB0
  have hR0 := hR.grow hB0
  have HA := all_gives _ p many (gOf sy) ls left stops hD0 (by omega)
  refine callsIn_of_wp_marks Try.func85 rfl trivial ?_ rfl
  simp only [Try.ntmps85, List.size_toArray, List.length_cons, List.length_nil, Nat.reduceAdd, Nat.reduceSub, Array.replicate_succ, Array.replicate_zero, List.push_toArray, List.append_toArray, List.nil_append, List.cons_append]
  gi_wp2_with (refine ⟨trivial, ?_⟩; gi_at_call 151; refine (callsIn_wide.2 HA).mono ?_; rintro e W1 ⟨Bs, r, rfl, hbs, hmr, hB1⟩)
  have hIb : Ib w.heap.size vals W1 := by rw [hvals]; exact ⟨b0.below hB1 b0.lt, b1.below hB1 b1.lt, b2.below hB1 b2.lt⟩
  have hD1 := hD0.grow hB1
  have hR1 := hR0.grow hB1
  have hBw1 := hB0.trans (hB1.mono hB0.size)
  have hs1 := Nat.lt_of_lt_of_le b2.lt hB1.size
  clear HA hD hR hD0 hR0 hB0 hB1 b0 b1 b2
  obtain ⟨G, hG⟩ : ∃ G, G = laid (gOf sy) ls := ⟨_, rfl⟩
  have hGl : ∀ k : Nat, G k = lastB (sy ++ ls) (k : Int) := fun k => by rw [hG, laid_gOf]
  rw [← hG] at hmr
  clear hG
  have hGz : ∀ k, ¬ G k = zer64 → k < many := fun k hk => by
    by_cases h : k < many
    · exact h
    · refine absurd ?_ hk
      rw [hGl]
      have hno : ∀ x ∈ sy ++ ls, ¬ (x.1 : Int) = (k : Int) := fun x hx e => h (by have := hat x hx; omega)
      clear hat hk h hGl
      unfold lastB
      generalize sy ++ ls = zs at *
      suffices h : ∀ s, zs.foldl (fun s (x : Nat × List UInt8) => if (x.1 : Int) = (k : Int) then x.2 else s) s = s from h zer64
      intro s
      induction zs generalizing s with
      | nil => rfl
      | cons y t ih => rw [List.foldl_cons, if_neg (hno y (List.mem_cons_self ..))]; exact ih (fun x hx => hno x (List.mem_cons_of_mem _ hx)) s
  obtain ⟨SB, hSB0⟩ : ∃ SB, SB = (stops && left == 0) := ⟨_, rfl⟩
  have hSB : decide (relL stops left = 0) = SB := by rw [hSB0, relL_stopped]
  have HST : ∀ W, Grow W1 W → Calls Try.prog 154 #[.pointer (some ⟨p, 0, none⟩)] W fun e w' => e = .returned (.bool SB) ∧ W = w' := fun W hg => by rw [hSB0]; exact stopped_gives _ _ _ _ _ _ _ (hD1.grow hg)
  clear hSB0
  have hcv : ∀ W, Grow W1 W → BlkIs W w.heap.size 141 #[.int .i64 (many : Int), .slice As sy.length cs, .slice Al ls.length cl, .int .i64 (relL stops left)] := fun W hg => by rw [← hvals]; exact (hIb.grow hg).v
  have hcm : ∀ W, Grow W1 W → W.cell? ⟨w.heap.size, 0, none⟩ = some (.int .i64 (many : Int)) := fun W hg => by rw [(hcv W hg).cell]; rfl
  have hcl : ∀ W, Grow W1 W → W.cell? ⟨w.heap.size, 2, none⟩ = some (.slice Al ls.length cl) := fun W hg => by rw [(hcv W hg).cell]; rfl
  have hcf : ∀ W, Grow W1 W → W.cell? ⟨w.heap.size, 3, none⟩ = some (.int .i64 (relL stops left)) := fun W hg => by rw [(hcv W hg).cell]; rfl
  have HV := Lib.hid hvals
  clear hvals
  refine wpIn_wide.2 ?_
  open Reg in
  refine region_acts (by kernel_rfl) (by kernel_rfl) 87 rfl (by kernel_rfl) [16, 17, 18, 19, 20, 21, 22, 23, 24, 25, 26, 27, 28, 29, 30, 31, 32, 33, 34, 35, 36, 37, 38, 39, 40] (by kernel_rfl)
    [(7, .val (.func (.func 186) #[] #[.pointer (some ⟨Bs, 0, none⟩)])), (0, .val (.pointer (some ⟨p, 0, none⟩))), (4, .val (.pointer (some ⟨w.heap.size, 0, none⟩)))]
    [(16, .val (.func (.func 186) #[] #[.pointer (some ⟨Bs, 0, none⟩)])), (17, .val (.bool false)), (18, .val (.bool false)), (19, .val (.pointer (some ⟨p, 0, none⟩))), (20, .val (.int .i64 (many : Int))), (21, .val (.pointer (some ⟨w.heap.size, 0, none⟩))), (22, .val (.int .i64 (many : Int))), (23, .val (.bool false)), (24, .val (.bool false)), (25, .val (.bool false)), (26, .val (.pointer (some ⟨p, 0, none⟩))), (27, .val (.int .i64 (ls.length : Int))), (28, .val (.pointer (some ⟨w.heap.size, 2, none⟩))), (29, .val (.slice Al ls.length cl)), (30, .val (.int .i64 (ls.length : Int))), (31, .val (.bool false)), (32, .val (.bool false)), (33, .val (.bool false)), (34, .val (.pointer (some ⟨p, 0, none⟩))), (35, .val (.bool SB)), (36, .val (.pointer (some ⟨w.heap.size, 3, none⟩))), (37, .val (.int .i64 (relL stops left))), (38, .val (.bool SB)), (39, .val (.bool false)), (40, .val (.bool false))]
    ⟨rfl, rfl, rfl, trivial⟩ (by kernel_rfl)
    (allOk_cons (ok_none rfl (l_mvF 7 (.val (.func (.func 186) #[] #[.pointer (some ⟨Bs, 0, none⟩)])) (.inl rfl) (by kernel_rfl) (by kernel_rfl) (by kernel_rfl)))
    <| allOk_cons (ok_none rfl (l_run2W (.tmp 16) (.const .nilFunc) (.val (.bool false)) (.func (.func 186) #[] #[.pointer (some ⟨Bs, 0, none⟩)]) (.nilFunc) (hs 16 _ (by kernel_rfl) (by kernel_rfl)) (hc _) (fun ρ w hg h1 h2 => ⟨_, w, r_eqF rfl h1 h2, Grow.refl _, rfl⟩) (by kernel_rfl)))
    <| allOk_cons (ok_none rfl (l_mvF 17 (.val (.bool false)) (.inl rfl) (by kernel_rfl) (by kernel_rfl) (by kernel_rfl)))
    <| allOk_cons (okg 2 false 18 rfl (by kernel_rfl) (by kernel_rfl) (by kernel_rfl) (l_mvF 0 (.val (.pointer (some ⟨p, 0, none⟩))) (.inl rfl) (by kernel_rfl) (by kernel_rfl) (by kernel_rfl)))
    <| allOk_cons (okg 2 false 18 rfl (by kernel_rfl) (by kernel_rfl) (by kernel_rfl) (l_call 152 _ _ rfl (enters_of Try.func152 (by kernel_rfl) rfl) #[.pointer (some ⟨p, 0, none⟩)] (.val (.int .i64 (many : Int))) (args1 (hs 19 (.pointer (some ⟨p, 0, none⟩)) (by kernel_rfl) (by kernel_rfl))) (fun w hg => gives_same (len_gives _ _ _ _ _ _ _ (hD1.grow hg))) (by kernel_rfl)))
    <| allOk_cons (okg 2 false 18 rfl (by kernel_rfl) (by kernel_rfl) (by kernel_rfl) (l_run1W (.tmp 4) (.val (.pointer (some ⟨w.heap.size, 0, none⟩))) (.pointer (some ⟨w.heap.size, 0, none⟩)) (hs 4 _ (by kernel_rfl) (by kernel_rfl)) (fun ρ w hg h1 => ⟨_, w, r_fld0 rfl h1, Grow.refl _, rfl⟩) (by kernel_rfl)))
    <| allOk_cons (okg 2 false 18 rfl (by kernel_rfl) (by kernel_rfl) (by kernel_rfl) (l_load (.tmp 21) (⟨w.heap.size, 0, none⟩) _ (.int .i64 (many : Int)) (by intro w; simp [go_sem, Try.underlying3]) rfl (hs 21 (.pointer (some ⟨w.heap.size, 0, none⟩)) (by kernel_rfl) (by kernel_rfl)) (fun w hg => hcm w hg) (by kernel_rfl)))
    <| allOk_cons (okg 2 false 18 rfl (by kernel_rfl) (by kernel_rfl) (by kernel_rfl) (l_run2W (.tmp 20) (.tmp 22) (.val (.bool false)) (.int .i64 (many : Int)) (.int .i64 (many : Int)) (hs 20 _ (by kernel_rfl) (by kernel_rfl)) (hs 22 _ (by kernel_rfl) (by kernel_rfl)) (fun ρ w hg h1 h2 => ⟨_, w, r_neQ rfl h1 h2, Grow.refl _, rfl⟩) (by kernel_rfl)))
    <| allOk_cons (ok_none rfl (l_pickF (.tmp 18) (.const (Go.Value.bool true)) (.tmp 23) (.bool false) rfl (hs 18 (.bool false) (by kernel_rfl) (by kernel_rfl)) (hs 23 (.bool false) (by kernel_rfl) (by kernel_rfl)) (by kernel_rfl)))
    <| allOk_cons (ok_none rfl (l_mvF 24 (.val (.bool false)) (.inl rfl) (by kernel_rfl) (by kernel_rfl) (by kernel_rfl)))
    <| allOk_cons (okg 9 false 25 rfl (by kernel_rfl) (by kernel_rfl) (by kernel_rfl) (l_mvF 0 (.val (.pointer (some ⟨p, 0, none⟩))) (.inl rfl) (by kernel_rfl) (by kernel_rfl) (by kernel_rfl)))
    <| allOk_cons (okg 9 false 25 rfl (by kernel_rfl) (by kernel_rfl) (by kernel_rfl) (l_call 153 _ _ rfl (enters_of Try.func153 (by kernel_rfl) rfl) #[.pointer (some ⟨p, 0, none⟩)] (.val (.int .i64 (ls.length : Int))) (args1 (hs 26 (.pointer (some ⟨p, 0, none⟩)) (by kernel_rfl) (by kernel_rfl))) (fun w hg => gives_same (loose_gives _ _ _ _ _ _ _ (hD1.grow hg))) (by kernel_rfl)))
    <| allOk_cons (okg 9 false 25 rfl (by kernel_rfl) (by kernel_rfl) (by kernel_rfl) (l_run1W (.tmp 4) (.val (.pointer (some ⟨w.heap.size, 2, none⟩))) (.pointer (some ⟨w.heap.size, 0, none⟩)) (hs 4 _ (by kernel_rfl) (by kernel_rfl)) (fun ρ w hg h1 => ⟨_, w, r_fld2 rfl h1, Grow.refl _, rfl⟩) (by kernel_rfl)))
    <| allOk_cons (okg 9 false 25 rfl (by kernel_rfl) (by kernel_rfl) (by kernel_rfl) (l_load (.tmp 28) (⟨w.heap.size, 2, none⟩) _ (.slice Al ls.length cl) (by intro w; simp [go_sem, Try.underlying139]) rfl (hs 28 (.pointer (some ⟨w.heap.size, 2, none⟩)) (by kernel_rfl) (by kernel_rfl)) (fun w hg => hcl w hg) (by kernel_rfl)))
    <| allOk_cons (okg 9 false 25 rfl (by kernel_rfl) (by kernel_rfl) (by kernel_rfl) (l_len 29 _ _ _ _ (by kernel_rfl) rfl ((hs 29 (.slice Al ls.length cl) (by kernel_rfl) (by kernel_rfl))) (by kernel_rfl)))
    <| allOk_cons (okg 9 false 25 rfl (by kernel_rfl) (by kernel_rfl) (by kernel_rfl) (l_run2W (.tmp 27) (.tmp 30) (.val (.bool false)) (.int .i64 (ls.length : Int)) (.int .i64 (ls.length : Int)) (hs 27 _ (by kernel_rfl) (by kernel_rfl)) (hs 30 _ (by kernel_rfl) (by kernel_rfl)) (fun ρ w hg h1 h2 => ⟨_, w, r_neQ rfl h1 h2, Grow.refl _, rfl⟩) (by kernel_rfl)))
    <| allOk_cons (ok_none rfl (l_pickF (.tmp 25) (.const (Go.Value.bool true)) (.tmp 31) (.bool false) rfl (hs 25 (.bool false) (by kernel_rfl) (by kernel_rfl)) (hs 31 (.bool false) (by kernel_rfl) (by kernel_rfl)) (by kernel_rfl)))
    <| allOk_cons (ok_none rfl (l_mvF 32 (.val (.bool false)) (.inl rfl) (by kernel_rfl) (by kernel_rfl) (by kernel_rfl)))
    <| allOk_cons (okg 17 false 33 rfl (by kernel_rfl) (by kernel_rfl) (by kernel_rfl) (l_mvF 0 (.val (.pointer (some ⟨p, 0, none⟩))) (.inl rfl) (by kernel_rfl) (by kernel_rfl) (by kernel_rfl)))
    <| allOk_cons (okg 17 false 33 rfl (by kernel_rfl) (by kernel_rfl) (by kernel_rfl) (l_call 154 _ _ rfl (enters_of Try.func154 (by kernel_rfl) rfl) #[.pointer (some ⟨p, 0, none⟩)] (.val (.bool SB)) (args1 (hs 34 (.pointer (some ⟨p, 0, none⟩)) (by kernel_rfl) (by kernel_rfl))) (fun w hg => gives_same (HST w hg)) (by kernel_rfl)))
    <| allOk_cons (okg 17 false 33 rfl (by kernel_rfl) (by kernel_rfl) (by kernel_rfl) (l_run1W (.tmp 4) (.val (.pointer (some ⟨w.heap.size, 3, none⟩))) (.pointer (some ⟨w.heap.size, 0, none⟩)) (hs 4 _ (by kernel_rfl) (by kernel_rfl)) (fun ρ w hg h1 => ⟨_, w, r_fld3 rfl h1, Grow.refl _, rfl⟩) (by kernel_rfl)))
    <| allOk_cons (okg 17 false 33 rfl (by kernel_rfl) (by kernel_rfl) (by kernel_rfl) (l_load (.tmp 36) (⟨w.heap.size, 3, none⟩) _ (.int .i64 (relL stops left)) (by intro w; simp [go_sem, Try.underlying3]) rfl (hs 36 (.pointer (some ⟨w.heap.size, 3, none⟩)) (by kernel_rfl) (by kernel_rfl)) (fun w hg => hcf w hg) (by kernel_rfl)))
    <| allOk_cons (okg 17 false 33 rfl (by kernel_rfl) (by kernel_rfl) (by kernel_rfl) (l_run2W (.tmp 37) (.const (.int .i64 0)) (.val (.bool SB)) (.int .i64 (relL stops left)) (.int .i64 0) (hs 37 _ (by kernel_rfl) (by kernel_rfl)) (hc _) (fun ρ w hg h1 h2 => ⟨_, w, r_eq0 rfl h1 h2 hSB, Grow.refl _, rfl⟩) (by kernel_rfl)))
    <| allOk_cons (okg 17 false 33 rfl (by kernel_rfl) (by kernel_rfl) (by kernel_rfl) (l_run2W (.tmp 35) (.tmp 38) (.val (.bool false)) (.bool SB) (.bool SB) (hs 35 _ (by kernel_rfl) (by kernel_rfl)) (hs 38 _ (by kernel_rfl) (by kernel_rfl)) (fun ρ w hg h1 h2 => ⟨_, w, r_neB rfl h1 h2, Grow.refl _, rfl⟩) (by kernel_rfl)))
    <| allOk_cons (ok_none rfl (l_pickF (.tmp 33) (.const (Go.Value.bool true)) (.tmp 39) (.bool false) rfl (hs 33 (.bool false) (by kernel_rfl) (by kernel_rfl)) (hs 39 (.bool false) (by kernel_rfl) (by kernel_rfl)) (by kernel_rfl)))
    <| allOk_nil) ?_
  intro a W2 hsz hdef hGW2 hF hU
  have e40 : a.eval (.tmp 40) = .bool false := hF 40
  have ha := Reg.acts_eq [16, 17, 18, 19, 20, 21, 22, 23, 24, 25, 26, 27, 28, 29, 30, 31, 32, 33, 34, 35, 36, 37, 38, 39, 40] hsz hdef hU
  clear hF hU hdef
  simp only [List.foldl_cons, List.foldl_nil, e40] at ha
  clear e40 hsz
  generalize a.eval (.tmp 16) = v16 at *
  generalize a.eval (.tmp 17) = v17 at *
  generalize a.eval (.tmp 18) = v18 at *
  generalize a.eval (.tmp 19) = v19 at *
  generalize a.eval (.tmp 20) = v20 at *
  generalize a.eval (.tmp 21) = v21 at *
  generalize a.eval (.tmp 22) = v22 at *
  generalize a.eval (.tmp 23) = v23 at *
  generalize a.eval (.tmp 24) = v24 at *
  generalize a.eval (.tmp 25) = v25 at *
  generalize a.eval (.tmp 26) = v26 at *
  generalize a.eval (.tmp 27) = v27 at *
  generalize a.eval (.tmp 28) = v28 at *
  generalize a.eval (.tmp 29) = v29 at *
  generalize a.eval (.tmp 30) = v30 at *
  generalize a.eval (.tmp 31) = v31 at *
  generalize a.eval (.tmp 32) = v32 at *
  generalize a.eval (.tmp 33) = v33 at *
  generalize a.eval (.tmp 34) = v34 at *
  generalize a.eval (.tmp 35) = v35 at *
  generalize a.eval (.tmp 36) = v36 at *
  generalize a.eval (.tmp 37) = v37 at *
  generalize a.eval (.tmp 38) = v38 at *
  generalize a.eval (.tmp 39) = v39 at *
  simp only [Act.put, List.setIfInBounds_toArray, List.set_cons_succ, List.set_cons_zero] at ha
  subst ha
  simp only [Exit.then]
  refine ‹∀ (a : Act) (w : World), Code.wpIn _ _ Try.prog _ _ a w → _› _ W2 ?_
  have hI2 := hIb.grow hGW2
  have hR2 := hR1.grow hGW2
  have hbs2 := hbs.below hGW2 hbs.lt
  have hm2 := hmr.grow hGW2
  have hBw2 := hBw1.trans (hGW2.mono hBw1.size)
  have hs2 := Nat.lt_of_lt_of_le hs1 hGW2.size
  have hcv2 : ∀ W, Grow W2 W → BlkIs W w.heap.size 141 #[.int .i64 (many : Int), .slice As sy.length cs, .slice Al ls.length cl, .int .i64 (relL stops left)] := fun W hg => hcv W (hGW2.trans hg)
  clear hSB HST hcm hcl hcf hcv hIb hR1 hbs hmr hD1 hBw1 hs1 hGW2
  clear W1
  gi_wp2
  gi_loopw [8, 9] (fun u i wr => ∃ k : Nat, k ≤ many ∧ i = .int .i64 (k : Int) ∧ u = .int .i64 ((keysUp G k).length : Int) ∧ Below W2.heap.size W2 wr) (fun _ i _ => many - (intOf i).toNat)
  case atStart => exact ⟨0, by omega, rfl, rfl, Below.refl _ _⟩
  case round =>
    obtain ⟨k, hk, rfl, rfl, hBr⟩ := hrel
    have hcm : wr.cell? ⟨w.heap.size, 0, none⟩ = some (.int .i64 (many : Int)) := by rw [(hcv2 wr hBr).cell]; rfl
    by_cases hlt : k < many
    · have hlb := hGl k
      have hnx := keysUp_next G k
      obtain ⟨nb, hnb0⟩ : ∃ nb, nb = !((str (lastB (sy ++ ls) (k : Int))).toList == (str (List.replicate 64 0)).toList) := ⟨_, rfl⟩
      have hnb := hnb0.symm
      have hnbz : nb = decide (¬ G k = zer64) := by
        rw [hnb0, hlb]
        by_cases e : lastB (sy ++ ls) (k : Int) = zer64
        · rw [e]; simp; rfl
        · rw [str_ne (b := List.replicate 64 0) e]; simp [e]
      clear hnb0
      have hld : ∀ W, Grow wr W → (loadVar 141 ⟨w.heap.size, 0, none⟩).run Try.prog W = .ok (VAL (many : Int) As sy.length cs Al ls.length cl (relL stops left)) W := fun W hg => run_loadW rowRDisk (hcv2 W (hBr.trans (hg.mono hBr.size)))
      have HSEC : ∀ W, Grow wr W → Calls Try.prog 155 #[VAL (many : Int) As sy.length cs Al ls.length cl (relL stops left), .int .i64 (k : Int)] W fun e w' => e = .returned (.string (str (lastB (sy ++ ls) (k : Int)))) ∧ Below W.heap.size W w' := fun W hg =>
        rsector_gives W _ sy ls As cs Al cl _ ((hR2.grow hBr).grow hg) hn1 hn2 _
      have hwk : IntKind.i64.wrap ((k : Int) + 1) = (k : Int) + 1 := wrap_i64_id' _ (by omega) (by omega)
      have hul := keysUp_len G k
      have hwu : IntKind.i64.wrap (((keysUp G k).length : Int) + 1) = ((keysUp G k).length : Int) + 1 := wrap_i64_id' _ (by omega) (by omega)
      have HNX := Lib.hid hnx
      clear hnx hlb
      gi_wp2
      refine wpIn_wide.2 ?_
      open Reg in
      refine region_acts (by kernel_rfl) (by kernel_rfl) 87 rfl (by kernel_rfl) [47, 48, 49, 50, 51, 52] (by kernel_rfl)
        [(4, .val (.pointer (some ⟨w.heap.size, 0, none⟩))), (9, .val (.int .i64 (k : Int)))]
        [(47, .val (VAL (many : Int) As sy.length cs Al ls.length cl (relL stops left))), (48, .val (.int .i64 (k : Int))), (49, .val (.string (str (lastB (sy ++ ls) (k : Int))))), (50, .res (List.replicate 64 0)), (51, .val (.string (str (List.replicate 64 0)))), (52, .val (.bool nb))]
        ⟨rfl, rfl, trivial⟩ (by kernel_rfl)
        (allOk_cons (ok_none rfl (l_loadV (.tmp 4) ⟨w.heap.size, 0, none⟩ 141 (VAL (many : Int) As sy.length cs Al ls.length cl (relL stops left)) rfl (hs 4 _ (by kernel_rfl) (by kernel_rfl)) (fun w hg => hld w hg) (by kernel_rfl)))
        <| allOk_cons (ok_none rfl (l_mvF 9 (.val (.int .i64 (k : Int))) (.inl rfl) (by kernel_rfl) (by kernel_rfl) (by kernel_rfl)))
        <| allOk_cons (ok_none rfl (l_call 155 _ _ rfl (enters_of Try.func155 (by kernel_rfl) rfl) #[VAL (many : Int) As sy.length cs Al ls.length cl (relL stops left), .int .i64 (k : Int)] (.val (.string (str (lastB (sy ++ ls) (k : Int))))) (args2 (hs 47 (VAL (many : Int) As sy.length cs Al ls.length cl (relL stops left)) (by kernel_rfl) (by kernel_rfl)) (hs 48 (.int .i64 (k : Int)) (by kernel_rfl) (by kernel_rfl))) (fun w hg => gives_grow (HSEC w hg)) (by kernel_rfl)))
        <| allOk_cons (ok_none rfl (l_makeR 64 rfl (by decide) (by kernel_rfl)))
        <| allOk_cons (ok_none rfl (l_conv 50 (List.replicate 64 0) rfl (by kernel_rfl) (by kernel_rfl) (by kernel_rfl)))
        <| allOk_cons (ok_none rfl (l_run2W (.tmp 49) (.tmp 51) (.val (.bool nb)) (.string (str (lastB (sy ++ ls) (k : Int)))) (.string (str (List.replicate 64 0))) (hs 49 _ (by kernel_rfl) (by kernel_rfl)) (hs 51 _ (by kernel_rfl) (by kernel_rfl)) (fun ρ w hg h1 h2 => ⟨_, w, x_neS rfl h1 h2 hnb, Grow.refl _, rfl⟩) (by kernel_rfl)))
        <| allOk_nil) ?_
      intro a W3 hsz hdef hGW3 hF hU
      have e52 : a.eval (.tmp 52) = .bool nb := hF 52
      have ha := Reg.acts_eq [47, 48, 49, 50, 51, 52] hsz hdef hU
      clear hF hU hdef
      simp only [List.foldl_cons, List.foldl_nil, e52] at ha
      clear e52 hsz
      generalize a.eval (.tmp 47) = v47 at *
      generalize a.eval (.tmp 48) = v48 at *
      generalize a.eval (.tmp 49) = v49 at *
      generalize a.eval (.tmp 50) = v50 at *
      generalize a.eval (.tmp 51) = v51 at *
      simp only [Act.put, List.setIfInBounds_toArray, List.set_cons_succ, List.set_cons_zero] at ha
      subst ha
      simp only [Exit.then]
      refine ‹∀ (a : Act) (w : World), Code.wpIn _ _ Try.prog _ _ a w → _› _ W3 ?_
      have hB3 := hBr.trans (hGW3.mono hBr.size)
      have HNBZ := Lib.hid hnbz
      clear hnb hnbz hld HSEC hGW3 hcm
      cases nb with
      | true =>
        have hz : ¬ G k = zer64 := of_decide_eq_true HNBZ.out.symm
        have hx := HNX.out
        rw [if_neg hz] at hx
        have HX := Lib.hid hx
        clear hz hx
        gi_wp2
        go_roundw
        case rel => exact ⟨k + 1, by omega, by simp, by rw [HX.out]; simp, hB3⟩
        case measure => simp [intOf]; omega
      | false =>
        have hz : G k = zer64 := by
          have := HNBZ.out
          by_cases e : G k = zer64
          · exact e
          · simp [e] at this
        have hx := HNX.out
        rw [if_pos hz] at hx
        have HX := Lib.hid hx
        clear hz hx
        gi_wp2
        go_roundw
        case rel => exact ⟨k + 1, by omega, by simp, by rw [HX.out]; simp, hB3⟩
        case measure => simp [intOf]; omega
    · obtain rfl : k = many := by omega
      gi_wp2
      obtain ⟨Y0, hY0⟩ : ∃ Y0, Y0 = (wr.alloc (.cells #[.int .i64 0] 3)).alloc (.cells #[.int .i64 (-1)] 3) := ⟨_, rfl⟩
      have hBg0 : Below wr.heap.size wr Y0 := by rw [hY0]; exact ((Below.refl _ _).alloc (Nat.le_refl _) _).alloc (by simp) _
      have hszY : Y0.heap.size = wr.heap.size + 2 := by rw [hY0]; simp
      have hq0 : BlkIs Y0 wr.heap.size 3 #[.int .i64 0] := by rw [hY0]; exact (BlkIs.new wr _ _).alloc _
      have hq1 : BlkIs Y0 (wr.heap.size + 1) 3 #[.int .i64 (-1)] := by
        have := BlkIs.new (wr.alloc (.cells #[.int .i64 0] 3)) 3 #[.int .i64 (-1)]
        rw [World.size_alloc] at this
        rw [hY0]
        exact this
      have hBY : Below W2.heap.size W2 Y0 := hBr.trans (hBg0.mono hBr.size)
      have hsr := hBr.size
      have hIY := hI2.below hBY hs2
      have hbY := hbs2.below hBY hbs2.lt
      have hmY := hm2.grow hBY
      rw [← hY0]
      clear hY0 hBg0 hBr hcm
      generalize wr.heap.size = q at *
      have hbl := hbs2.lt
      have hml := hm2.lt
      refine wpI_stopB (fun a0 a V => ∃ D, a = { a0 with defers := { target := .collected D, args := #[] } :: a0.defers } ∧ V.heap[D]? = some (.deferred (some [])) ∧ Y0.heap.size ≤ D ∧ Ib w.heap.size vals V ∧ BlkIs V q 3 #[.int .i64 ((keysUp G k).length : Int)] ∧ Below W2.heap.size W2 V) ?_ ?_
      · intro Q' hQ
        refine wpIn_rangeFunc_R rfl h1 (gf := 186) (lb := #[.pointer (some ⟨Bs, 0, none⟩)]) rfl trivial (enters_of Try.func186 (by kernel_rfl) rfl)
          (all1_seq (n - 1) (by omega) Bs r k G (fun g => g = q ∨ g = q + 1) (by omega) (by omega) Y0 hbY hmY hGz (by omega)) (Below.refl _ _) (fun _ => rfl)
          (fun pre V => Ib w.heap.size vals V ∧ BlkIs V q 3 #[.int .i64 (pre.length : Int)] ∧ BlkIs V (q + 1) 3 #[.int .i64 (lastOf pre)] ∧ Below W2.heap.size W2 V)
          (fun _ _ _ => False)
          ?own ?own2 ?ownR ⟨hIY, hq0, hq1, hBY⟩ ?act ?assign ?body ?done ?stop
        case own =>
          rintro pre X Y row ⟨i1, i2, i3, i4⟩ hgr hr
          exact ⟨i1.abN (B := Y0.heap.size) (by omega) hgr hr, i2.abN (B := Y0.heap.size) (by omega) hgr hr, i3.abN (B := Y0.heap.size) (by omega) hgr hr, below_abN (B := Y0.heap.size) (by omega) (by have := i4.size; omega) i4 hgr hr⟩
        case own2 => exact fun c pre X Y row h _ _ => h
        case ownR =>
          rintro pre x _ X Y row ⟨e1, e2, e3⟩ hgr hr
          exact ⟨e1, e2, e3.kept hgr (fun r e => (hr r e).2)⟩
        case assign =>
          intro l1 x V K hK
          simp only [allEnc]
          gi_wp2
          exact hK
        case body =>
          rintro l1 pre ⟨x1, x2⟩ V ⟨hI, hk1, hl1, hBV⟩ ⟨hx1, hx2, hx3⟩
          simp only at hx1 hx2 hx3
          have hlst := lastOf_lt (keysUp_lt G k) hx1 hx2
          have hxm : (x1 : Int) < (k : Int) := by have := (keysUp_mem.1 (List.mem_of_getElem? hx1)).1; omega
          have hpl : pre.length < 12 := by have := (List.getElem?_eq_some_iff.1 hx1).1; have := keysUp_len G k; omega
          have hcvV : ∀ W', Grow V W' → BlkIs W' w.heap.size 141 #[.int .i64 (k : Int), .slice As sy.length cs, .slice Al ls.length cl, .int .i64 (relL stops left)] := fun W' hg => by rw [← HV.out]; exact (hI.grow hg).v
          have hcm : ∀ W', Grow V W' → W'.cell? ⟨w.heap.size, 0, none⟩ = some (.int .i64 (k : Int)) := fun W' hg => by rw [(hcvV W' hg).cell]; rfl
          have hcs : ∀ W', Grow V W' → W'.cell? ⟨q + 1, 0, none⟩ = some (.int .i64 (lastOf pre)) := fun W' hg => (hl1.below hg hl1.lt).boxed
          have hld : ∀ W', Grow V W' → (loadVar 141 ⟨w.heap.size, 0, none⟩).run Try.prog W' = .ok (VAL (k : Int) As sy.length cs Al ls.length cl (relL stops left)) W' := fun W' hg => run_loadW rowRDisk (hcvV W' hg)
          have HSEC : ∀ W', Grow V W' → Calls Try.prog 155 #[VAL (k : Int) As sy.length cs Al ls.length cl (relL stops left), .int .i64 (x1 : Int)] W' fun e w' => e = .returned (.string (str (lastB (sy ++ ls) (x1 : Int)))) ∧ Below W'.heap.size W' w' := fun W' hg =>
            rsector_gives W' _ sy ls As cs Al cl _ ((hR2.grow hBV).grow hg) hn1 hn2 _
          have hst : ∀ W', Grow V W' → (convert 30 9 (.slice (some ⟨x2, 0, none⟩) 64 64)).run Try.prog W' = .ok (.string (str (lastB (sy ++ ls) (x1 : Int)))) W' := fun W' hg => by
            have h6 : (G x1).length = 64 := hmY.len x1
            have hi := (hx3.below hg hx3.lt).inBT (by omega)
            rw [h6] at hi
            have := hi.string
            rw [h6, hGl] at this
            exact this
          have hwk : IntKind.i64.wrap ((pre.length : Int) + 1) = (pre.length : Int) + 1 := wrap_i64_id' _ (by omega) (by omega)
          have hNL : (((pre ++ [(x1, x2)]).length : Nat) : Int) = (pre.length : Int) + 1 := by simp
          have hLO := lastOf_snoc pre (x1, x2)
          have h99 : ¬ (99 : Int) ≤ (pre.length : Int) + 1 := by omega
          have HNL := Lib.hid hNL
          have HLO := Lib.hid hLO
          clear hNL hLO hx1 hx2
          gi_wp2
          open Reg in
          refine region_actsR (by kernel_rfl) (by kernel_rfl) (by kernel_rfl) 87 rfl (by kernel_rfl) [58, 59, 60, 61, 62, 63, 64, 65, 66, 67, 68, 69, 70, 71, 72, 73, 74] (by kernel_rfl)
            [(4, .val (.pointer (some ⟨w.heap.size, 0, none⟩))), (11, .val (.pointer (some ⟨q + 1, 0, none⟩))), (12, .val (.int .i64 (x1 : Int))), (13, .val (.slice (some ⟨x2, 0, none⟩) 64 64))]
            [(58, .val (.int .i64 (x1 : Int))), (59, .val (.int .i64 (lastOf pre))), (60, .val (.bool false)), (61, .val (.bool false)), (62, .val (.int .i64 (x1 : Int))), (63, .val (.pointer (some ⟨w.heap.size, 0, none⟩))), (64, .val (.int .i64 (k : Int))), (65, .val (.bool false)), (66, .val (.bool false)), (67, .val (.bool false)), (68, .val (.slice (some ⟨x2, 0, none⟩) 64 64)), (69, .val (.string (str (lastB (sy ++ ls) (x1 : Int))))), (70, .val (VAL (k : Int) As sy.length cs Al ls.length cl (relL stops left))), (71, .val (.int .i64 (x1 : Int))), (72, .val (.string (str (lastB (sy ++ ls) (x1 : Int))))), (73, .val (.bool false)), (74, .val (.bool false))]
            ⟨rfl, rfl, rfl, rfl, trivial⟩ (by kernel_rfl)
            (allOk_cons (ok_none rfl (l_mvF 12 (.val (.int .i64 (x1 : Int))) (.inl rfl) (by kernel_rfl) (by kernel_rfl) (by kernel_rfl)))
            <| allOk_cons (ok_none rfl (l_load (.tmp 11) (⟨q + 1, 0, none⟩) _ (.int .i64 (lastOf pre)) (by intro w; simp [go_sem, Try.underlying3]) rfl (hs 11 (.pointer (some ⟨q + 1, 0, none⟩)) (by kernel_rfl) (by kernel_rfl)) (fun w hg => hcs w hg) (by kernel_rfl)))
            <| allOk_cons (ok_none rfl (l_run2W (.tmp 58) (.tmp 59) (.val (.bool false)) (.int .i64 (x1 : Int)) (.int .i64 (lastOf pre)) (hs 58 _ (by kernel_rfl) (by kernel_rfl)) (hs 59 _ (by kernel_rfl) (by kernel_rfl)) (fun ρ w hg h1 h2 => ⟨_, w, r_leqN rfl h1 h2 hlst, Grow.refl _, rfl⟩) (by kernel_rfl)))
            <| allOk_cons (ok_none rfl (l_mvF 60 (.val (.bool false)) (.inl rfl) (by kernel_rfl) (by kernel_rfl) (by kernel_rfl)))
            <| allOk_cons (okg 3 false 61 rfl (by kernel_rfl) (by kernel_rfl) (by kernel_rfl) (l_mvF 12 (.val (.int .i64 (x1 : Int))) (.inl rfl) (by kernel_rfl) (by kernel_rfl) (by kernel_rfl)))
            <| allOk_cons (okg 3 false 61 rfl (by kernel_rfl) (by kernel_rfl) (by kernel_rfl) (l_run1W (.tmp 4) (.val (.pointer (some ⟨w.heap.size, 0, none⟩))) (.pointer (some ⟨w.heap.size, 0, none⟩)) (hs 4 _ (by kernel_rfl) (by kernel_rfl)) (fun ρ w hg h1 => ⟨_, w, r_fld0 rfl h1, Grow.refl _, rfl⟩) (by kernel_rfl)))
            <| allOk_cons (okg 3 false 61 rfl (by kernel_rfl) (by kernel_rfl) (by kernel_rfl) (l_load (.tmp 63) (⟨w.heap.size, 0, none⟩) _ (.int .i64 (k : Int)) (by intro w; simp [go_sem, Try.underlying3]) rfl (hs 63 (.pointer (some ⟨w.heap.size, 0, none⟩)) (by kernel_rfl) (by kernel_rfl)) (fun w hg => hcm w hg) (by kernel_rfl)))
            <| allOk_cons (okg 3 false 61 rfl (by kernel_rfl) (by kernel_rfl) (by kernel_rfl) (l_run2W (.tmp 62) (.tmp 64) (.val (.bool false)) (.int .i64 (x1 : Int)) (.int .i64 (k : Int)) (hs 62 _ (by kernel_rfl) (by kernel_rfl)) (hs 64 _ (by kernel_rfl) (by kernel_rfl)) (fun ρ w hg h1 h2 => ⟨_, w, r_geqN rfl h1 h2 hxm, Grow.refl _, rfl⟩) (by kernel_rfl)))
            <| allOk_cons (ok_none rfl (l_pickF (.tmp 61) (.const (Go.Value.bool true)) (.tmp 65) (.bool false) rfl (hs 61 (.bool false) (by kernel_rfl) (by kernel_rfl)) (hs 65 (.bool false) (by kernel_rfl) (by kernel_rfl)) (by kernel_rfl)))
            <| allOk_cons (ok_none rfl (l_mvF 66 (.val (.bool false)) (.inl rfl) (by kernel_rfl) (by kernel_rfl) (by kernel_rfl)))
            <| allOk_cons (okg 9 false 67 rfl (by kernel_rfl) (by kernel_rfl) (by kernel_rfl) (l_mvF 13 (.val (.slice (some ⟨x2, 0, none⟩) 64 64)) (.inl rfl) (by kernel_rfl) (by kernel_rfl) (by kernel_rfl)))
            <| allOk_cons (okg 9 false 67 rfl (by kernel_rfl) (by kernel_rfl) (by kernel_rfl) (l_convS (.tmp 68) _ _ (.slice (some ⟨x2, 0, none⟩) 64 64) (.string (str (lastB (sy ++ ls) (x1 : Int)))) rfl (hs 68 (.slice (some ⟨x2, 0, none⟩) 64 64) (by kernel_rfl) (by kernel_rfl)) (fun w hg => hst w hg) (by kernel_rfl)))
            <| allOk_cons (okg 9 false 67 rfl (by kernel_rfl) (by kernel_rfl) (by kernel_rfl) (l_loadV (.tmp 4) ⟨w.heap.size, 0, none⟩ 141 (VAL (k : Int) As sy.length cs Al ls.length cl (relL stops left)) rfl (hs 4 _ (by kernel_rfl) (by kernel_rfl)) (fun w hg => hld w hg) (by kernel_rfl)))
            <| allOk_cons (okg 9 false 67 rfl (by kernel_rfl) (by kernel_rfl) (by kernel_rfl) (l_mvF 12 (.val (.int .i64 (x1 : Int))) (.inl rfl) (by kernel_rfl) (by kernel_rfl) (by kernel_rfl)))
            <| allOk_cons (okg 9 false 67 rfl (by kernel_rfl) (by kernel_rfl) (by kernel_rfl) (l_call 155 _ _ rfl (enters_of Try.func155 (by kernel_rfl) rfl) #[VAL (k : Int) As sy.length cs Al ls.length cl (relL stops left), .int .i64 (x1 : Int)] (.val (.string (str (lastB (sy ++ ls) (x1 : Int))))) (args2 (hs 70 (VAL (k : Int) As sy.length cs Al ls.length cl (relL stops left)) (by kernel_rfl) (by kernel_rfl)) (hs 71 (.int .i64 (x1 : Int)) (by kernel_rfl) (by kernel_rfl))) (fun w hg => gives_grow (HSEC w hg)) (by kernel_rfl)))
            <| allOk_cons (okg 9 false 67 rfl (by kernel_rfl) (by kernel_rfl) (by kernel_rfl) (l_run2W (.tmp 69) (.tmp 72) (.val (.bool false)) (.string (str (lastB (sy ++ ls) (x1 : Int)))) (.string (str (lastB (sy ++ ls) (x1 : Int)))) (hs 69 _ (by kernel_rfl) (by kernel_rfl)) (hs 72 _ (by kernel_rfl) (by kernel_rfl)) (fun ρ w hg h1 h2 => ⟨_, w, r_neT rfl h1 h2, Grow.refl _, rfl⟩) (by kernel_rfl)))
            <| allOk_cons (ok_none rfl (l_pickF (.tmp 67) (.const (Go.Value.bool true)) (.tmp 73) (.bool false) rfl (hs 67 (.bool false) (by kernel_rfl) (by kernel_rfl)) (hs 73 (.bool false) (by kernel_rfl) (by kernel_rfl)) (by kernel_rfl)))
            <| allOk_nil) ?_
          intro a V1 hsz hdef hGV1 hF hU
          have e74 : a.eval (.tmp 74) = .bool false := hF 74
          have ha := Reg.acts_eq [58, 59, 60, 61, 62, 63, 64, 65, 66, 67, 68, 69, 70, 71, 72, 73, 74] hsz hdef hU
          clear hF hU hdef
          simp only [List.foldl_cons, List.foldl_nil, e74] at ha
          clear e74 hsz
          generalize a.eval (.tmp 58) = v58 at *
          generalize a.eval (.tmp 59) = v59 at *
          generalize a.eval (.tmp 60) = v60 at *
          generalize a.eval (.tmp 61) = v61 at *
          generalize a.eval (.tmp 62) = v62 at *
          generalize a.eval (.tmp 63) = v63 at *
          generalize a.eval (.tmp 64) = v64 at *
          generalize a.eval (.tmp 65) = v65 at *
          generalize a.eval (.tmp 66) = v66 at *
          generalize a.eval (.tmp 67) = v67 at *
          generalize a.eval (.tmp 68) = v68 at *
          generalize a.eval (.tmp 69) = v69 at *
          generalize a.eval (.tmp 70) = v70 at *
          generalize a.eval (.tmp 71) = v71 at *
          generalize a.eval (.tmp 72) = v72 at *
          generalize a.eval (.tmp 73) = v73 at *
          simp only [Act.put, List.setIfInBounds_toArray, List.set_cons_succ, List.set_cons_zero] at ha
          subst ha
          simp only [Exit.then]
          refine ‹∀ (a : Act) (w : World), Code.wpIn _ _ Try.prog _ _ a w → _› _ V1 ?_
          have hI1 := hI.grow hGV1
          have hkV := hk1.below hGV1 hk1.lt
          have hlV := hl1.below hGV1 hl1.lt
          have hBV1 := hBV.trans (hGV1.mono hBV.size)
          have hKO := KeepOut.grow (fun g => g = q ∨ g = q + 1) Y0.heap.size hGV1
          have k1 := hkV.boxed
          have k2 := hlV.boxed
          have k3 := hI1.m.boxed
          have f1 := hkV.free 0
          have f2 := hlV.free 0
          have n1 : ¬ q = q + 1 := by omega
          have n2 : ¬ q + 1 = q := by omega
          have n3 : ¬ w.heap.size + 1 = q := by omega
          have n4 : ¬ w.heap.size + 1 = q + 1 := by omega
          clear hcm hcs hld HSEC hst hcvV hlst hxm hGV1
          gi_wp2
          refine ⟨(hKO.trans (KeepOut.setCell _ ⟨q + 1, 0, none⟩ _ (show q + 1 < Y0.heap.size by omega) (.inr rfl))).trans (KeepOut.setCell _ ⟨q, 0, none⟩ _ (show q < Y0.heap.size by omega) (.inl rfl)), ⟨?_, ?_, ?_⟩, ?_, ?_, ?_⟩
          · exact (hI1.v.other (by simp; omega) _).other (by simp; omega) _
          · exact (hI1.m.other (by simp; omega) _).other (by simp; omega) _
          · exact (hI1.o.other (by simp; omega) _).other (by simp; omega) _
          · rw [HNL.out]
            exact (hkV.other (by simp) _).set 0 _
          · rw [HLO.out]
            exact (hlV.set 0 _).other (by simp) _
          · exact (hBV1.setCell (p := ⟨q + 1, 0, none⟩) (by simp; omega) _).setCell (p := ⟨q, 0, none⟩) (by simp; omega) _
        case done =>
          rintro D xs V hD hS ⟨i1, i2, i3, i4⟩ hK
          have hl := congrArg List.length hS
          rw [List.length_map] at hl
          rw [hl] at i2
          exact hQ _ _ ⟨D, rfl, hK, hD, i1, i2, i4⟩
        case stop =>
          rintro D c pre V hD hS h
          exact h.elim
      rintro a V ⟨D, rfl, hK, hD, i1, i2, i4⟩
      have k1 := i2.boxed
      have k2 := i1.m.boxed
      have k3 := i1.o.boxed
      have f3 := i1.o.free 0
      have hul := keysUp_len G k
      have hmn : ¬ (99 : Int) < ((keysUp G k).length : Int) := by omega
      gi_wp2
      have hfin : (((keysUp G k).length : Int) == min ((keysUp G k).length : Int) (max 1 99)) = true := by simp; omega
      rw [hfin]
      have b6 := i1.o.set 0 (.bool true)
      have hDg : V.heap[D]? = some (.deferred (some [])) := hK
      have hE1 := (Below.heap_setCell V ⟨w.heap.size + 1 + 1, 0, none⟩ (.bool true) D (by simp; omega)).trans hK
      have hBf : Below w.heap.size w (V.setCell ⟨w.heap.size + 1 + 1, 0, none⟩ (.bool true)) := (hBw2.trans (i4.mono hBw2.size)).setCell (p := ⟨w.heap.size + 1 + 1, 0, none⟩) (by simp; omega) _
      clear hfin hDg hK k1 k2 k3 f3
      generalize V.setCell ⟨w.heap.size + 1 + 1, 0, none⟩ (.bool true) = Z at *
      refine ⟨by simp, .inl ⟨D, _, rfl, run_takeDeferred hE1, ?_⟩⟩
      have b7 : BlkIs (Z.putObj D (.deferred none)) (w.heap.size + 1 + 1) 4 #[.bool true] := (putObj_oth Z D (.deferred none) (g := w.heap.size + 1 + 1) (by omega)).trans b6
      refine ⟨.bool true, results_cellQ (p := ⟨w.heap.size + 1 + 1, 0, none⟩) 6 rfl rfl (by simp [go_sem]) b7.boxed, rfl, ?_⟩
      exact hBf.trans (belowK_b (w := w) (Nat.le_refl _) Z D _ _ (by have := hBw2.size; omega) hE1 rfl rfl)
theorem is_gives (w : World) (p many : Nat) (sy ls : List (Nat × List UInt8)) (left : Int) (stops : Bool) (As : Option Addr) (cs : Nat) (Al : Option Addr) (cl : Nat) (hD : DkIs w p many (gOf sy) ls left stops) (hR : RIs w w.heap.size sy ls As cs Al cl)
    (hat : ∀ x ∈ sy ++ ls, x.1 < many) (hn1 : sy.length ≤ 400000) (hn2 : ls.length ≤ 400000) (hm : many ≤ 12) :
    Calls Try.prog 85 #[.pointer (some ⟨p, 0, none⟩), VAL (many : Int) As sy.length cs Al ls.length cl (relL stops left), .int .i64 99] w fun e w' => e = .returned (.bool true) ∧ Below w.heap.size w w' :=
  callsIn_wide.1 (is_in 9 (Nat.le_refl _) w p many sy ls left stops As cs Al cl hD hR hat hn1 hn2 hm)
end Go.Proofs.Ytlelckdcmlpmdaa
/- loupelaw04.DiskCopies: small words. -/
namespace Go.Proofs.Ytlelckdcmlpmdaa
open Go Go.RowKit Lou

section
variable {P : Program} {w w' : World} {ops : Array Oper} {i : Nat} {o : Oper} {a : Act} {Q : Exit → Act → World → Prop} {K : Act → World → Prop}
/-- One operation, whose guard is met, carried out: it yields. -/
theorem opVG (v : Value) (ho : ops[i]? = some o) (hw : Region.wanted o (yielded ops a.tmps) = true) (hr : (execOp a.eval o).run P w = .ok (.value v) w') (h : K (a.put o.dst v) w') : wpOp P ops Q i K a w := by
  unfold wpOp
  simp only [ho]
  rw [if_pos hw]
  left
  unfold Oper.wp
  rw [hr]
  exact h
end
section
variable {w : World} {ops : Array Oper} {i : Nat} {o : Oper} {a : Act} {Q : Exit → Act → World → Prop} {K : Act → World → Prop}
theorem opAppG (ho : ops[i]? = some o) (hw : Region.wanted o (yielded ops a.tmps) = true) {S T : TypeId} {sz by_ : Nat} {z : Value} (hT : ElT S T sz by_ z) (s x : Operand) (hc : o.op = .call { callee := .builtin .append, args := #[s, x], argTypes := #[S, S] })
    (base : Nat) (v : Value) (n : Nat) (cs : List Value) (hs : a.eval s = v) (hown : w.ownsRow base T sz v n cs) (B : Nat) (A : Option Addr) (m c : Nat) (cs2 : List Value) (hx : a.eval x = .slice A m c) (hin : InG w B sz A m c cs2)
    (hm : n + m ≤ maxLen) (hbytes : (n + m) * by_ ≤ 140737488355328) (hbase : base ≤ w.heap.size)
    (h : ∀ v' w', w'.ownsRow base T sz v' (n + m) (cs ++ cs2) → w.grownBy w' v.ownBlock → K (a.put o.dst v') w') : wpOp Try.prog ops Q i K a w := by
  obtain ⟨v', w', hr, h2, h3⟩ := run_appG (w := w) o.type hT base v n cs hown B A m c cs2 hin hm hbytes hbase
  refine opVG v' ho hw (w' := w') ?_ (h v' w' h2 h3)
  unfold execOp
  simp only [hc, resolve, invoke, builtin, Sem.run_bind, Sem.run_pure, Result.andThen_ok, List.map_toArray, List.map_cons, List.map_nil, hs, hx, hr]
end
theorem row_lit2 (w : World) (T : TypeId) (sz : Nat) (cs : List Value) (hn : cs.length = 2 * sz) (h1 : ∀ v ∈ cs, v.oneCell' = true) : InG (w.alloc (.cells cs.toArray T)) (w.alloc (.cells cs.toArray T)).heap.size sz (some ⟨w.heap.size, 0, none⟩) 2 2 cs :=
  ⟨Nat.le_refl _, by omega, (fun e => by cases e), hn, h1, fun _ => ⟨w.heap.size, 0, rfl, by simp, fun j v hj => by
    rw [(BlkIs.new w T cs.toArray).cell, Nat.zero_add]
    simpa using hj⟩⟩
theorem acsC_two (xs : List ActV) (y z : ActV) : acsC (xs ++ [y, z]) = acsC xs ++ (actC y ++ actC z) := by unfold acsC; simp
/-- A disk lies in no block of another type. -/
theorem DkIs.apart {w : World} {p q many : Nat} {g : Nat → List UInt8} {xs : List (Nat × List UInt8)} {left : Int} {stops : Bool} (h : DkIs w p many g xs left stops) {cs : Array Value} {T : TypeId} (hq : BlkIs w q T cs) (hT : T ≠ 154) : q ≠ p := by
  intro e
  subst e
  obtain ⟨r, A, c, hb, _⟩ := h.has
  have e : some (Obj.cells cs T (0, 0)) = some (Obj.cells _ _ (0, 0)) := hq.symm.trans hb
  injection e with e
  injection e with _ e _
  exact hT e
/-- Another disk, while one is worked on. -/
theorem DkIs.beside {w w' : World} {p q many many' : Nat} {g g' : Nat → List UInt8} {xs xs' : List (Nat × List UInt8)} {left left' : Int} {stops stops' : Bool} (h : DkIs w p many g xs left stops) (h' : DkIs w q many' g' xs' left' stops') (hne : p ≠ q) (hg : w.grownBy w' (some q)) : DkIs w' p many g xs left stops := by
  obtain ⟨r, A, c, hb, _⟩ := h'.has
  exact h.other hb (by show 5 ≤ 64; decide) hne hg
theorem bool_iff {a b : Bool} {P : Prop} (h : a = true ↔ P) (k : b = true ↔ P) : a = b := by
  cases a <;> cases b <;> simp_all
/-- The document's disk, laid out. -/
def vlS (m : Nat) (s : DSt) (As : Option Addr) (cs : Nat) (Al : Option Addr) (cl : Nat) : Array Value := #[.int .i64 (m : Int), .slice As s.sy.length cs, .slice Al s.ls.length cl, .int .i64 (relL s.stops s.left)]
/-- What holds of a state behind some calls. -/
theorem run_facts {many : Nat} : ∀ (xs : List ActV) (s : DSt), StOk many s → St0 s → (∀ x ∈ xs, x.n ≤ 9223372036854775807) → StOk many (runS many xs s) ∧ St0 (runS many xs s) ∧ (runS many xs s).sy.length + (runS many xs s).ls.length ≤ s.sy.length + s.ls.length + xs.length
  | [], s, h, z, _ => ⟨h, z, Nat.le_refl _⟩
  | x :: xs, s, h, z, hn => by
    obtain ⟨h1, h2, h3⟩ := run_facts xs (actS many x s) (stOk_act h x (hn x (List.mem_cons_self ..))) (act_st0 z x) (fun y hy => hn y (List.mem_cons_of_mem _ hy))
    have h4 := act_len many x s
    refine ⟨h1, h2, ?_⟩
    rw [List.length_cons]
    show (runS many xs (actS many x s)).sy.length + (runS many xs (actS many x s)).ls.length ≤ _
    omega
end Go.Proofs.Ytlelckdcmlpmdaa
