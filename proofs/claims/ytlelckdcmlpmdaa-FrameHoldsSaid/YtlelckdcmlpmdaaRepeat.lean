/- slices.Repeat of bytes, twice. -/
import Derived.Test.YtlelckdcmlpmdaaCopy
import Derived.Test.YtlelckdcmlpmdaaMul
import Derived.Test.YtlelckdcmlpmdaaFrWithin
import Derived.Test.YtlelckdcmlpmdaaReg3
import Derived.Test.YtlelckdcmlpmdaaLawStr
import Derived.LoopN
namespace Go.Proofs.Ytlelckdcmlpmdaa
open Go Go.RowKit Lou

theorem BlkIs.own' {w : World} {g base : Nat} {l : List UInt8} (h : BlkIs w g 5 (l.map b8).toArray) (hb : base ≤ g) (hm : l.length ≤ 9223372036854775807) : OwnB w base (.slice (some ⟨g, 0, none⟩) l.length l.length) l :=
  ⟨by simp, .inr ⟨g, l.length, (l.map b8).toArray, rfl, hb, h, Nat.le_refl _, by unfold maxLen; omega, by simp, by simp [List.take_of_length_le]⟩⟩
theorem cut_from {ρ : Operand → Value} {w : World} {o : Oper} {x y : Operand} {g n m : Nat} (ho : o.op = .slice 30 x (some y) none none) (h1 : ρ x = .slice (some ⟨g, 0, none⟩) n n) (h2 : ρ y = .int .i64 (m : Int)) (hm : m < n) :
    (execOp ρ o).run Try.prog w = .ok (.value (.slice (some ⟨g, m, none⟩) (n - m) (n - m))) w := by
  have ht : Try.prog.underlying 30 = some (.slice (Try.prog.elem 30)) := by kernel_rfl
  have e : ¬ n = m := by omega
  have e2 : m ≤ n := by omega
  have ea : (⟨g, 0, none⟩ : Addr).add m = ⟨g, m, none⟩ := by cases m <;> simp [Addr.add]
  simp [execOp, ho, h1, h2, go_sem, run_sliceAt_slice _ _ _ _ _ _ ht, Result.andThen, e, e2, ea]
theorem cut_to {ρ : Operand → Value} {w : World} {o : Oper} {x y : Operand} {g n m : Nat} (ho : o.op = .slice 30 x none (some y) none) (h1 : ρ x = .slice (some ⟨g, 0, none⟩) n n) (h2 : ρ y = .int .i64 (m : Int)) (hm : m < n) :
    (execOp ρ o).run Try.prog w = .ok (.value (.slice (some ⟨g, 0, none⟩) m n)) w := by
  have ht : Try.prog.underlying 30 = some (.slice (Try.prog.elem 30)) := by kernel_rfl
  have e2 : m ≤ n := by omega
  simp [execOp, ho, h1, h2, go_sem, run_sliceAt_slice _ _ _ _ _ _ ht, Result.andThen, e2]
set_option maxRecDepth 100000 in
set_option maxHeartbeats 2000000 in
theorem repeat2_gives (w : World) (A : Option Addr) (c : Nat) (l : List UInt8) (h : InB w w.heap.size A c l) (hl : 0 < l.length) (hm : l.length < 30000) :
    Calls Try.prog 181 #[.slice A l.length c, .int .i64 2] w (GivesB w (l ++ l)) := by
  have H := mul_gives l.length 2 (by omega) (by omega) w
  have e1 : IntKind.u64.wrap (l.length : Int) = (l.length : Int) := by
    show (l.length : Int) % 18446744073709551616 = _
    omega
  have e2 : IntKind.i64.wrap ((l.length * 2 : Nat) : Int) = ((l.length * 2 : Nat) : Int) := wrap_i64_fr _ (by omega) (by omega)
  obtain ⟨n, hn⟩ : ∃ n, n = l.length * 2 := ⟨_, rfl⟩
  rw [← hn] at H e2
  have hN := Lib.hid hn
  have hnb : n < 60000 := by omega
  clear hn
  go_enter Try.func181, Try.ntmps181
  go_wp2_with fail
  refine H.mono ?_
  rintro e w' ⟨rfl, rfl⟩
  go_wp2_with (first
    | (at_make; refine wp_makeB rfl (.tmp 29) (.tmp 29) rfl w.heap.size .i64 .i64 n rfl rfl (by omega) (Nat.le_refl _) ?_; intro w1 hown hg1; have hB1 : Below w.heap.size w w1 := (Below.refl _ w).grown hg1 (Nat.le_refl _) (fun k hk => by cases hk); obtain ⟨hb1, _⟩ := OwnB.blk (l := List.replicate n 0) (by rw [List.length_replicate]; exact hown))
    | (refine wp_copyB rfl (.tmp 31) (.tmp 32) rfl w.heap.size 0 (List.replicate n 0) l A c _ n n rfl rfl hb1 (h.below hB1) (by simp) ?_))
  have hmn : min l.length n = l.length := by have := hN.out; omega
  have hs1 : spliceB (List.replicate n 0) 0 n l = l ++ List.replicate l.length 0 := by
    have := hN.out
    subst this
    simp only [spliceB, List.take_zero, List.nil_append, Nat.zero_add, List.drop_replicate]
    rw [List.take_of_length_le (by omega), Nat.min_eq_left (by omega)]
    congr 2
    omega
  rw [hs1]
  have hb2 := hb1.setRow ((l ++ List.replicate l.length 0).map b8).toArray
  have hB2 := below_setRow hB1 (Nat.le_refl _) (g := w.heap.size) ((l ++ List.replicate l.length 0).map b8).toArray
  generalize w1.setRow w.heap.size ((l ++ List.replicate l.length 0).map b8).toArray = w2 at *
  rw [hmn]
  clear hB1 hb1 hown hg1 hmn hs1
  have hlt : (l.length : Int) < (n : Int) := by have := hN.out; omega
  refine wp_loop_rounds 2 ?_
  rw [rounds_succ]
  go_wp2_with fail
  have hin2 : InB w2 (w.heap.size + 1) (some ⟨w.heap.size, 0, none⟩) n l := ⟨by have := hN.out; omega, by omega, (fun e => by cases e), fun _ => ⟨_, 0, rfl, by omega, fun j hj => by
    rw [hb2.cell]
    simp [b8, List.getElem?_append_left, hj]⟩⟩
  have hfit : l.length + (n - l.length) ≤ (l ++ List.replicate l.length (0 : UInt8)).length := by have := hN.out; simp; omega
  have hln : l.length < n := by omega
  have hadd : IntKind.i64.wrap ((l.length : Int) + (l.length : Int)) = (n : Int) := by have := hN.out; rw [wrap_i64_fr _ (by omega) (by omega)]; omega
  let WI : Reg.WInv := fun listed _ W => BlkIs W w.heap.size 5 ((if listed.getD 7 false then l ++ l else l ++ List.replicate l.length 0).map b8).toArray ∧ Below w.heap.size w W
  have hkeep : ∀ i, i ≠ 7 → ∀ (listed : Array Bool) (a a' : Act) (W W' : World), WI listed a W → Grow W W' → WI (listed.setIfInBounds i true) a' W' := by
    intro i hi listed a a' W W' h hg
    have e : (listed.setIfInBounds i true).getD 7 false = listed.getD 7 false := by simp [Array.getD_eq_getD_getElem?, Array.getElem?_setIfInBounds, hi]
    refine ⟨?_, h.2.trans (hg.mono h.2.size)⟩
    rw [e]
    exact h.1.below hg h.1.lt
  have hwi0 : ∀ (m : Nat) (a : Act), WI (Array.replicate m false) a w2.drew := by
    intro m a
    have e : (Array.replicate m false).getD 7 false = false := by simp [Array.getD]
    refine ⟨?_, hB2.drew⟩
    rw [e]
    exact hb2.drew
  have hsp : spliceB (l ++ List.replicate l.length 0) l.length (n - l.length) l = l ++ l := by
    have e : n - l.length = l.length := by have := hN.out; omega
    rw [e]
    simp [spliceB]
  have hcopy : ∀ (ops : Array Oper) (a0 : Act) (L : List (Nat × Fact)) (o : Oper), o.guard = none → o.op = .call { callee := .builtin .copy, args := #[.tmp 41, .tmp 44], argTypes := #[30, 30] } → o.dst = some 45 → 7 < ops.size →
      (o.looksAt ops).contains 41 = true → (o.looksAt ops).contains 44 = true → Reg.ahead ops o 41 = true → Reg.ahead ops o 44 = true → factOf L 41 = .val (.slice (some ⟨w.heap.size, l.length, none⟩) (n - l.length) (n - l.length)) → factOf L 44 = .val (.slice (some ⟨w.heap.size, 0, none⟩) l.length n) →
      factOf L 45 = .val (.int .i64 (l.length : Int)) → Reg.allVal L = true → Reg.Op2 Try.prog ops a0 (FSof L) WI 7 o := by
    intro ops a0 L o hg ho hd hsz c1 c2 h1 h2 f1 f2 f3 hv listed a W K Q hs hl _ hwi hlook _ hK
    rw [if_pos (by simp [Region.wanted, hg])]
    left
    have g1 : (factOf L 41).holds (a.eval (.tmp 41)) W := hlook 41 c1 h1
    have g2 : (factOf L 44).holds (a.eval (.tmp 44)) W := hlook 44 c2 h2
    rw [f1] at g1
    rw [f2] at g2
    have e7 : listed.getD 7 false = false := by
      have h7 : 7 < listed.size := by omega
      simpa [Array.getD, h7] using hl
    obtain ⟨hb, hB⟩ := hwi
    rw [e7] at hb
    have hin : InB W (w.heap.size + 1) (some ⟨w.heap.size, 0, none⟩) n l := ⟨by omega, by omega, (fun e => by cases e), fun _ => ⟨_, 0, rfl, by omega, fun j hj => by
      rw [hb.cell]
      simp [b8, List.getElem?_append_left, hj]⟩⟩
    refine oper_copyB (.tmp 41) (.tmp 44) ho w.heap.size l.length (l ++ List.replicate l.length 0) l (some ⟨w.heap.size, 0, none⟩) n (w.heap.size + 1) (n - l.length) (n - l.length) g1 g2 hb hin hfit ?_
    rw [hsp, show min l.length (n - l.length) = l.length from by have := hN.out; omega]
    refine hK _ _ (fun t u h => Reg.factOf_val hv t u _ _ h) ?_ ?_
    · rw [hd]
      show (factOf L 45).holds _ _
      rw [f3]
      rfl
    · refine ⟨?_, below_setRow hB (Nat.le_refl _) _⟩
      have e8 : (listed.setIfInBounds 7 true).getD 7 false = true := by
        have h7 : 7 < listed.size := by omega
        simp [Array.getD_eq_getD_getElem?, Array.getElem?_setIfInBounds, h7]
      rw [e8]
      exact hb.setRow _
  open Reg in
  refine region2_facts (by kernel_rfl) (by kernel_rfl) 48 rfl (by kernel_rfl) [38, 39, 40, 41, 42, 43, 44, 45, 46, 8] (by kernel_rfl)
    [(7, .val (.slice (some ⟨w.heap.size, 0, none⟩) n n))]
    [(38, .val (.int .i64 (l.length : Int))), (39, .val (.slice (some ⟨w.heap.size, 0, none⟩) n n)), (40, .val (.int .i64 (l.length : Int))), (41, .val (.slice (some ⟨w.heap.size, l.length, none⟩) (n - l.length) (n - l.length))), (42, .val (.slice (some ⟨w.heap.size, 0, none⟩) n n)), (43, .val (.int .i64 (l.length : Int))), (44, .val (.slice (some ⟨w.heap.size, 0, none⟩) l.length n)), (45, .val (.int .i64 (l.length : Int))), (46, .val (.int .i64 (n : Int))), (8, .val (.int .i64 (n : Int)))]
    ⟨rfl, trivial⟩ (by kernel_rfl) (WI) (hwi0 _ { tmps := #[], defers := [] })
    (⟨op2_mv_old 8 rfl (.inl rfl) (by kernel_rfl) (fun w => fsd (f := .val (.int .i64 (l.length : Int))) (by kernel_rfl) rfl) (fun listed a v w w1 h hg => hkeep 0 (by decide) listed a a w w1 h hg),
    ⟨op2_of (FSof.stable _) (fun _ => ok_none rfl (l_mvF 7 (.val (.slice (some ⟨w.heap.size, 0, none⟩) n n)) (.inl rfl) (by kernel_rfl) (by kernel_rfl) (by kernel_rfl))) (by kernel_rfl) (fun listed a v w w1 h hg => hkeep 1 (by decide) listed a a w w1 h hg),
    ⟨op2_mv_old 8 rfl (.inl rfl) (by kernel_rfl) (fun w => fsd (f := .val (.int .i64 (l.length : Int))) (by kernel_rfl) rfl) (fun listed a v w w1 h hg => hkeep 2 (by decide) listed a a w w1 h hg),
    ⟨op2_of (FSof.stable _) (fun _ => ok_none rfl (l_run2W (.tmp 39) (.tmp 40) (.val (.slice (some ⟨w.heap.size, l.length, none⟩) (n - l.length) (n - l.length))) (.slice (some ⟨w.heap.size, 0, none⟩) n n) (.int .i64 (l.length : Int)) (hs 39 _ (by kernel_rfl) (by kernel_rfl)) (hs 40 _ (by kernel_rfl) (by kernel_rfl)) (fun ρ w hg h1 h2 => ⟨_, w, cut_from rfl h1 h2 hln, Grow.refl _, rfl⟩) (by kernel_rfl))) (by kernel_rfl) (fun listed a v w w1 h hg => hkeep 3 (by decide) listed a a w w1 h hg),
    ⟨op2_of (FSof.stable _) (fun _ => ok_none rfl (l_mvF 7 (.val (.slice (some ⟨w.heap.size, 0, none⟩) n n)) (.inl rfl) (by kernel_rfl) (by kernel_rfl) (by kernel_rfl))) (by kernel_rfl) (fun listed a v w w1 h hg => hkeep 4 (by decide) listed a a w w1 h hg),
    ⟨op2_mv_old 8 rfl (.inl rfl) (by kernel_rfl) (fun w => fsd (f := .val (.int .i64 (l.length : Int))) (by kernel_rfl) rfl) (fun listed a v w w1 h hg => hkeep 5 (by decide) listed a a w w1 h hg),
    ⟨op2_of (FSof.stable _) (fun _ => ok_none rfl (l_run2W (.tmp 42) (.tmp 43) (.val (.slice (some ⟨w.heap.size, 0, none⟩) l.length n)) (.slice (some ⟨w.heap.size, 0, none⟩) n n) (.int .i64 (l.length : Int)) (hs 42 _ (by kernel_rfl) (by kernel_rfl)) (hs 43 _ (by kernel_rfl) (by kernel_rfl)) (fun ρ w hg h1 h2 => ⟨_, w, cut_to rfl h1 h2 hln, Grow.refl _, rfl⟩) (by kernel_rfl))) (by kernel_rfl) (fun listed a v w w1 h hg => hkeep 6 (by decide) listed a a w w1 h hg),
    ⟨hcopy _ _ _ _ rfl rfl rfl (by decide) (by kernel_rfl) (by kernel_rfl) (by kernel_rfl) (by kernel_rfl) (by kernel_rfl) (by kernel_rfl) (by kernel_rfl) (by kernel_rfl),
    ⟨op2_of (FSof.stable _) (fun _ => ok_none rfl (run2 (.tmp 38) (.tmp 45) (hs 38 (.int .i64 (l.length : Int)) (by kernel_rfl) (by kernel_rfl)) (hs 45 (.int .i64 (l.length : Int)) (by kernel_rfl) (by kernel_rfl)) (fun ρ w h1 h2 => by simp [execOp, h1, h2, go_sem, hadd, Result.andThen]) (fun _ => fsd (f := .val (.int .i64 (n : Int))) (by kernel_rfl) rfl))) (by kernel_rfl) (fun listed a v w w1 h hg => hkeep 8 (by decide) listed a a w w1 h hg),
    ⟨op2_of (FSof.stable _) (fun _ => ok_none rfl (l_mvF 46 (.val (.int .i64 (n : Int))) (.inr rfl) (by kernel_rfl) (by kernel_rfl) (by kernel_rfl))) (by kernel_rfl) (fun listed a v w w1 h hg => hkeep 9 (by decide) listed a a w w1 h hg),
    trivial⟩⟩⟩⟩⟩⟩⟩⟩⟩⟩) ?_
  intro listed a w3 hall hJ hF
  have e8 : a.eval (.tmp 8) = .int .i64 (n : Int) := hF 8
  have ha := Reg.acts_eq [38, 39, 40, 41, 42, 43, 44, 45, 46, 8] hJ.size hJ.defers hJ.rest
  obtain ⟨hb3, hB3⟩ : BlkIs w3 w.heap.size 5 ((l ++ l).map b8).toArray ∧ Below w.heap.size w w3 := by
    have h7 := hall 7 (by decide)
    have hs : listed.getD 7 false = true := by
      cases h8 : listed[7]? with
      | none => 
        exfalso
        have h9 := hJ.closed 9 _ rfl (hall 9 (by decide)) ⟨7, .chain⟩ (by simp) (by decide)
        simp [Array.getD_eq_getD_getElem?, h8] at h9
      | some b => simpa [Array.getD_eq_getD_getElem?, h8] using h7
    have hw := hJ.wi
    refine ⟨?_, hw.2⟩
    have := hw.1
    rw [hs] at this
    exact this
  clear hF hJ hall
  simp only [List.foldl_cons, List.foldl_nil, e8] at ha
  clear e8
  generalize a.eval (.tmp 38) = v38 at ha
  generalize a.eval (.tmp 39) = v39 at ha
  generalize a.eval (.tmp 40) = v40 at ha
  generalize a.eval (.tmp 41) = v41 at ha
  generalize a.eval (.tmp 42) = v42 at ha
  generalize a.eval (.tmp 43) = v43 at ha
  generalize a.eval (.tmp 44) = v44 at ha
  generalize a.eval (.tmp 45) = v45 at ha
  generalize a.eval (.tmp 46) = v46 at ha
  simp only [Act.put, List.setIfInBounds_toArray, List.set_cons_succ, List.set_cons_zero] at ha
  subst ha
  simp only [Exit.inBlock, Exit.then]
  rw [rounds_succ]
  go_wp2
  go_ret
  refine ⟨_, rfl, ?_, hB3⟩
  have hlen : (l ++ l).length = n := by have := hN.out; simp; omega
  rw [← hlen]
  exact hb3.own' (Nat.le_refl _) (by rw [hlen]; omega)
end Go.Proofs.Ytlelckdcmlpmdaa
