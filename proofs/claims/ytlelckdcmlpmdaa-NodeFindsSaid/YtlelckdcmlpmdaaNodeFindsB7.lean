/- Texts that the proof of NodeFinds leans on, part 7. -/
import Derived.Lib.MinMax
import Derived.Deep.Slices
import Derived.Deep.Grids
import Derived.Test.YtlelckdcmlpmdaaNodeFindsB6
/- loupelaw12.NodeFinds: the walk. -/
namespace Go.Proofs.Ytlelckdcmlpmdaa
open Go Go.RowKit Lou Go.Shelf
attribute [local go_sem] Oper.semAt_some

/-- The law's own blocks. -/
structure Hs (s q r z : Nat) (many : Int) (vk : Value) (t m : Int) (W : World) : Prop where
  y : BlkIs W (s + 1) 3 #[.int .i64 many]
  o : BlkIs W (s + 2) 4 #[.bool false]
  k : BlkIs W q 73 #[vk]
  t : BlkIs W r 3 #[.int .i64 t]
  m : BlkIs W z 3 #[.int .i64 m]
theorem Hs.kept {s q r z : Nat} {many : Int} {vk : Value} {t m : Int} {W W' : World} {row : Option Nat} (h : Hs s q r z many vk t m W) (hg : W.grownBy W' row) (hr : ∀ r, row = some r → ∃ o : Obj, W.heap[r]? = some o ∧ o.isCells = false) : Hs s q r z many vk t m W' :=
  ⟨h.y.kept hg hr, h.o.kept hg hr, h.k.kept hg hr, h.t.kept hg hr, h.m.kept hg hr⟩
theorem Hs.step {s q r z : Nat} {many : Int} {vk : Value} {t m : Int} {W : World} (h : Hs s q r z many vk t m W) (h1 : s + 2 < z) (h2 : q ≠ z) (h3 : r ≠ z) (m' : Int) : Hs s q r z many vk t m' (W.setCell ⟨z, 0, none⟩ (.int .i64 m')) :=
  ⟨h.y.other (by simp; omega) _, h.o.other (by simp; omega) _, h.k.other (by simpa using h2) _, h.t.other (by simpa using h3) _, h.m.set 0 _⟩
@[local go_sem] theorem run_eql_fn82 (w : World) (f : Fn) (xs ys : Array Value) : (binOp .eql 82 (.func f xs ys) .nilFunc).run Try.prog w = .ok (.bool false) w := by
  have h := run_equalIn_func_nil (P := Try.prog) 9999 82 w f xs ys Try.underlying82
  have e : binOp .eql 82 (.func f xs ys) .nilFunc = (do pure (.bool (← Op.equalIn (9999 + 1) 82 (.func f xs ys) .nilFunc))) := rfl
  rw [e]
  simp only [Sem.run_bind, h, Result.andThen, Sem.run_pure]
theorem x_loadV {P : Program} {w : World} {ρ : Operand → Value} {o : Oper} {T t : TypeId} {k g : Nat} {cs : Array Value} {x : Operand} (hT : RowTy P T k) (hb : BlkIs w g t cs) (hk : cs.size = k) (ho : o.op = .load T x) (hx : ρ x = .pointer (some ⟨g, 0, none⟩)) : (execOp ρ o).run P w = .ok (.value (.agg cs)) w := by
  have := x_loadM (ρ := ρ) (o := o) hT hb.range (by simpa using hk) ho hx
  simpa using this
theorem sameS {a b : ByteArray} (h : a.toList = b.toList) : a = b := by
  rw [ByteArray.toList_eq, ByteArray.toList_eq] at h
  exact ByteArray.ext (Array.toList_inj.1 h)
set_option maxRecDepth 100000 in
set_option maxHeartbeats 4000000 in
theorem lawNF_in (n : Nat) (hn : 6 ≤ n) (w : World) (x : Nod) (Ac : Option Addr) (cc : Nat) (Ak : Option Addr) (ck : Nat) (Ai : Option Addr) (ci : Nat) (key : ByteArray) (many : Int) (h : NIs w w.heap.size x Ac cc Ak ck Ai ci) :
    CallsIn Fence.wide n Try.prog 8 #[.agg (nodC x Ac cc Ak ck Ai ci), .string key, .int .i64 many] w fun e w' => e = .returned (.bool true) ∧ Below w.heap.size w w' := by
  have h1 : 1 ≤ n := by omega
  obtain ⟨W1, hW1⟩ : ∃ W1, W1 = ((w.alloc (.cells (nodC x Ac cc Ak ck Ai ci) 76)).alloc (.cells #[.int .i64 many] 3)).alloc (.cells #[.bool false] 4) := ⟨_, rfl⟩
  have b0 : BlkIs W1 w.heap.size 76 (nodC x Ac cc Ak ck Ai ci) := by rw [hW1]; exact ((BlkIs.new w _ _).alloc _).alloc _
  have b1 : BlkIs W1 (w.heap.size + 1) 3 #[.int .i64 many] := by
    have := BlkIs.new (w.alloc (.cells (nodC x Ac cc Ak ck Ai ci) 76)) 3 #[.int .i64 many]
    rw [World.size_alloc] at this
    rw [hW1]
    exact this.alloc _
  have b2 : BlkIs W1 (w.heap.size + 2) 4 #[.bool false] := by
    have := BlkIs.new ((w.alloc (.cells (nodC x Ac cc Ak ck Ai ci) 76)).alloc (.cells #[.int .i64 many] 3)) 4 #[.bool false]
    rw [World.size_alloc, World.size_alloc] at this
    rw [hW1]
    exact this
  have hB1 : Below w.heap.size w W1 := by rw [hW1]; exact (((Below.refl _ w).alloc (Nat.le_refl _) _).alloc (by simp) _).alloc (by simp; omega) _
  have n1 := h.grow hB1
  have HF := few_gives W1 x Ac cc Ak ck Ai ci n1
  unfold FewOut at HF
  have HW1 := Lib.hid hW1
  clear hW1
  refine callsIn_of_wp_marks Try.func8 rfl trivial ?_ rfl
  simp only [Try.ntmps8, List.size_toArray, List.length_cons, List.length_nil, Nat.reduceAdd, Nat.reduceSub, Array.replicate_succ, Array.replicate_zero, List.push_toArray, List.append_toArray, List.nil_append, List.cons_append]
  unfold nodC at *
  gi_wp2_with (rw [← HW1.out]; refine wpIn_loadX rfl _ _ rfl (x_loadV rowNod b0 rfl rfl rfl) ?_)
  refine ⟨trivial, ?_⟩
  refine (callsIn_wide.2 HF).mono ?_
  rintro e W2 ⟨b, rfl, hB2, hfp⟩
  have b02 := b0.below hB2 b0.lt
  have b12 := b1.below hB2 b1.lt
  have b22 : BlkIs W2 (w.heap.size + 1 + 1) 4 #[.bool false] := b2.below hB2 b2.lt
  have n2 := n1.grow hB2
  have hB02 := hB1.trans (hB2.mono hB1.size)
  by_cases hgo : ¬ (b = true ∧ key.size ≤ 200)
  · have : b = false ∨ (b = true ∧ (200 : Int) < (key.size : Int)) := by
      rcases b with _ | _
      · exact .inl rfl
      · exact .inr ⟨rfl, by have : ¬ key.size ≤ 200 := fun h => hgo ⟨rfl, h⟩; omega⟩
    clear hgo
    rcases this with rfl | ⟨rfl, hk⟩
    all_goals
      gi_wp2_with (refine ⟨trivial, ?_⟩; gi_at_call 47; refine (callsIn_wide.2 (works12_gives _)).mono ?_; rintro e w' ⟨rfl, hB⟩; have b3 := b22.below hB b22.lt; have hco := b3.boxed; have hfo := b3.free 0)
      refine ⟨.bool true, results_cell1 (p := ⟨w.heap.size + 1 + 1, 0, none⟩) 6 rfl rfl (by simp [go_sem]) (b3.set 0 _).boxed, rfl, ?_⟩
      exact (hB02.trans (hB.mono hB02.size)).setCell (p := ⟨w.heap.size + 1 + 1, 0, none⟩) (by simp; omega) _
  obtain ⟨rfl, hk⟩ := Classical.not_not.1 hgo
  obtain ⟨hfc, hfk, hcl, hkl, hil⟩ := hfp rfl
  clear hgo hfp
  have hk' : ¬ (200 : Int) < (key.size : Int) := by omega
  have hln : (nkeys x).length ≤ 1000000 := nkeys_len (by omega) (by omega)
  have HL : ∀ W, Below W2.heap.size W2 W → BlkIs W w.heap.size 76 #[.bool x.leaf, .slice Ac x.cells.length cc, .slice Ak x.keys.length ck, .slice Ai x.kids.length ci] := fun W hW => b02.below hW b02.lt
  have HFi : ∀ W, Below W2.heap.size W2 W → Calls Try.prog 48 #[.agg #[.bool x.leaf, .slice Ac x.cells.length cc, .slice Ak x.keys.length ck, .slice Ai x.kids.length ci], .string key] W (FindOut W x key) := fun W hW => find_gives W x Ac cc Ak ck Ai ci (n2.grow hW) (by omega) (by omega) key
  have HRf : ∀ W, Below W2.heap.size W2 W → Calls Try.prog 49 #[.agg #[.bool x.leaf, .slice Ac x.cells.length cc, .slice Ak x.keys.length ck, .slice Ai x.kids.length ci], .string key] W (FindOut W x key) := fun W hW => refFind_gives W x Ac cc Ak ck Ai ci (n2.grow hW) (by omega) (by omega) key
  have HKr : ∀ W, Below W2.heap.size W2 W → Calls Try.prog 50 #[.agg #[.bool x.leaf, .slice Ac x.cells.length cc, .slice Ak x.keys.length ck, .slice Ai x.kids.length ci]] W (StrsOut W (nkeys x)) := fun W hW => refKeys_gives W x Ac cc Ak ck Ai ci (n2.grow hW) (by omega)
  have HKn : ∀ W, Below W2.heap.size W2 W → Calls Try.prog 51 #[.agg #[.bool x.leaf, .slice Ac x.cells.length cc, .slice Ak x.keys.length ck, .slice Ai x.kids.length ci]] W (KeysFn W (nkeys x)) := fun W hW => nodeKeys_gives W x Ac cc Ak ck Ai ci (n2.grow hW) (by omega) hln
  unfold FindOut at HFi HRf
  unfold StrsOut at HKr
  unfold KeysFn at HKn
  generalize findAt x.leaf (nkeys x) key = fa at *
  generalize findIs x.leaf (nkeys x) key = fb at *
  have hk60 : (nkeys x).length ≤ 60 := by
    unfold nkeys
    split
    · rw [List.length_map]; exact hcl
    · exact hkl
  generalize nkeys x = ks at *
  have hB22 := Below.refl W2.heap.size W2
  gi_wp2_with (first
    | (refine wpIn_loadX rfl _ _ rfl (x_loadV rowNod (HL _ hB22) rfl rfl rfl) ?_)
    | (refine ⟨trivial, ?_⟩; gi_at_call 48; refine (callsIn_wide.2 (HFi _ hB22)).mono ?_; rintro e W3 ⟨rfl, hB3⟩; have hB23 := hB22.trans hB3)
    | (refine wpIn_loadX rfl _ _ rfl (x_loadV rowNod (HL _ hB23) rfl rfl rfl) ?_)
    | (refine ⟨trivial, ?_⟩; gi_at_call 49; refine (callsIn_wide.2 (HRf _ hB23)).mono ?_; rintro e W4 ⟨rfl, hB4⟩; have hB24 := hB23.trans (hB4.mono hB23.size))
    | (refine wpIn_loadX rfl _ _ rfl (x_loadV rowNod (HL _ hB24) rfl rfl rfl) ?_)
    | (refine ⟨trivial, ?_⟩; gi_at_call 50; refine (callsIn_wide.2 (HKr _ hB24)).mono ?_; rintro e W5 ⟨A5, c5, rfl, hin5, hB5⟩; have hB25 := hB24.trans (hB5.mono hB24.size); have hB25' := hB25.alloc hB25.size (.cells #[.slice A5 ks.length c5] 73))
    | (refine wpIn_loadX rfl _ _ rfl (x_loadV rowNod (HL _ hB25') rfl rfl rfl) ?_)
    | (refine ⟨trivial, ?_⟩; gi_at_call 51; refine (callsIn_wide.2 (HKn _ hB25')).mono ?_; rintro e W6 ⟨g6, A6, c6, rfl, b6, hin6, hB6⟩; have hB26 := hB25'.trans (hB6.mono hB25'.size)))
  have y6 : BlkIs W6 (w.heap.size + 1) 3 #[.int .i64 many] := b12.below hB26 b12.lt
  have o6 : BlkIs W6 (w.heap.size + 2) 4 #[.bool false] := b22.below hB26 b22.lt
  have k5 := BlkIs.new W5 73 #[.slice A5 ks.length c5]
  have k6 : BlkIs W6 W5.heap.size 73 #[.slice A5 ks.length c5] := k5.below hB6 k5.lt
  replace hin5 : InG W6 W6.heap.size 1 A5 ks.length c5 (skC ks) := (hin5.grow ((Below.refl _ W5).alloc (Nat.le_refl _) (.cells #[.slice A5 ks.length c5] 73))).grow hB6
  have hB06 : Below w.heap.size w W6 := hB02.trans (hB26.mono hB02.size)
  have hq5 := k6.lt
  have hg6 := b6.lt
  have hw3 := o6.lt
  clear HL HFi HRf HKr HKn hB22 hB23 hB24 hB25 hB25' hB26 hB3 hB4 hB5 hB6 k5 b02 b12 n2 n1 b0 b1 b2 hB2 HF hfc hfk hcl hkl hil hln hk'
  refine wpIn_loop_rounds 3 ?_
  rw [roundsIn_succ]
  gi_wp2
  have t0 := (BlkIs.new W6 3 #[.int .i64 0]).alloc (.cells #[.int .i64 0] 3)
  have m0 := BlkIs.new (W6.alloc (.cells #[.int .i64 0] 3)) 3 #[.int .i64 0]
  rw [World.size_alloc] at m0
  have y0 := (y6.alloc (.cells #[.int .i64 0] 3)).alloc (.cells #[.int .i64 0] 3)
  have o0 := (o6.alloc (.cells #[.int .i64 0] 3)).alloc (.cells #[.int .i64 0] 3)
  have k0 := (k6.alloc (.cells #[.int .i64 0] 3)).alloc (.cells #[.int .i64 0] 3)
  have hB60 : Below W6.heap.size W6 ((W6.alloc (.cells #[.int .i64 0] 3)).alloc (.cells #[.int .i64 0] 3)) := ((Below.refl _ _).alloc (Nat.le_refl _) _).alloc (by simp) _
  have hsz0' : ((W6.alloc (.cells #[.int .i64 0] 3)).alloc (.cells #[.int .i64 0] 3)).heap.size = W6.heap.size + 1 + 1 := by simp
  generalize (W6.alloc (.cells #[.int .i64 0] 3)).alloc (.cells #[.int .i64 0] 3) = W0 at *
  generalize hq5e : W5.heap.size = q5 at *
  generalize hn0e : W6.heap.size = n₀ at *
  have hs6 : n₀ ≤ W6.heap.size := by omega
  have hsz0 : n₀ ≤ W0.heap.size := by omega
  have hbox0 := (b6.below hB60 hg6).boxed
  have hHs0 : Hs w.heap.size q5 n₀ (n₀ + 1) many (.slice A5 ks.length c5) 0 (0 : Nat) W0 := ⟨y0, o0, k0, t0, m0⟩
  clear y0 o0 k0 t0 m0 y6 o6 k6
  obtain ⟨z0, hz0⟩ : ∃ z, z = n₀ + 1 := ⟨_, rfl⟩
  rw [← hz0]
  rw [← hz0] at hHs0
  have hzz : n₀ < z0 := by omega
  clear hz0
  -- ROUND 0 BEGINS
  refine wpIn_by_stopB (fun a0 a W => ∃ (D k : Nat), a = { a0 with defers := { target := .collected D, args := #[] } :: a0.defers } ∧ W.heap[D]? = some (.deferred (some [])) ∧ W0.heap.size ≤ D ∧ ((k : Int) = min (ks.length : Int) (max 1 many)) ∧
    Hs w.heap.size q5 n₀ z0 many (.slice A5 ks.length c5) 0 k W ∧ Below n₀ W6 W) ?_ ?_
  · intro Q' hQ hQ2
    refine wpIn_rangeFunc_ownG rfl h1 (gf := 112) (lb := #[.pointer (some ⟨g6, 0, none⟩)]) rfl trivial (enters_of Try.func112 (by kernel_rfl) rfl)
      (keys1_stops (n - 1) (by omega) g6 n₀ A6 c6 ks W0 hg6 hsz0 hbox0 (hin6.below hB60)) belowK_t (belowK_b hsz0) (Below.refl _ _) (fun _ => rfl)
      (fun pre W => (∃ k : Nat, k ≤ ks.length ∧ pre = kpairs ks k ∧ (k = 0 ∨ (k : Int) < many) ∧ Hs w.heap.size q5 n₀ z0 many (.slice A5 ks.length c5) 0 k W) ∧ Below n₀ W6 W)
      (fun cd pre W => (cd = .ret ∧ ¬ ∃ k, k ≤ ks.length ∧ 0 < k ∧ pre = kpairs ks k) ∨ (cd = .exit 2 ∧ ((∃ k : Nat, ((k : Int) = min (ks.length : Int) (max 1 many)) ∧ Hs w.heap.size q5 n₀ z0 many (.slice A5 ks.length c5) 0 k W) ∧ Below n₀ W6 W)))
      ?own0 ?own20 ?start0 ?act0 ?assign0 ?body0 ?done0 ?stop0
    case own0 => exact OwnFrom.and (Own.from (fun s A B row hs hg hr => by obtain ⟨k, h1, h2, h3, h4⟩ := hs; exact ⟨k, h1, h2, h3, h4.kept hg hr⟩) _) (ownFrom_below hs6 (by omega))
    case own20 =>
      rintro cd s A B row (⟨e, h⟩ | ⟨e, ⟨k, h2, h3⟩, h4⟩) hg hr
      · exact .inl ⟨e, h⟩
      · exact .inr ⟨e, ⟨k, h2, h3.kept hg (fun r e => (hr r e).2)⟩, ownFrom_below (β := Unit) hs6 (by omega) () A B row h4 hg hr⟩
    case start0 => exact ⟨⟨0, by omega, rfl, .inl rfl, hHs0⟩, hB60⟩
    case assign0 =>
      intro l1 x W K hK
      gi_wp2
      exact hK
    case body0 =>
      rintro l1 pre x W ⟨⟨k, hkl, rfl, hkin, hG⟩, hBW⟩ hlt
      rw [kpairs_length ks k hkl] at hlt
      have h11 : 1 ≤ n - 1 - 1 := by omega
      have hy := hG.y.boxed
      have ho := hG.o.boxed
      have hk := hG.k.boxed
      have ht := hG.t.boxed
      have hm := hG.m.boxed
      have hfo := hG.o.free 0
      have hfm := hG.m.free 0
      have hn1 : ¬ n₀ = z0 := by omega
      have hn2 : ¬ w.heap.size + 1 = z0 := by omega
      have hn3 : ¬ w.heap.size + 1 + 1 = z0 := by omega
      have hn4 : ¬ q5 = z0 := by omega
      have hwk : IntKind.i64.wrap ((k : Int) + 1) = (k : Int) + 1 := wrap_i64_id' _ (by omega) (by omega)
      obtain ⟨ga, oa, rfl, hga, _⟩ := hin5.lies (by omega)
      have d0 : W.cell? ⟨ga, oa + k, none⟩ = some (.string ks[k]) := (hBW.cell (p := ⟨ga, oa + k, none⟩) hga).trans (str_at hin5 rfl k hlt)
      have hnx2 : kpairs ks (k + 1) = kpairs ks k ++ [(k, ks[k])] := kpairs_next ks k hlt
      have hon : ∀ x' : Nat × ByteArray, (¬ x' = (k, ks[k])) → ¬ ∃ k', k' ≤ ks.length ∧ 0 < k' ∧ kpairs ks k ++ [x'] = kpairs ks k' := fun x' hx' ⟨k', h1, h2, h3⟩ => by
        have hl := congrArg List.length h3
        rw [List.length_append, kpairs_length ks k hkl, kpairs_length ks k' h1, List.length_singleton] at hl
        subst hl
        rw [hnx2] at h3
        have := List.append_cancel_left h3
        injection this with h4
        exact hx' h4
      generalize hs : ks[k] = s at *
      have hlt' : ¬ (ks.length : Int) ≤ (k : Int) := by omega
      have HN := Lib.hid hnx2
      clear hnx2 hs
      obtain ⟨x1, x2⟩ := x
      by_cases e1 : x1 = k
      · subst e1
        by_cases e2 : x2 = s
        · subst e2
          by_cases hc : many ≤ (x1 : Int) + 1
          · gi_wp2
            exact ⟨(KeepsOthers.setCell _ _ _).from _, .inr ⟨rfl, ⟨x1 + 1, by omega, by rw [show ((x1 + 1 : Nat) : Int) = (x1 : Int) + 1 from by simp]; exact hG.step (by omega) (by omega) (by omega) _⟩, hBW.setCell (by simp; omega) _⟩⟩
          · gi_wp2
            exact ⟨(KeepsOthers.setCell _ _ _).from _, (Below.refl _ _).setCell (by simp; omega) _, ⟨x1 + 1, by omega, HN.out.symm, by omega, by rw [show ((x1 + 1 : Nat) : Int) = (x1 : Int) + 1 from by simp]; exact hG.step (by omega) (by omega) (by omega) _⟩, hBW.setCell (by simp; omega) _⟩
        · have hne : (x2.toList == s.toList) = false := by simpa using fun h => e2 (sameS h)
          have hne' : ¬ x2.toList = s.toList := fun h => e2 (sameS h)
          gi_wp2
          exact ⟨(KeepsOthers.setCell _ _ _).from _, .inl ⟨rfl, fun k' h1 h2 h3 => hon (x1, x2) (fun e => by injection e with e3 e4; exact e2 e4) ⟨k', h1, h2, h3⟩⟩⟩
      · have hne : ((x1 : Int) != (k : Int)) = true := by simp; omega
        gi_wp2
        exact ⟨(KeepsOthers.setCell _ _ _).from _, .inl ⟨rfl, fun k' h1 h2 h3 => hon (x1, x2) (fun e => by injection e with e3 e4; exact e1 e3) ⟨k', h1, h2, h3⟩⟩⟩
    case done0 =>
      rintro D xs W hD rfl ⟨⟨k, hkl, hkp, hkin, hG⟩, hB⟩ hK
      have hl := congrArg List.length hkp
      rw [kpairs_length ks k hkl, kpairs_length ks ks.length (Nat.le_refl _)] at hl
      subst hl
      exact hQ _ _ ⟨D, ks.length, rfl, hK, hD, (by omega), hG, hB⟩
    case stop0 =>
      rintro D cd pre W hD hrun (⟨rfl, hno⟩ | ⟨rfl, ⟨k, hke, hG⟩, hB⟩) hK
      · exact absurd hrun hno
      · exact wpIn_exit (hQ2 _ _ ⟨D, k, rfl, hK, hD, hke, hG, hB⟩)
  rintro a W ⟨D0, k0, rfl, hK0, hD0, hk0, hG, hBW⟩
  have hcr := hG.t.boxed
  have hcm := hG.m.boxed
  have hcy := hG.y.boxed
  have hck := hG.k.boxed
  clear hbox0 hB60 hHs0
  gi_wp2
  have hsW := hBW.size
  have hbox := b6.below hBW hg6
  have g0 := hG.y.alloc (.cells #[.int .i64 1] 3)
  have g1 := hG.o.alloc (.cells #[.int .i64 1] 3)
  have g2 := hG.k.alloc (.cells #[.int .i64 1] 3)
  have g3 := BlkIs.new W 3 #[.int .i64 1]
  have gB := hBW.alloc (by omega) (.cells #[.int .i64 1] 3)
  have hKD : D0 < W.heap.size := (Array.getElem?_eq_some_iff.1 hK0).1
  have hK0' : (W.alloc (.cells #[.int .i64 1] 3)).heap[D0]? = some (.deferred (some [])) := (Below.heap_alloc _ _ D0 hKD).trans hK0
  generalize hW' : W.alloc (.cells #[.int .i64 1] 3) = W' at *
  clear hW' hK0 hcr hcm hcy hck hbox hG hBW hk0
  generalize W.heap.size = r1 at *
  clear W
  have hcr1 := g3.boxed
  have hr1 := g3.lt
  rw [roundsIn_succ]
  gi_wp2
  have f0 := g0.alloc (.cells #[.int .i64 0] 3)
  have f1 := g1.alloc (.cells #[.int .i64 0] 3)
  have f2 := g2.alloc (.cells #[.int .i64 0] 3)
  have f3 := g3.alloc (.cells #[.int .i64 0] 3)
  have f4 := BlkIs.new W' 3 #[.int .i64 0]
  have hB61 := gB.alloc (by omega) (.cells #[.int .i64 0] 3)
  have hKD' : D0 < W'.heap.size := by omega
  have hK01 : (W'.alloc (.cells #[.int .i64 0] 3)).heap[D0]? = some (.deferred (some [])) := (Below.heap_alloc _ _ D0 hKD').trans hK0'
  have hsz1' : (W'.alloc (.cells #[.int .i64 0] 3)).heap.size = W'.heap.size + 1 := by simp
  generalize hW1 : W'.alloc (.cells #[.int .i64 0] 3) = V1 at *
  clear hW1
  have hzz1 : r1 < W'.heap.size := hr1
  clear hcr1 g0 g1 g2 g3 gB hK0'
  generalize W'.heap.size = z1 at *
  clear W'
  have hr61 : n₀ ≤ r1 := by omega
  have hsz1 : n₀ ≤ V1.heap.size := by omega
  have hbox1 := (b6.below hB61 hg6).boxed
  have hHs1 : Hs w.heap.size q5 r1 z1 many (.slice A5 ks.length c5) 1 (0 : Nat) V1 := ⟨f0, f1, f2, f3, f4⟩
  clear f0 f1 f2 f3 f4 hsz1'
  -- ROUND 0 ENDS
  -- ROUND 1 BEGINS
  refine wpIn_by_stopB (fun a0 a W => ∃ (D k : Nat), a = { a0 with defers := { target := .collected D, args := #[] } :: a0.defers } ∧ W.heap[D]? = some (.deferred (some [])) ∧ V1.heap.size ≤ D ∧ (k = ks.length) ∧
    Hs w.heap.size q5 r1 z1 many (.slice A5 ks.length c5) 1 k W ∧ Below n₀ W6 W ∧ W.heap[D0]? = some (.deferred (some []))) ?_ ?_
  · intro Q' hQ hQ2
    refine wpIn_rangeFunc_ownG rfl h1 (gf := 112) (lb := #[.pointer (some ⟨g6, 0, none⟩)]) rfl trivial (enters_of Try.func112 (by kernel_rfl) rfl)
      (keys1_stops (n - 1) (by omega) g6 n₀ A6 c6 ks V1 hg6 hsz1 hbox1 (hin6.below hB61)) belowK_t (belowK_b hsz1) (Below.refl _ _) (fun _ => rfl)
      (fun pre W => (∃ k : Nat, k ≤ ks.length ∧ pre = kpairs ks k ∧ True ∧ Hs w.heap.size q5 r1 z1 many (.slice A5 ks.length c5) 1 k W) ∧ Below n₀ W6 W ∧ W.heap[D0]? = some (.deferred (some [])))
      (fun cd pre W => (cd = .ret ∧ ¬ ∃ k, k ≤ ks.length ∧ 0 < k ∧ pre = kpairs ks k) ∨ (cd = .exit 2 ∧ False ∧ ((∃ k : Nat, (k = ks.length) ∧ Hs w.heap.size q5 r1 z1 many (.slice A5 ks.length c5) 1 k W) ∧ Below n₀ W6 W ∧ W.heap[D0]? = some (.deferred (some [])))))
      ?own1 ?own21 ?start1 ?act1 ?assign1 ?body1 ?done1 ?stop1
    case own1 => exact OwnFrom.and (Own.from (fun s A B row hs hg hr => by obtain ⟨k, h1, h2, h3, h4⟩ := hs; exact ⟨k, h1, h2, h3, h4.kept hg hr⟩) _) (OwnFrom.and (ownFrom_below hs6 (by omega)) (ownFrom_row hK01))
    case own21 =>
      rintro cd s A B row (⟨e, h⟩ | ⟨e, hf, ⟨k, h2, h3⟩, h4⟩) hg hr
      · exact .inl ⟨e, h⟩
      · exact .inr ⟨e, hf, ⟨k, h2, h3.kept hg (fun r e => (hr r e).2)⟩, hf.elim⟩
    case start1 => exact ⟨⟨0, by omega, rfl, trivial, hHs1⟩, hB61, hK01⟩
    case assign1 =>
      intro l1 x W K hK
      gi_wp2
      exact hK
    case body1 =>
      rintro l1 pre x W ⟨⟨k, hkl, rfl, hkin, hG⟩, hBW⟩ hlt
      rw [kpairs_length ks k hkl] at hlt
      have h11 : 1 ≤ n - 1 - 1 := by omega
      have hy := hG.y.boxed
      have ho := hG.o.boxed
      have hk := hG.k.boxed
      have ht := hG.t.boxed
      have hm := hG.m.boxed
      have hfo := hG.o.free 0
      have hfm := hG.m.free 0
      have hn1 : ¬ r1 = z1 := by omega
      have hn2 : ¬ w.heap.size + 1 = z1 := by omega
      have hn3 : ¬ w.heap.size + 1 + 1 = z1 := by omega
      have hn4 : ¬ q5 = z1 := by omega
      have hwk : IntKind.i64.wrap ((k : Int) + 1) = (k : Int) + 1 := wrap_i64_id' _ (by omega) (by omega)
      obtain ⟨ga, oa, rfl, hga, _⟩ := hin5.lies (by omega)
      have d0 : W.cell? ⟨ga, oa + k, none⟩ = some (.string ks[k]) := (hBW.1.cell (p := ⟨ga, oa + k, none⟩) hga).trans (str_at hin5 rfl k hlt)
      have hnx2 : kpairs ks (k + 1) = kpairs ks k ++ [(k, ks[k])] := kpairs_next ks k hlt
      have hon : ∀ x' : Nat × ByteArray, (¬ x' = (k, ks[k])) → ¬ ∃ k', k' ≤ ks.length ∧ 0 < k' ∧ kpairs ks k ++ [x'] = kpairs ks k' := fun x' hx' ⟨k', h1, h2, h3⟩ => by
        have hl := congrArg List.length h3
        rw [List.length_append, kpairs_length ks k hkl, kpairs_length ks k' h1, List.length_singleton] at hl
        subst hl
        rw [hnx2] at h3
        have := List.append_cancel_left h3
        injection this with h4
        exact hx' h4
      generalize hs : ks[k] = s at *
      have hlt' : ¬ (ks.length : Int) ≤ (k : Int) := by omega
      have HN := Lib.hid hnx2
      clear hnx2 hs
      obtain ⟨x1, x2⟩ := x
      by_cases e1 : x1 = k
      · subst e1
        by_cases e2 : x2 = s
        · subst e2
          gi_wp2
          exact ⟨(KeepsOthers.setCell _ _ _).from _, (Below.refl _ _).setCell (by simp; omega) _, ⟨x1 + 1, by omega, HN.out.symm, by rw [show ((x1 + 1 : Nat) : Int) = (x1 : Int) + 1 from by simp]; exact hG.step (by omega) (by omega) (by omega) _⟩, hBW.1.setCell (by simp; omega) _, (Below.heap_setCell _ _ _ D0 (by simp; omega)).trans hBW.2⟩
        · have hne : (x2.toList == s.toList) = false := by simpa using fun h => e2 (sameS h)
          have hne' : ¬ x2.toList = s.toList := fun h => e2 (sameS h)
          gi_wp2
          exact ⟨(KeepsOthers.setCell _ _ _).from _, ⟨rfl, fun k' h1 h2 h3 => hon (x1, x2) (fun e => by injection e with e3 e4; exact e2 e4) ⟨k', h1, h2, h3⟩⟩⟩
      · have hne : ((x1 : Int) != (k : Int)) = true := by simp; omega
        gi_wp2
        exact ⟨(KeepsOthers.setCell _ _ _).from _, ⟨rfl, fun k' h1 h2 h3 => hon (x1, x2) (fun e => by injection e with e3 e4; exact e1 e3) ⟨k', h1, h2, h3⟩⟩⟩
    case done1 =>
      rintro D xs W hD rfl ⟨⟨k, hkl, hkp, hkin, hG⟩, hB⟩ hK
      have hl := congrArg List.length hkp
      rw [kpairs_length ks k hkl, kpairs_length ks ks.length (Nat.le_refl _)] at hl
      subst hl
      exact hQ _ _ ⟨D, ks.length, rfl, hK, hD, rfl, hG, hB⟩
    case stop1 =>
      rintro D cd pre W hD hrun (⟨rfl, hno⟩ | ⟨rfl, hf, ⟨k, hke, hG⟩, hB⟩) hK
      · exact absurd hrun hno
      · exact hf.elim
  rintro a W ⟨D1, k1, rfl, hK1, hD1, hk1, hG, hBW, hK0⟩
  -- ROUND 1 ENDS
  have hcr := hG.t.boxed
  have hcm := hG.m.boxed
  have hck := hG.k.boxed
  have hcy := hG.y.boxed
  have hsW := hBW.size
  clear hbox1 hB61 hHs1
  gi_wp2
  rw [roundsIn_succ]
  have g2 := hG.o.alloc (.cells #[.int .i64 2] 3)
  have gB := hBW.alloc (by omega) (.cells #[.int .i64 2] 3)
  have hz0 := (Below.heap_alloc W (.cells #[.int .i64 2] 3) D0 (Array.getElem?_eq_some_iff.1 hK0).1).trans hK0
  have hz1 := (Below.heap_alloc W (.cells #[.int .i64 2] 3) D1 (Array.getElem?_eq_some_iff.1 hK1).1).trans hK1
  have gs := g2.lt
  gi_wp2_with (refine ⟨trivial, ?_⟩; gi_at_call 47; refine (callsIn_wide.2 (works12_gives _)).mono ?_; rintro e w' ⟨rfl, hB⟩; have b3 := g2.below hB gs; have hco := b3.boxed; have hfo := b3.free 0)
  have hD0' := (hB.block D0 (Array.getElem?_eq_some_iff.1 hz0).1).trans hz0
  have hD1' := (hB.block D1 (Array.getElem?_eq_some_iff.1 hz1).1).trans hz1
  have hlt0 := (Array.getElem?_eq_some_iff.1 hK01).1
  have b4 := b3.set 0 (.bool true)
  have hE0 := (Below.heap_setCell w' ⟨w.heap.size + 2, 0, none⟩ (.bool true) D0 (by simp; omega)).trans hD0'
  have hE1 := (Below.heap_setCell w' ⟨w.heap.size + 2, 0, none⟩ (.bool true) D1 (by simp; omega)).trans hD1'
  have hBf : Below w.heap.size w (w'.setCell ⟨w.heap.size + 2, 0, none⟩ (.bool true)) := ((hB06.trans (gB.mono (by omega))).trans (hB.mono (by have := gB.size; omega))).setCell (p := ⟨w.heap.size + 2, 0, none⟩) (by simp) _
  have e11 : w.heap.size + 1 + 1 = w.heap.size + 2 := rfl
  rw [e11]
  generalize w'.setCell ⟨w.heap.size + 2, 0, none⟩ (.bool true) = V at *
  refine ⟨by simp, .inl ⟨D1, _, rfl, run_takeDeferred hE1, ?_⟩⟩
  have hE0' := (putObj_other V D1 (.deferred none) (g := D0) (by omega)).trans hE0
  refine ⟨by simp, .inl ⟨D0, _, rfl, run_takeDeferred hE0', ?_⟩⟩
  have b5 : BlkIs ((V.putObj D1 (.deferred none)).putObj D0 (.deferred none)) (w.heap.size + 2) 4 #[.bool true] := (putObj_other _ D0 (.deferred none) (g := w.heap.size + 2) (by omega)).trans ((putObj_other V D1 (.deferred none) (g := w.heap.size + 2) (by omega)).trans b4)
  refine ⟨.bool true, results_cell1 (p := ⟨w.heap.size + 1 + 1, 0, none⟩) 6 rfl rfl (by simp [go_sem]) b5.boxed, rfl, ?_⟩
  exact (hBf.trans (belowK_b (w := w) (Nat.le_refl _) V D1 _ _ (by omega) hE1 rfl rfl)).trans (belowK_b (w := w) (Nat.le_refl _) _ D0 _ _ (by omega) hE0' rfl rfl)
end Go.Proofs.Ytlelckdcmlpmdaa
/- From a row's own reading of nodes, cells, strings and ints that came in to their parts. -/
namespace Go.Proofs.Ytlelckdcmlpmdaa
open Go Lou Go.ChangeShapes Go.WideShapes Go.ChangeAt Go.RowKit

theorem flat_get {α : Type} {C : α → List Value} {sz : Nat} (hC : ∀ x, (C x).length = sz) : ∀ (s : List α) (j : Nat) (v : Value), ((s.map C).flatten)[j]? = some v → ∃ i q, ∃ hi : i < s.length, j = i * sz + q ∧ q < sz ∧ (C s[i])[q]? = some v
  | [], j, v, h => by simp at h
  | x :: s, j, v, h => by
    have e : ((x :: s).map C).flatten = C x ++ (s.map C).flatten := rfl
    rw [e] at h
    by_cases hj : j < (C x).length
    · rw [List.getElem?_append_left hj] at h
      exact ⟨0, j, by simp, by omega, by rw [← hC x]; exact hj, by simpa using h⟩
    · rw [List.getElem?_append_right (by omega)] at h
      obtain ⟨i, q, hi, e1, hq, e2⟩ := flat_get hC s _ v h
      rw [hC] at e1 hj
      refine ⟨i + 1, q, by simpa using hi, ?_, hq, by simpa using e2⟩
      rw [Nat.succ_mul]
      omega
section
variable {H : Type} {enc : TypeId × Value → H} {W : World} {r : Reach} {b0 b1 : Nat} {held : Bool} {v : Value} {d : DataW H} {p : List MemPlace}
set_option maxRecDepth 100000 in
/-- A row of elements of sz cells each. -/
theorem one_row {α : Type} [Inhabited α] (C : α → List Value) {sz : Nat} (hz : 0 < sz) (hC : ∀ x, (C x).length = sz) (h1 : ∀ x, ∀ v ∈ C x, v.oneCell' = true) {T E : TypeId} (hT : Try.prog.underlying T = some (.slice E)) (hE : Try.prog.cellsOf E = sz)
    (hel : ∀ (n : Nat) (cs : List Value) (x : DataW H × List MemPlace), cs.length = sz → DataW.trod enc Try.prog W b1 (fun _ => true) held n E cs = some x → ∃ y : α, cs = C y)
    {n : Nat} {c : Value} {x : DataW H × List MemPlace} (h : DataW.trod enc Try.prog W b1 (fun _ => true) held n T [c] = some x) : ∃ A k, ∃ s : List α, c = .slice A s.length k ∧ InG W W.heap.size sz A s.length k ((s.map C).flatten) := by
  rcases Go.Deep.open_slice hT h with ⟨hcs, _⟩ | ⟨a, len, cap, m, n', D, Pl, hcs, hb, hl, hm, hmm, _, hx⟩
  · simp at hcs
    exact ⟨none, 0, [], hcs, InG.mt _ _ _⟩
  · simp at hcs
    simp only [if_true] at hmm
    subst hmm
    rw [hE] at hx
    obtain ⟨B, hB⟩ := Go.Deep.choose_lt (α := α) (p := fun i y => ∀ j (hj : j < (C y).length), W.cell? ((a.add (i * sz)).add j) = some (C y)[j]) (fun i hi => by
      obtain ⟨cs', h3, h4⟩ := hx i hi
      obtain ⟨_, hlen, hcell⟩ := World.cells?_some h3
      obtain ⟨y, rfl⟩ := hel _ _ _ hlen h4
      exact ⟨y, fun j hj => (hcell j (by omega)).trans (List.getElem?_eq_getElem hj)⟩)
    refine ⟨some a, m, (List.range len).map B, by simpa using hcs, ?_⟩
    have hln : ((List.range len).map B).length = len := by simp
    refine ⟨by rw [hln]; exact hl, by unfold maxLen at hm; omega, (fun e => by cases e), ?_, ?_, fun h0 => ?_⟩
    · rw [List.length_flatten, List.map_map, hln]
      have : (List.map (List.length ∘ C) ((List.range len).map B)) = List.replicate len sz := by
        rw [List.eq_replicate_iff]
        refine ⟨by simp, fun b hb => ?_⟩
        obtain ⟨y, _, rfl⟩ := List.mem_map.1 hb
        exact hC y
      rw [this, List.sum_replicate_nat]
    · intro v hv
      obtain ⟨l, hl', hv⟩ := List.mem_flatten.1 hv
      obtain ⟨y, _, rfl⟩ := List.mem_map.1 hl'
      exact h1 y v hv
    · rw [hln] at h0
      obtain ⟨b, off, spot⟩ := a
      have hc0 := hB 0 (by omega) 0 (by rw [hC]; exact hz)
      have hspot : spot = none := by simpa [Addr.add] using World.cell?_spot hc0
      subst hspot
      have hbl : b < W.heap.size := by simpa [Addr.add] using cell_block_lt hc0
      refine ⟨b, off, rfl, hbl, fun j v hj => ?_⟩
      obtain ⟨i, q, hi, rfl, hq, e⟩ := flat_get hC _ j v hj
      have hi' := hi
      rw [hln] at hi'
      have hg : ((List.range len).map B)[i] = B i := by simp
      rw [hg] at e
      obtain ⟨hq2, e⟩ := List.getElem?_eq_some_iff.1 e
      have := hB i (by omega) q hq2
      rw [Addr.add_mid, Addr.add_mid, e] at this
      rw [← Nat.add_assoc]
      exact this
theorem flat_one {α : Type} (f : α → Value) : ∀ s : List α, (s.map fun x => [f x]).flatten = s.map f
  | [] => rfl
  | x :: s => by
    have e : ((x :: s).map fun x => [f x]).flatten = f x :: (s.map fun x => [f x]).flatten := rfl
    rw [e, flat_one f s]
    rfl
set_option maxRecDepth 100000 in
theorem row_strs {n : Nat} {c : Value} {x : DataW H × List MemPlace} (h : DataW.trod enc Try.prog W b1 (fun _ => true) held n 73 [c] = some x) : ∃ A k, ∃ s : List ByteArray, c = .slice A s.length k ∧ InG W W.heap.size 1 A s.length k (skC s) := by
  have hc : Try.prog.cellsOf 9 = 1 := by kernel_rfl
  obtain ⟨A, k, s, e, hin⟩ := one_row (α := ByteArray) (fun x => [Value.string x]) (by decide) (fun _ => rfl) (fun x v hv => by simp at hv; subst hv; rfl) Try.underlying73 hc (fun n cs x hl ht => by
    obtain ⟨s, g, _, q⟩ := DataW.trod_string Try.underlying9 ht
    exact ⟨s, g⟩) h
  rw [flat_one] at hin
  exact ⟨A, k, s, e, hin⟩
set_option maxRecDepth 100000 in
theorem row_ints {n : Nat} {c : Value} {x : DataW H × List MemPlace} (h : DataW.trod enc Try.prog W b1 (fun _ => true) held n 74 [c] = some x) : ∃ A k, ∃ s : List Int, c = .slice A s.length k ∧ InG W W.heap.size 1 A s.length k (ikC s) := by
  have hc : Try.prog.cellsOf 3 = 1 := by kernel_rfl
  obtain ⟨A, k, s, e, hin⟩ := one_row (α := Int) (fun x => [Value.int .i64 x]) (by decide) (fun _ => rfl) (fun x v hv => by simp at hv; subst hv; rfl) Try.underlying74 hc (fun n cs x hl ht => by
    obtain ⟨s, g, _, q⟩ := DataW.trod_int Try.underlying3 ht
    exact ⟨s, g⟩) h
  rw [flat_one] at hin
  exact ⟨A, k, s, e, hin⟩
instance : Inhabited Cel := ⟨⟨ByteArray.empty, ByteArray.empty, 0, 0⟩⟩
set_option maxRecDepth 100000 in
theorem row_cels {n : Nat} {c : Value} {x : DataW H × List MemPlace} (h : DataW.trod enc Try.prog W b1 (fun _ => true) held n 72 [c] = some x) : ∃ A k, ∃ s : List Cel, c = .slice A s.length k ∧ InG W W.heap.size 4 A s.length k (clC s) := by
  have hc : Try.prog.cellsOf 205 = 4 := by kernel_rfl
  have h1s : Try.prog.cellsOf 9 = 1 := by kernel_rfl
  have h1i : Try.prog.cellsOf 3 = 1 := by kernel_rfl
  exact one_row (α := Cel) celC (by decide) (fun _ => rfl) celC_one Try.underlying72 hc (fun n cs x hl ht => by
    obtain ⟨xs, m, _, _, _, hlx, hi⟩ := DataW.trod_struct Try.underlying205 ht
    match cs, hl with
    | [c0, c1, c2, c3], _ =>
      have hx4 : xs.length = 4 := hlx
      have e0 := hi 0 _ rfl
      have e1 := hi 1 _ rfl
      have e2 := hi 2 _ rfl
      have e3 := hi 3 _ rfl
      rw [List.getElem?_eq_getElem (by omega)] at e0 e1 e2 e3
      obtain ⟨s0, g0, _, _⟩ := DataW.trod_string Try.underlying9 e0
      obtain ⟨s1, g1, _, _⟩ := DataW.trod_string Try.underlying9 e1
      obtain ⟨z2, g2, _, _⟩ := DataW.trod_int Try.underlying3 e2
      obtain ⟨z3, g3, _, _⟩ := DataW.trod_int Try.underlying3 e3
      replace g0 : ([c0, c1, c2, c3].drop 0).take (Try.prog.cellsOf 9) = _ := g0
      replace g1 : ([c0, c1, c2, c3].drop 1).take (Try.prog.cellsOf 9) = _ := g1
      replace g2 : ([c0, c1, c2, c3].drop 2).take (Try.prog.cellsOf 3) = _ := g2
      replace g3 : ([c0, c1, c2, c3].drop 3).take (Try.prog.cellsOf 3) = _ := g3
      rw [h1s] at g0 g1
      rw [h1i] at g2 g3
      simp at g0 g1 g2 g3
      subst g0 g1 g2 g3
      exact ⟨⟨s0, s1, z2, z3⟩, rfl⟩) h
set_option maxRecDepth 100000 in
theorem open_node (hval : Value.okWide Try.prog W r b0 76 v) (h : DataW.Trod enc Try.prog W b1 (fun _ => true) held 76 v d p) : ∃ (x : Nod) (Ac : Option Addr) (cc : Nat) (Ak : Option Addr) (ck : Nat) (Ai : Option Addr) (ci : Nat), v = .agg (nodC x Ac cc Ak ck Ai ci) ∧ NIs W W.heap.size x Ac cc Ak ck Ai ci := by
  obtain ⟨cs, rfl, hl, hi⟩ := open_struct Try.underlying76 hval h
  have h2 : Try.prog.cellsOf 76 = 4 := by kernel_rfl
  have c72 : Try.prog.cellsOf 72 = 1 := by kernel_rfl
  have c73 : Try.prog.cellsOf 73 = 1 := by kernel_rfl
  have c74 : Try.prog.cellsOf 74 = 1 := by kernel_rfl
  rw [h2] at hl
  match cs, hl with
  | [c0, c1, c2, c3], _ =>
    obtain ⟨_, _, e0⟩ := hi 0 _ rfl
    obtain ⟨_, _, e1⟩ := hi 1 _ rfl
    obtain ⟨_, _, e2⟩ := hi 2 _ rfl
    obtain ⟨_, _, e3⟩ := hi 3 _ rfl
    obtain ⟨z, rfl⟩ := one_bool Try.underlying4 (by kernel_rfl) e0
    replace e1 : DataW.trod enc Try.prog W b1 (fun _ => true) held _ 72 ((c1 :: [c2, c3]).take (Try.prog.cellsOf 72)) = some _ := e1
    replace e2 : DataW.trod enc Try.prog W b1 (fun _ => true) held _ 73 ((c2 :: [c3]).take (Try.prog.cellsOf 73)) = some _ := e2
    replace e3 : DataW.trod enc Try.prog W b1 (fun _ => true) held _ 74 ((c3 :: []).take (Try.prog.cellsOf 74)) = some _ := e3
    rw [c72] at e1
    rw [c73] at e2
    rw [c74] at e3
    obtain ⟨A1, k1, s1, rfl, i1⟩ := row_cels e1
    obtain ⟨A2, k2, s2, rfl, i2⟩ := row_strs e2
    obtain ⟨A3, k3, s3, rfl, i3⟩ := row_ints e3
    exact ⟨⟨z, s1, s2, s3⟩, A1, k1, A2, k2, A3, k3, rfl, i1, i2, i3⟩
end
end Go.Proofs.Ytlelckdcmlpmdaa
