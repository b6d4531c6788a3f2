/- Steps of a region that draws its order, for go_region_held3: append and copy of bytes. -/
import Derived.Test.YtlelckdcmlpmdaaCopy
import Derived.Deep.RegionHeld3
import Derived.Deep.DrawnRows
import Derived.Lib.AppendZerosOnto
namespace Go.Proofs.Ytlelckdcmlpmdaa
open Go Go.RowKit Lou

theorem run_appB {w : World} (ty : TypeId) (base : Nat) (v : Value) (l : List UInt8) (hown : OwnB w base v l) (B : Nat) (A : Option Addr) (c : Nat) (l2 : List UInt8) (hin : InB w B A c l2)
    (hbytes : l.length + l2.length ≤ 140737488355328) (hbase : base ≤ w.heap.size) :
    ∃ v' w', (Builtin.append_ #[30, 30] ty #[v, .slice A l2.length c]).run Try.prog w = .ok v' w' ∧ OwnB w' base v' (l ++ l2) ∧ w.grownBy w' v.ownBlock ∧ (v'.ownBlock = v.ownBlock ∨ v'.ownBlock = some w.heap.size) := by
  obtain ⟨i0, hi, hz0, hz1, hz2⟩ := info_parts inf_u8
  have hle := hin.le
  rcases A with _ | ad
  · have hc0 := hin.nil rfl
    obtain rfl : l2 = [] := List.eq_nil_of_length_eq_zero (by omega)
    subst hc0
    have hr := run_append_owned_none (P := Try.prog) w base 30 ty 5 i0 1 Try.underlying30 hi v l.length (l.map b8) hown
    exact ⟨v, w, hr, by rw [List.append_nil]; exact hown, World.grownBy.refl _ _, .inl rfl⟩
  · have hnews : ∀ j u, (l2.map b8)[j]? = some u → w.cell? (ad.add j) = some u := by
      intro j u hu
      have hj : j < l2.length := by
        rcases Nat.lt_or_ge j l2.length with h | h
        · exact h
        · rw [List.getElem?_eq_none (by simpa using h)] at hu; cases hu
      obtain ⟨g, o', hA, _, hc⟩ := hin.lies (by omega)
      obtain rfl : ad = ⟨g, o', none⟩ := by simpa using hA
      have e : (⟨g, o', none⟩ : Addr).add j = ⟨g, o' + j, none⟩ := by unfold Addr.add; split <;> simp_all
      rw [e, hc j hj]
      simpa [hj, b8] using hu
    obtain ⟨v', w', hr, h2, h3, _, h5⟩ := run_append_own_at (P := Try.prog) w base 30 ty 5 i0 (.int .u8 0) 1 1 Try.underlying30 hi hz0 hz1 hz2 rfl (by decide) v l.length (l.map b8) hown ad l2.length c (l2.map b8) (by simp) hnews (by simp [b8, Value.oneCell']) (by unfold maxLen; omega) (by omega) hbase
    refine ⟨v', w', hr, ?_, h3, h5⟩
    unfold OwnB
    simpa using h2

theorem zeroCells_b8 (k : Nat) : Builtin.zeroCells (Value.int .u8 0).cells k = ((List.replicate k (0 : UInt8)).map b8).toArray := by
  apply Array.ext'
  have : (Value.int .u8 0).cells = #[.int .u8 0] := rfl
  rw [this]
  have h : (Builtin.zeroCells #[Value.int .u8 0] k).toList = List.replicate k (.int .u8 0) := by
    unfold Builtin.zeroCells
    simp only [Array.toList_map, List.toList_toArray, List.map_map, Array.toList_range]
    apply List.ext_getElem
    · simp
    · intro i h1 h2
      simp [Nat.mod_one]
  rw [h]
  simp [b8]
/-- append(v, make([]byte, k)...), v the call's own. -/
theorem run_appZ {w : World} (ty : TypeId) (base : Nat) (v : Value) (l : List UInt8) (hown : OwnB w base v l) (k : Nat) (h0 : 0 < k) (hbytes : l.length + k ≤ 1000000000) (hbase : base ≤ w.heap.size) :
    ∃ v' w', (Builtin.append_ #[30, 3] ty #[v, .int .i64 (k : Int)]).run Try.prog w = .ok v' w' ∧ OwnB w' base v' (l ++ List.replicate k 0) ∧ w.grownBy w' v.ownBlock ∧ (v'.ownBlock = v.ownBlock ∨ v'.ownBlock = some w.heap.size) := by
  obtain ⟨i0, hi, hz0, hz1, hz2⟩ := info_parts inf_u8
  have fresh : ∀ (old : Nat) (l' : List UInt8), (h : old < l'.length + k) → l'.length + k ≤ 1000000000 →
      OwnB (w.drew.alloc (.cells ((l'.map b8).toArray ++ Builtin.zeroCells (Value.int .u8 0).cells k ++ Builtin.zeroCells (Value.int .u8 0).cells (grownCap w (l'.length + k) old 5 - (l'.length + k))) 5)) base (.slice (some ⟨w.heap.size, 0, none⟩) (l'.length + k) (grownCap w (l'.length + k) old 5)) (l' ++ List.replicate k 0) := by
    intro old l' ho hb
    have hcap := grownCap_le_maxLen w (l'.length + k) old 5 (by unfold maxLen; omega)
    have hge := grownCap_ge w (l'.length + k) old 5
    generalize grownCap w (l'.length + k) old 5 = cap at *
    rw [zeroCells_b8, zeroCells_b8]
    refine ⟨by simp, .inr ⟨w.heap.size, cap, _, by simp, hbase, heap_alloc_new w.drew _, by simp; omega, hcap, by simp; omega, ?_⟩⟩
    have e : ∀ d, List.replicate (k + d) (b8 0) = List.replicate k (b8 0) ++ List.replicate d (b8 0) := fun d => by simp
    simp only [List.length_append, List.length_replicate, Nat.mul_one, Array.toList_append, List.map_append, List.map_replicate, List.append_assoc]
    rw [← List.append_assoc, List.take_append_of_le_length (by simp), List.take_of_length_le (by simp)]
  rcases hown.2 with ⟨rfl, h1⟩ | ⟨g, cap, cur, rfl, hb, hg, hle, hm, hs, ht⟩
  · obtain rfl := List.eq_nil_of_length_eq_zero h1
    have hr := Lib.run_append_nil_zeros (P := Try.prog) w 30 3 ty 5 i0 (.int .u8 0) .i64 .i64 Try.underlying30 Try.underlying3 hi hz0 k h0 (by omega) (by omega) (by rw [hz2]; simp at hbytes; omega)
    have hf := fresh 0 [] (by simp; omega) hbytes
    simp only [List.length_nil, Nat.zero_add, List.map_nil, List.nil_append] at hf
    refine ⟨_, _, hr, ?_, ⟨rfl, rfl, rfl, by simp, fun j hj _ => heap_alloc_old w.drew _ hj⟩, .inr rfl⟩
    simpa using hf
  · by_cases hroom : l.length + k ≤ cap
    · have hst := run_storeCells_at (P := Try.prog) g l.length 5 ((List.replicate k (0 : UInt8)).map b8) 0 cur w hg (by simp; omega) (fun v hv => by simp at hv; obtain ⟨_, rfl⟩ := hv; rfl)
      have e1 : (cur.toList.take (l.length + 0) ++ (List.replicate k (0 : UInt8)).map b8 ++ cur.toList.drop (l.length + 0 + ((List.replicate k (0 : UInt8)).map b8).length)).toArray.toList.take (l.length + k) = (l ++ List.replicate k 0).map b8 := by
        have e2 : cur.toList.take l.length = l.map b8 := by simpa using ht
        simp only [Nat.add_zero, e2, List.map_append]
        rw [List.take_append_of_le_length (by simp)]
        rw [List.take_of_length_le (by simp)]
      have hCs : (cur.toList.take (l.length + 0) ++ (List.replicate k (0 : UInt8)).map b8 ++ cur.toList.drop (l.length + 0 + ((List.replicate k (0 : UInt8)).map b8).length)).toArray.size = cap := by
        simp
        omega
      generalize (cur.toList.take (l.length + 0) ++ (List.replicate k (0 : UInt8)).map b8 ++ cur.toList.drop (l.length + 0 + ((List.replicate k (0 : UInt8)).map b8).length)).toArray = C at hst e1 hCs
      refine ⟨.slice (some ⟨g, 0, none⟩) (l.length + k) cap, w.setRow g C, ?_, ?_, ⟨rfl, rfl, rfl, by simp [World.setRow], fun j _ hj => setRow_other w g j _ (fun e => hj (by simp [Value.ownBlock, e]))⟩, .inl rfl⟩
      · have hk : k ≠ 0 := by omega
        have hw : IntKind.i64.wrap (k : Int) = k := by rw [IntKind.wrap_i64]; omega
        have h48i : ¬ (281474976710656 < (k : Int) * (i0.bytes : Int)) := by rw [hz2]; omega
        have hneg : ¬ ((k : Int) < 0) := by omega
        have hns : ¬ (k * i0.size = 0) := by rw [hz1]; omega
        have ea : (⟨g, 0, none⟩ : Addr).add (l.length * i0.size) = ⟨g, l.length, none⟩ := by rw [hz1, Nat.mul_one]; unfold Addr.add; split <;> simp_all
        have hzc := zeroCells_b8 k
        have hst' : (storeCells ⟨g, l.length, none⟩ (Builtin.zeroCells (Value.int .u8 0).cells k).toList).run Try.prog w = .ok () (w.setRow g C) := by
          rw [hzc]
          simpa using hst
        simp [Builtin.append_, run_underlying Try.underlying30, run_underlying Try.underlying3, sizeOf, typeInfo, zeroValue, hi, hz0, asInt, asIntOf, hw, hroom, hneg, hns, h48i, ea, hst']
      · refine ⟨by simp, .inr ⟨g, cap, _, by simp, hb, setRow_heap w g cur _ _ _ hg, by simpa using hroom, hm, by omega, ?_⟩⟩
        simpa using e1
    · have hold : (Builtin.firstCells i0.size l.length (.slice (some ⟨g, 0, none⟩) l.length cap)).run Try.prog w.drew = .ok (l.map b8).toArray w.drew := by
        have hl := run_loadCells_list (P := Try.prog) w.drew ⟨g, 0, none⟩ (l.map b8) (fun j u hj => by
          have hj' : j < l.length := by
            have := (List.getElem?_eq_some_iff.1 hj).1
            simpa using this
          have hc := OwnB.cell (w := w) hown j hj'
          have ea : (⟨g, 0, none⟩ : Addr).add j = ⟨g, j, none⟩ := by unfold Addr.add; split <;> simp_all
          rw [ea]
          have hc2 : w.drew.cell? ⟨g, j, none⟩ = some (.int .u8 (l[j].toNat : Int)) := hc
          rw [hc2]
          rw [List.getElem?_map, List.getElem?_eq_getElem hj'] at hj
          simpa [b8] using hj)
        simp only [List.length_map] at hl
        simp [Builtin.firstCells, hz1, hl]
      have hr := Lib.run_append_grow_zeros (P := Try.prog) w 30 3 ty 5 i0 (.int .u8 0) .i64 .i64 Try.underlying30 Try.underlying3 hi hz0 (some ⟨g, 0, none⟩) l.length cap (l.map b8) hold k h0 (by rw [hz1]; omega) (by omega) (by omega) (by rw [hz2]; omega) (growslice_fits (by omega) (by rw [hz2]; omega))
      refine ⟨_, _, hr, ?_, ⟨rfl, rfl, rfl, by simp, fun j hj _ => heap_alloc_old w.drew _ hj⟩, .inr rfl⟩
      have := fresh cap l (by omega) hbytes
      simpa using this
theorem OwnB.later {w w' : World} {base : Nat} {v : Value} {l : List UInt8} (h : OwnB w base v l) (hB : Below w.heap.size w w') : OwnB w' base v l := by
  refine ⟨h.1, ?_⟩
  rcases h.2 with h | ⟨g, cap, cur, h1, h2, h3, h4⟩
  · exact .inl h
  · exact .inr ⟨g, cap, cur, h1, h2, (hB.block g (Array.getElem?_eq_some_iff.1 h3).1).trans h3, h4⟩
/-- A row's block lies at the base or behind it. -/
theorem OwnB.ownGe {w : World} {base : Nat} {v : Value} {l : List UInt8} (h : OwnB w base v l) : ∀ r, v.ownBlock = some r → base ≤ r := by
  intro r hr
  rcases h.form with ⟨rfl, _⟩ | ⟨g, cap, rfl, hb, _⟩
  · cases hr
  · injection hr with hr
    subst hr
    exact hb
theorem grown_below {w w' : World} {B : Nat} {row : Option Nat} (hg : w.grownBy w' row) (hB : B ≤ w.heap.size) (hr : ∀ r, row = some r → B ≤ r) : Below B w w' :=
  ⟨hg.os, hg.tape, hg.output, hg.size, fun k hk => hg.block k (by omega) (fun e => by have := hr k e.symm; omega)⟩
/-- What a region's loads read, behind what turns nothing that was there. -/
theorem keepB1 {w1 W W' : World} {g i : Nat} {x : Value} (hB : Below w1.heap.size W W') (h : Below w1.heap.size w1 W ∧ W.cell? ⟨g, i, none⟩ = some x) (hg : g < w1.heap.size) : Below w1.heap.size w1 W' ∧ W'.cell? ⟨g, i, none⟩ = some x :=
  ⟨h.1.trans hB, (hB.cell (p := ⟨g, i, none⟩) hg).trans h.2⟩
theorem keepB2 {w1 W W' : World} {g i j : Nat} {x y : Value} (hB : Below w1.heap.size W W') (h : Below w1.heap.size w1 W ∧ W.cell? ⟨g, i, none⟩ = some x ∧ W.cell? ⟨g, j, none⟩ = some y) (hg : g < w1.heap.size) :
    Below w1.heap.size w1 W' ∧ W'.cell? ⟨g, i, none⟩ = some x ∧ W'.cell? ⟨g, j, none⟩ = some y :=
  ⟨h.1.trans hB, (hB.cell (p := ⟨g, i, none⟩) hg).trans h.2.1, (hB.cell (p := ⟨g, j, none⟩) hg).trans h.2.2⟩

section
variable {w : World} {ops : Array Oper} {o : Oper} {a : Act} {K : Act → World → Prop} {Q : Exit → Act → World → Prop} {E : Prop}
theorem oper_appB (s x : Operand) (ho : o.op = .call { callee := .builtin .append, args := #[s, x], argTypes := #[30, 30] })
    (base : Nat) (v : Value) (l : List UInt8) (hs : a.eval s = v) (hown : OwnB w base v l) (B : Nat) (A : Option Addr) (c : Nat) (l2 : List UInt8) (hx : a.eval x = .slice A l2.length c) (hin : InB w B A c l2)
    (hbytes : l.length + l2.length ≤ 140737488355328) (hbase : base ≤ w.heap.size)
    (h : ∀ v' w', OwnB w' base v' (l ++ l2) → w.grownBy w' v.ownBlock → (v'.ownBlock = v.ownBlock ∨ v'.ownBlock = some w.heap.size) → K (a.put o.dst v') w') : o.wp Try.prog a w K Q := by
  obtain ⟨v', w', hr, h2, h3, h4⟩ := run_appB o.type base v l hown B A c l2 hin hbytes hbase
  unfold Oper.wp execOp
  simp only [ho, resolve, invoke, builtin, Sem.run_bind, Sem.run_pure, Result.andThen_ok, List.map_toArray, List.map_cons, List.map_nil, hs, hx, hr]
  exact h v' w' h2 h3 h4
theorem step_appB (hgd : o.guard = none) (s x : Operand) (ho : o.op = .call { callee := .builtin .append, args := #[s, x], argTypes := #[30, 30] })
    (base : Nat) (v : Value) (l : List UInt8) (hs : a.eval s = v) (hown : OwnB w base v l) (B : Nat) (A : Option Addr) (c : Nat) (l2 : List UInt8) (hx : a.eval x = .slice A l2.length c) (hin : InB w B A c l2)
    (hbytes : l.length + l2.length ≤ 140737488355328) (hbase : base ≤ w.heap.size)
    (h : ∀ v' w', OwnB w' base v' (l ++ l2) → w.grownBy w' v.ownBlock → (v'.ownBlock = v.ownBlock ∨ v'.ownBlock = some w.heap.size) → K (a.put o.dst v') w') :
    if Region.wanted o (yielded ops a.tmps) = true then Oper.wp Try.prog o a w K Q else E := by
  have hw : Region.wanted o (yielded ops a.tmps) = true := by simp [Region.wanted, hgd]
  rw [if_pos hw]
  exact oper_appB s x ho base v l hs hown B A c l2 hx hin hbytes hbase h
theorem oper_appZ (s x : Operand) (ho : o.op = .call { callee := .builtin .append, args := #[s, x], argTypes := #[30, 3] })
    (base : Nat) (v : Value) (l : List UInt8) (hs : a.eval s = v) (hown : OwnB w base v l) (k : Nat) (hx : a.eval x = .int .i64 (k : Int)) (h0 : 0 < k) (hbytes : l.length + k ≤ 1000000000) (hbase : base ≤ w.heap.size)
    (h : ∀ v' w', OwnB w' base v' (l ++ List.replicate k 0) → w.grownBy w' v.ownBlock → (v'.ownBlock = v.ownBlock ∨ v'.ownBlock = some w.heap.size) → K (a.put o.dst v') w') : o.wp Try.prog a w K Q := by
  obtain ⟨v', w', hr, h2, h3, h4⟩ := run_appZ o.type base v l hown k h0 hbytes hbase
  unfold Oper.wp execOp
  simp only [ho, resolve, invoke, builtin, Sem.run_bind, Sem.run_pure, Result.andThen_ok, List.map_toArray, List.map_cons, List.map_nil, hs, hx, hr]
  exact h v' w' h2 h3 h4
theorem wp_appZ {rest : List Oper} (hgd : o.guard = none) (s x : Operand) (ho : o.op = .call { callee := .builtin .append, args := #[s, x], argTypes := #[30, 3] })
    (base : Nat) (v : Value) (l : List UInt8) (hs : a.eval s = v) (hown : OwnB w base v l) (k : Nat) (hx : a.eval x = .int .i64 (k : Int)) (h0 : 0 < k) (hbytes : l.length + k ≤ 1000000000) (hbase : base ≤ w.heap.size)
    (h : ∀ v' w', OwnB w' base v' (l ++ List.replicate k 0) → w.grownBy w' v.ownBlock → (v'.ownBlock = v.ownBlock ∨ v'.ownBlock = some w.heap.size) → wpList Try.prog ops Q rest (a.put o.dst v') w') : wpList Try.prog ops Q (o :: rest) a w :=
  wpList_plain hgd fun _ hK => oper_appZ s x ho base v l hs hown k hx h0 hbytes hbase fun v' w' h1 h2 h3 => hK _ _ (h v' w' h1 h2 h3)
theorem step_copyB (hgd : o.guard = none) (d s : Operand) (ho : o.op = .call { callee := .builtin .copy, args := #[d, s], argTypes := #[30, 30] })
    (g off : Nat) (l src : List UInt8) (A : Option Addr) (c B dLen dCap : Nat) (hd : a.eval d = .slice (some ⟨g, off, none⟩) dLen dCap) (hs : a.eval s = .slice A src.length c)
    {T : TypeId} (hb : BlkIs w g T (l.map b8).toArray) (hin : InB w B A c src) (hfit : off + dLen ≤ l.length)
    (h : K (a.put o.dst (.int .i64 ((min src.length dLen : Nat) : Int))) (w.setRow g ((spliceB l off dLen src).map b8).toArray)) :
    if Region.wanted o (yielded ops a.tmps) = true then Oper.wp Try.prog o a w K Q else E := by
  have hw : Region.wanted o (yielded ops a.tmps) = true := by simp [Region.wanted, hgd]
  rw [if_pos hw]
  exact oper_copyB d s ho g off l src A c B dLen dCap hd hs hb hin hfit h
end
end Go.Proofs.Ytlelckdcmlpmdaa
