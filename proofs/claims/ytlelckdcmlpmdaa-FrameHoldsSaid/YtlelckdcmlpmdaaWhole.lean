/- Structs and arrays that lie whole in a block: load, store, results. -/
import Derived.Test.YtlelckdcmlpmdaaCopy
import Derived.Deep.MidRow
namespace Go.Proofs.Ytlelckdcmlpmdaa
open Go Go.RowKit Lou

theorem BlkIs.range {w : World} {g : Nat} {t : TypeId} {cs : Array Value} (h : BlkIs w g t cs) : w.rangeAt g 0 cs.toList := fun j v hj => by
  rw [Nat.zero_add, h.cell]
  simpa using hj
/-- A type whose values lie in n cells of a block of their own. -/
structure RowTy (P : Program) (T : TypeId) (n : Nat) : Prop where
  desc : ∃ d, P.underlying T = some d ∧ d.isRow = true
  size : (P.info? T).map (·.size) = some n
theorem run_loadW {P : Program} {w : World} {g : Nat} {T t : TypeId} {cs : Array Value} (hT : RowTy P T cs.size) (hb : BlkIs w g t cs) : (loadVar T ⟨g, 0, none⟩).run P w = .ok (.agg cs) w := by
  obtain ⟨d, hu, hd⟩ := hT.desc
  have := run_loadVar_mid (P := P) w g 0 T cs.toList d hb.range hu hd (by simpa using hT.size)
  simpa using this
theorem run_storeW {P : Program} {w : World} {g : Nat} {T t : TypeId} {cs cs' : Array Value} (hT : RowTy P T cs.size) (hb : BlkIs w g t cs) (hs : cs'.size = cs.size) (h1 : ∀ v ∈ cs'.toList, v.oneCell' = true) : (storeVar T ⟨g, 0, none⟩ (.agg cs')).run P w = .ok () (w.setRow g cs') := by
  have h := run_storeCells_at (P := P) g 0 t cs'.toList 0 cs w hb (by simp; omega) h1
  have e : (cs.toList.take (0 + 0) ++ cs'.toList ++ cs.toList.drop (0 + 0 + cs'.toList.length)).toArray = cs' := by
    simp [List.drop_of_length_le, hs]
  rw [e] at h
  have hi := hT.size
  cases hq : P.info? T with
  | none => simp [hq] at hi
  | some i =>
    have hs2 : cs'.size = i.size := by simp [hq] at hi; omega
    simp [storeVar, sizeOf, typeInfo, hq, Value.cells, hs2, h]
section
variable {P : Program} {w : World} {ops : Array Oper} {rest : List Oper} {o : Oper} {a : Act} {Q : Exit → Act → World → Prop}
theorem oper_loadW {K : Act → World → Prop} (T : TypeId) (x : Operand) (ho : o.op = .load T x) (g : Nat) {t : TypeId} {cs : Array Value} (hx : a.eval x = .pointer (some ⟨g, 0, none⟩)) {n : Nat} (hT : RowTy P T n) (hb : BlkIs w g t cs) (hn : cs.size = n)
    (h : K (a.put o.dst (.agg cs)) w) : o.wp P a w K Q := by
  unfold Oper.wp execOp
  simp only [ho, hx, Instr.loadAt, Instr.sureAddr, Sem.run_bind, Sem.run_pure, Result.andThen_ok, run_loadW (hn ▸ hT) hb]
  exact h
theorem oper_storeW {K : Act → World → Prop} (T : TypeId) (x y : Operand) (ho : o.op = .store T x y) (g : Nat) {t : TypeId} {cs cs' : Array Value} (hx : a.eval x = .pointer (some ⟨g, 0, none⟩)) (hy : a.eval y = .agg cs') {n : Nat} (hT : RowTy P T n) (hb : BlkIs w g t cs) (hn : cs.size = n)
    (hs : cs'.size = cs.size) (h1 : ∀ v ∈ cs'.toList, v.oneCell' = true) (h : K (a.put o.dst undef) (w.setRow g cs')) : o.wp P a w K Q := by
  unfold Oper.wp execOp
  simp only [ho, hx, hy, Instr.storeAt, Instr.sureAddr, Sem.run_bind, Sem.run_pure, Result.andThen_ok, run_storeW (hn ▸ hT) hb hs h1]
  exact h
theorem wp_loadW (hgd : o.guard = none) (T : TypeId) (x : Operand) (ho : o.op = .load T x) (g : Nat) {t : TypeId} {cs : Array Value} (hx : a.eval x = .pointer (some ⟨g, 0, none⟩)) {n : Nat} (hT : RowTy P T n) (hb : BlkIs w g t cs) (hn : cs.size = n)
    (h : wpList P ops Q rest (a.put o.dst (.agg cs)) w) : wpList P ops Q (o :: rest) a w :=
  wpList_plain hgd fun _ hK => oper_loadW T x ho g hx hT hb hn (hK _ _ h)
theorem wp_storeW (hgd : o.guard = none) (T : TypeId) (x y : Operand) (ho : o.op = .store T x y) (g : Nat) {t : TypeId} {cs cs' : Array Value} (hx : a.eval x = .pointer (some ⟨g, 0, none⟩)) (hy : a.eval y = .agg cs') {n : Nat} (hT : RowTy P T n) (hb : BlkIs w g t cs) (hn : cs.size = n)
    (hs : cs'.size = cs.size) (h1 : ∀ v ∈ cs'.toList, v.oneCell' = true) (h : wpList P ops Q rest (a.put o.dst undef) (w.setRow g cs')) : wpList P ops Q (o :: rest) a w :=
  wpList_plain hgd fun _ hK => oper_storeW T x y ho g hx hy hT hb hn hs h1 (hK _ _ h)
end
theorem results_cellW {fn : Func} {P : Program} {a : Act} {w : World} {g : Nat} {T t : TypeId} {cs : Array Value} (k : Tmp) (h : fn.results = #[.cell k T]) (hk : a.eval (.tmp k) = .pointer (some ⟨g, 0, none⟩)) {n : Nat} (hT : RowTy P T n) (hb : BlkIs w g t cs) (hn : cs.size = n) :
    (results fn a.tmps).run P w = .ok (.agg cs) w := by
  have e : a.tmps.getD k undef = .pointer (some ⟨g, 0, none⟩) := hk
  unfold results
  simp only [h]
  simp [← Array.getD_eq_getD_getElem?, e, asAddr, run_loadW (hn ▸ hT) hb, Result.andThen]
theorem results_cellW_tmp {fn : Func} {P : Program} {a : Act} {w : World} {g : Nat} {T t : TypeId} {cs : Array Value} {v : Value} (k m : Tmp) (h : fn.results = #[.cell k T, .tmp m]) (hk : a.eval (.tmp k) = .pointer (some ⟨g, 0, none⟩)) (hm : a.eval (.tmp m) = v) {n : Nat} (hT : RowTy P T n) (hb : BlkIs w g t cs) (hn : cs.size = n) :
    (results fn a.tmps).run P w = .ok (.tuple #[.agg cs, v]) w := by
  have e : a.tmps.getD k undef = .pointer (some ⟨g, 0, none⟩) := hk
  have e2 : a.tmps.getD m undef = v := hm
  unfold results
  simp only [h]
  simp [← Array.getD_eq_getD_getElem?, e, e2, asAddr, run_loadW (hn ▸ hT) hb, Result.andThen]
theorem b8_one (l : List UInt8) : ∀ v ∈ (l.map b8).toArray.toList, v.oneCell' = true := by
  intro v hv
  simp at hv
  obtain ⟨x, _, rfl⟩ := hv
  rfl
/-- The types of frames' sectors and heads. -/
theorem rowSector : RowTy Try.prog 236 64 := ⟨⟨_, Try.underlying236, rfl⟩, by kernel_rfl⟩
theorem rowHead : RowTy Try.prog 109 4 := ⟨⟨_, Try.underlying109, rfl⟩, by kernel_rfl⟩
end Go.Proofs.Ytlelckdcmlpmdaa
