/- copy of bytes into a block of the call's own. -/
import Derived.Test.YtlelckdcmlpmdaaOctSum
import Derived.Laws.CopyRow
namespace Go.Proofs.Ytlelckdcmlpmdaa
open Go Go.RowKit Lou

theorem BlkIs.setRow {w : World} {g : Nat} {t : TypeId} {cs : Array Value} (h : BlkIs w g t cs) (cs' : Array Value) : BlkIs (w.setRow g cs') g t cs' := setRow_heap w g cs cs' t (0, 0) h
theorem BlkIs.setRow_ne {w : World} {g k : Nat} {t : TypeId} {cs : Array Value} (h : BlkIs w g t cs) (hk : g ≠ k) (cs' : Array Value) : BlkIs (w.setRow k cs') g t cs := (setRow_other w k g cs' hk).trans h
theorem below_setRow {B : Nat} {w0 w : World} (hb : Below B w0 w) {g : Nat} (hg : B ≤ g) (cs : Array Value) : Below B w0 (w.setRow g cs) :=
  hb.trans ⟨rfl, rfl, rfl, by simp [World.setRow], fun k hk => setRow_other w g k cs (by omega)⟩

/-- What stands after a copy. -/
def spliceB (l : List UInt8) (o n : Nat) (src : List UInt8) : List UInt8 := l.take o ++ src.take n ++ l.drop (o + min src.length n)
theorem copyB_run {w : World} {g o : Nat} {l src : List UInt8} {A : Option Addr} {c B dLen dCap : Nat} (ty : TypeId) {T : TypeId} (hb : BlkIs w g T (l.map b8).toArray) (hin : InB w B A c src) (hfit : o + dLen ≤ l.length) :
    (Builtin.copy_ #[30, 30] ty #[.slice (some ⟨g, o, none⟩) dLen dCap, .slice A src.length c]).run Try.prog w = .ok (.int .i64 ((min src.length dLen : Nat) : Int)) (w.setRow g ((spliceB l o dLen src).map b8).toArray) := by
  obtain ⟨i0, hi, hz0, hz1, hz2⟩ := info_parts inf_u8
  have hs : (Try.prog.info? 5).map (·.size) = some 1 := by rw [hi]; simp [hz1]
  rcases Nat.eq_zero_or_pos src.length with h0 | h0
  · obtain rfl := List.eq_nil_of_length_eq_zero h0
    have e : spliceB l o dLen [] = l := by simp [spliceB]
    rw [e, setRow_self w g _ _ _ hb]
    rcases A with _ | ad
    · obtain rfl := hin.nil rfl
      have := run_copy_nil (P := Try.prog) w 30 30 ty 5 ⟨g, o, none⟩ dLen dCap Try.underlying30 (by rw [hi]; rfl)
      simpa [goInt] using this
    · have := run_copy_row (P := Try.prog) w 30 30 ty 5 g o dLen dCap ad 0 c _ _ [] Try.underlying30 hs hb (by simp) (by simp) (by simp; omega) (by simp)
      have e2 : ((l.map b8).toArray.toList.take o ++ [] ++ (l.map b8).toArray.toList.drop (o + ([] : List Value).length)).toArray = (l.map b8).toArray := by simp
      rw [e2, setRow_self w g _ _ _ hb] at this
      simpa [goInt] using this
  · obtain ⟨g2, o2, rfl, hg2, hc⟩ := hin.lies h0
    have := run_copy_row (P := Try.prog) w 30 30 ty 5 g o dLen dCap ⟨g2, o2, none⟩ src.length c _ _ ((src.take dLen).map b8) Try.underlying30 hs hb (by simp [Nat.min_comm]) ?_ (by simp; omega) (fun v hv => by obtain ⟨x, _, rfl⟩ := List.mem_map.1 hv; rfl)
    · rw [this]
      simp [goInt, spliceB, Nat.min_comm, List.map_take, List.map_drop]
    · intro j v hj
      have hj2 : j < (src.take dLen).length := by
        have := (List.getElem?_eq_some_iff.1 hj).1
        simpa using this
      have hjs : j < src.length := by simp at hj2; omega
      have ea : (⟨g2, o2, none⟩ : Addr).add j = ⟨g2, o2 + j, none⟩ := by cases j <;> simp [Addr.add]
      rw [ea, hc j hjs]
      rw [List.getElem?_map, List.getElem?_eq_getElem hj2, List.getElem_take] at hj
      simpa [b8] using hj

section
variable {w : World} {ops : Array Oper} {rest : List Oper} {o : Oper} {a : Act} {Q : Exit → Act → World → Prop}
theorem oper_copyB {K : Act → World → Prop} (d s : Operand) (ho : o.op = .call { callee := .builtin .copy, args := #[d, s], argTypes := #[30, 30] })
    (g off : Nat) (l src : List UInt8) (A : Option Addr) (c B dLen dCap : Nat) (hd : a.eval d = .slice (some ⟨g, off, none⟩) dLen dCap) (hs : a.eval s = .slice A src.length c)
    {T : TypeId} (hb : BlkIs w g T (l.map b8).toArray) (hin : InB w B A c src) (hfit : off + dLen ≤ l.length)
    (h : K (a.put o.dst (.int .i64 ((min src.length dLen : Nat) : Int))) (w.setRow g ((spliceB l off dLen src).map b8).toArray)) : o.wp Try.prog a w K Q := by
  have hr := copyB_run (dCap := dCap) o.type hb hin hfit
  unfold Oper.wp execOp
  simp only [ho, resolve, invoke, builtin, Sem.run_bind, Sem.run_pure, Result.andThen_ok, List.map_toArray, List.map_cons, List.map_nil, hd, hs, hr]
  exact h
theorem wp_copyB (hgd : o.guard = none) (d s : Operand) (ho : o.op = .call { callee := .builtin .copy, args := #[d, s], argTypes := #[30, 30] })
    (g off : Nat) (l src : List UInt8) (A : Option Addr) (c B dLen dCap : Nat) (hd : a.eval d = .slice (some ⟨g, off, none⟩) dLen dCap) (hs : a.eval s = .slice A src.length c)
    {T : TypeId} (hb : BlkIs w g T (l.map b8).toArray) (hin : InB w B A c src) (hfit : off + dLen ≤ l.length)
    (h : wpList Try.prog ops Q rest (a.put o.dst (.int .i64 ((min src.length dLen : Nat) : Int))) (w.setRow g ((spliceB l off dLen src).map b8).toArray)) : wpList Try.prog ops Q (o :: rest) a w :=
  wpList_plain hgd fun _ hK => oper_copyB d s ho g off l src A c B dLen dCap hd hs hb hin hfit (hK _ _ h)
end
/-- An own row without spare room, as a block. -/
theorem OwnB.blk {w : World} {base g : Nat} {l : List UInt8} (h : OwnB w base (.slice (some ⟨g, 0, none⟩) l.length l.length) l) : BlkIs w g 5 (l.map b8).toArray ∧ base ≤ g := by
  rcases h.2 with ⟨h1, _⟩ | ⟨g', cap, cur, hv, hb, hg, hle, _, hs, ht⟩
  · cases h1
  · injection hv with e1 e2 e3
    injection e1 with e1
    injection e1 with e1 _ _
    subst e1 e3
    refine ⟨?_, hb⟩
    have e : cur.toList = l.map b8 := by
      rw [← ht, List.take_of_length_le]
      simp; omega
    have e' : cur = (l.map b8).toArray := by rw [← e]
    unfold BlkIs
    rw [hg, e']
end Go.Proofs.Ytlelckdcmlpmdaa
