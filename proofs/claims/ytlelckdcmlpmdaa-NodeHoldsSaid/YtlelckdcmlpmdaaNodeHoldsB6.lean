/- Texts that the proof of NodeHolds leans on, part 6. -/
import Derived.Recover
import Derived.Lib.SliceRun
import Derived.Deep.Upon
import Derived.Test.YtlelckdcmlpmdaaNodeHoldsB5
/- node.must where it gives up; node.caught where something was given up. -/
namespace Go.Proofs.Ytlelckdcmlpmdaa
open Go Go.RowKit Lou

/-- What was given up: the reason. -/
def gave (e : Int) (r : Bool) : PanicEntry := { v := .iface 27 (.int .i64 e), recovered := r }
set_option maxHeartbeats 1000000 in
theorem must_no (w : World) (e : Int) : Calls Try.prog 115 #[.bool false, .int .i64 e] w fun e' w' => e' = .panicked [gave e false] ∧ w = w' := by
  go_enter Try.func115, Try.ntmps115
  go_wp2
  exact ⟨rfl, rfl, rfl⟩
set_option maxHeartbeats 1000000 in
theorem bytes1_gives (w : World) (q : Nat) (k0 : Int) (hq : BlkIs w q 3 #[.int .i64 k0]) : Calls Try.prog 121 #[.pointer (some ⟨q, 0, none⟩)] w fun e w' => (∃ v, e = .returned v) ∧ w' = w.setCell ⟨q, 0, none⟩ (.int .i64 0) := by
  have c2 := hq.boxed
  have f2 := hq.free 0
  go_enter Try.func121, Try.ntmps121
  go_wp2
  go_end0
  exact ⟨⟨_, rfl⟩, rfl⟩
set_option maxHeartbeats 1000000 in
theorem encode1_gives (w : World) (q : Nat) (v0 : Value) (hq : BlkIs w q 30 #[v0]) : Calls Try.prog 166 #[.pointer (some ⟨q, 0, none⟩)] w fun e w' => (∃ v, e = .returned v) ∧ w' = w.setCell ⟨q, 0, none⟩ (.slice none 0 0) := by
  have c2 := hq.boxed
  have f2 := hq.free 0
  go_enter Try.func166, Try.ntmps166
  go_wp2
  go_end0
  exact ⟨⟨_, rfl⟩, rfl⟩
@[local go_sem] theorem as_errno (v : Value) (w : World) : (Instr.typeAssert (.iface 27 v) 20 27 false).run Try.prog w = .ok v w := by kernel_rfl
set_option maxRecDepth 100000 in
set_option maxHeartbeats 1000000 in
theorem caught_bytes (p q : Nat) (e : Int) (w : World) (k : Int) (hp : BlkIs w p 27 #[.int .i64 k]) (k0 : Int) (hq : BlkIs w q 3 #[.int .i64 k0]) (hpq : p ≠ q) :
    CallsD Try.prog 113 #[.pointer (some ⟨p, 0, none⟩), .func (.func 121) #[] #[.pointer (some ⟨q, 0, none⟩)]] (.panicking [gave e false]) w fun e' u' w' => e' = .returned (.tuple #[]) ∧ u' = .panicking [gave e true] ∧
      w' = (w.setCell ⟨p, 0, none⟩ (.int .i64 e)).setCell ⟨q, 0, none⟩ (.int .i64 0) := by
  refine callsD_of_wpS Try.func113 rfl fun c₀ cs hu => ?_
  unfold gave at hu
  apply wpS_seq
  apply wpS_region
  simp [wpOpsS, go_sem, recoverD, hu, Try.ntmps113, Exit.thenS]
  refine wpS_of_wp ?_
  simp only [Array.replicate_succ, Array.replicate_zero, List.push_toArray, List.append_toArray, List.nil_append, List.cons_append]
  have c1 := hp.boxed
  have f1 := hp.free 0
  have hq2 := hq.other (p := ⟨p, 0, none⟩) (by simpa using fun h => hpq h.symm) (.int .i64 e)
  have c2 := hq2.boxed
  have f2 := hq2.free 0
  go_wp2_with (go_at_call 121; refine (bytes1_gives _ q k0 hq2).mono ?_; rintro e1 w1 ⟨⟨v1, rfl⟩, rfl⟩)
  refine ⟨rfl, _, rfl, _, results_none rfl _ _ _, rfl, rfl, rfl⟩
set_option maxRecDepth 100000 in
set_option maxHeartbeats 1000000 in
theorem caught_encode (p q : Nat) (e : Int) (w : World) (k : Int) (hp : BlkIs w p 27 #[.int .i64 k]) (v0 : Value) (hq : BlkIs w q 30 #[v0]) (hpq : p ≠ q) :
    CallsD Try.prog 113 #[.pointer (some ⟨p, 0, none⟩), .func (.func 166) #[] #[.pointer (some ⟨q, 0, none⟩)]] (.panicking [gave e false]) w fun e' u' w' => e' = .returned (.tuple #[]) ∧ u' = .panicking [gave e true] ∧
      w' = (w.setCell ⟨p, 0, none⟩ (.int .i64 e)).setCell ⟨q, 0, none⟩ (.slice none 0 0) := by
  refine callsD_of_wpS Try.func113 rfl fun c₀ cs hu => ?_
  unfold gave at hu
  apply wpS_seq
  apply wpS_region
  simp [wpOpsS, go_sem, recoverD, hu, Try.ntmps113, Exit.thenS]
  refine wpS_of_wp ?_
  simp only [Array.replicate_succ, Array.replicate_zero, List.push_toArray, List.append_toArray, List.nil_append, List.cons_append]
  have c1 := hp.boxed
  have f1 := hp.free 0
  have hq2 := hq.other (p := ⟨p, 0, none⟩) (by simpa using fun h => hpq h.symm) (.int .i64 e)
  have c2 := hq2.boxed
  have f2 := hq2.free 0
  go_wp2_with (go_at_call 166; refine (encode1_gives _ q v0 hq2).mono ?_; rintro e1 w1 ⟨⟨v1, rfl⟩, rfl⟩)
  refine ⟨rfl, _, rfl, _, results_none rfl _ _ _, rfl, rfl, rfl⟩
end Go.Proofs.Ytlelckdcmlpmdaa
/- Where node.laid gives up: Bytes, Fits. -/
namespace Go.Proofs.Ytlelckdcmlpmdaa
open Go Go.RowKit Lou

/-- A reason was given up. -/
def GaveOut (w : World) (e0 : Int) (e : Ending) (w' : World) : Prop := e = .panicked [gave e0 false] ∧ Below w.heap.size w w'
set_option maxRecDepth 100000 in
set_option maxHeartbeats 2000000 in
theorem bytes_bad (w : World) (x : Nod) (Ac : Option Addr) (cc : Nat) (Ak : Option Addr) (ck : Nat) (Ai : Option Addr) (ci : Nat) (h : NIs w w.heap.size x Ac cc Ak ck Ai ci) (e0 : Int) (HL : ∀ W, Below w.heap.size w W → Calls Try.prog 116 #[.agg (nodC x Ac cc Ak ck Ai ci)] W (GaveOut W e0)) :
    Calls Try.prog 53 #[.agg (nodC x Ac cc Ak ck Ai ci)] w fun e w' => e = .returned (.tuple #[.int .i64 0, .int .i64 e0]) ∧ Below w.heap.size w w' := by
  unfold GaveOut at HL
  have b0 := BlkIs.new w 76 (nodC x Ac cc Ak ck Ai ci)
  have hmf : ∀ (fn : Fn) (first cap : Array Value) (w : World), (Instr.makeFunc fn first cap).run Try.prog w = .ok (.func fn first cap) w := fun _ _ _ _ => rfl
  unfold nodC at *
  obtain ⟨W1, hW1⟩ : ∃ W1, W1 = ((w.alloc (.cells #[.bool x.leaf, .slice Ac x.cells.length cc, .slice Ak x.keys.length ck, .slice Ai x.kids.length ci] 76)).alloc (.cells #[.int .i64 0] 3)).alloc (.cells #[.int .i64 0] 27) := ⟨_, rfl⟩
  have b1 : BlkIs W1 w.heap.size 76 #[.bool x.leaf, .slice Ac x.cells.length cc, .slice Ak x.keys.length ck, .slice Ai x.kids.length ci] := by rw [hW1]; exact (b0.alloc _).alloc _
  have b2 : BlkIs W1 (w.heap.size + 1) 3 #[.int .i64 0] := by
    have := BlkIs.new (w.alloc (.cells #[.bool x.leaf, .slice Ac x.cells.length cc, .slice Ak x.keys.length ck, .slice Ai x.kids.length ci] 76)) 3 #[.int .i64 0]
    rw [World.size_alloc] at this
    rw [hW1]
    exact this.alloc _
  have b3 : BlkIs W1 (w.heap.size + 1 + 1) 27 #[.int .i64 0] := by
    have := BlkIs.new ((w.alloc (.cells #[.bool x.leaf, .slice Ac x.cells.length cc, .slice Ak x.keys.length ck, .slice Ai x.kids.length ci] 76)).alloc (.cells #[.int .i64 0] 3)) 27 #[.int .i64 0]
    rw [World.size_alloc, World.size_alloc] at this
    rw [hW1]
    exact this
  have hB1 : Below w.heap.size w W1 := by rw [hW1]; exact (((Below.refl _ w).alloc (Nat.le_refl _) _).alloc (by simp) _).alloc (by simp; omega) _
  have HW1 := Lib.hid hW1
  clear hW1 b0
  go_enter_defers Try.func53, Try.ntmps53
  go_wp2_with (first
    | (rw [← HW1.out]; refine wp_loadW rfl 76 (.tmp 1) rfl w.heap.size rfl rowNod b1 (by rfl) ?_)
    | (go_at_call 116; refine (HL _ hB1).mono ?_; rintro e w2 ⟨rfl, hB2⟩; have b22 := b2.below hB2 b2.lt; have b32 := b3.below hB2 b3.lt))
  refine leaves_cons (f := 113) (args := #[.pointer (some ⟨w.heap.size + 1 + 1, 0, none⟩), .func (.func 121) #[] #[.pointer (some ⟨w.heap.size + 1, 0, none⟩)]]) (by simp) (by simp [go_sem]) ?_
  refine (caught_bytes _ _ e0 _ _ b32 _ b22 (by omega)).mono ?_
  rintro e u' w'' ⟨rfl, rfl, rfl⟩
  have q2 : ((w2.setCell ⟨w.heap.size + 1 + 1, 0, none⟩ (.int .i64 e0)).setCell ⟨w.heap.size + 1, 0, none⟩ (.int .i64 0)).cell? ⟨w.heap.size + 1, 0, none⟩ = some (.int .i64 0) := ((b22.other (p := ⟨w.heap.size + 1 + 1, 0, none⟩) (by simp) _).set 0 _).boxed
  have q3 : ((w2.setCell ⟨w.heap.size + 1 + 1, 0, none⟩ (.int .i64 e0)).setCell ⟨w.heap.size + 1, 0, none⟩ (.int .i64 0)).cell? ⟨w.heap.size + 1 + 1, 0, none⟩ = some (.int .i64 e0) := ((b32.set 0 _).other (p := ⟨w.heap.size + 1, 0, none⟩) (by simp) _).boxed
  have hBf : Below w.heap.size w ((w2.setCell ⟨w.heap.size + 1 + 1, 0, none⟩ (.int .i64 e0)).setCell ⟨w.heap.size + 1, 0, none⟩ (.int .i64 0)) := ((hB1.trans (hB2.mono hB1.size)).setCell (by simp; omega) _).setCell (by simp) _
  generalize (w2.setCell ⟨w.heap.size + 1 + 1, 0, none⟩ (.int .i64 e0)).setCell ⟨w.heap.size + 1, 0, none⟩ (.int .i64 0) = V at *
  simp [Leaves, settle, gave, results, Try.results53, go_sem, q2, q3]
  exact hBf
end Go.Proofs.Ytlelckdcmlpmdaa
/- slices.Compact over strings two of which, side by side, are the same: what comes back is shorter. -/
namespace Go.Proofs.Ytlelckdcmlpmdaa
open Go Go.RowKit Lou

theorem sameB {a b : ByteArray} (h : a.toList = b.toList) : a = b := by
  rw [ByteArray.toList_eq, ByteArray.toList_eq] at h
  exact ByteArray.ext (Array.toList_inj.1 h)
theorem setCells_grownBy (g : Nat) : ∀ (vs : List Value) (o : Nat) (w : World), w.grownBy (w.setCells g o vs) (some g)
  | [], _, _ => ⟨rfl, rfl, rfl, Nat.le_refl _, fun _ _ _ => rfl⟩
  | v :: vs, o, w => by
    have h1 := grownBy_set w g o v
    have h2 := setCells_grownBy g vs (o + 1) (w.setCell ⟨g, o, none⟩ v)
    exact ⟨h2.os.trans h1.os, h2.tape.trans h1.tape, h2.output.trans h1.output, Nat.le_trans h1.size h2.size, fun k hk hne => (h2.block k (Nat.lt_of_lt_of_le hk h1.size) hne).trans (h1.block k hk hne)⟩
/-- A row of strings, whatever they are. -/
def StrRow (w : World) (g o n : Nat) : Prop := ∀ j, j < n → (∃ s, w.cell? ⟨g, o + j, none⟩ = some (.string s)) ∧ w.frozen? ⟨g, o + j, none⟩ = false
theorem StrRow.drew {w : World} {g o n : Nat} (h : StrRow w g o n) : StrRow w.drew g o n := h
theorem StrRow.set {w : World} {g o n : Nat} (h : StrRow w g o n) (i : Nat) (s : ByteArray) : StrRow (w.setCell ⟨g, i, none⟩ (.string s)) g o n := fun j hj => by
  obtain ⟨⟨s0, h1⟩, h2⟩ := h j hj
  refine ⟨?_, by simpa [go_sem] using h2⟩
  by_cases e : i = o + j
  · subst e
    exact ⟨s, by simp [go_sem, h1]⟩
  · exact ⟨s0, by simp [go_sem, h1, e]⟩
theorem below_grownB {w w' : World} (h : Below w.heap.size w w') (r : Nat) : w.grownBy w' (some r) := ⟨h.os, h.tape, h.output, h.size, fun k hk _ => h.block k hk⟩
theorem grownB_trans {a b c : World} {row : Option Nat} (h1 : a.grownBy b row) (h2 : b.grownBy c row) : a.grownBy c row :=
  ⟨h2.os.trans h1.os, h2.tape.trans h1.tape, h2.output.trans h1.output, Nat.le_trans h1.size h2.size, fun k hk hne => (h2.block k (Nat.lt_of_lt_of_le hk h1.size) hne).trans (h1.block k hk hne)⟩
def LessOut (w : World) (g o c n : Nat) (e : Ending) (w' : World) : Prop := ∃ m, m < n ∧ e = .returned (.slice (some ⟨g, o, none⟩) m c) ∧ w.grownBy w' (some g)
set_option maxRecDepth 100000 in
set_option maxHeartbeats 4000000 in
theorem compact_less (w : World) (B g o c : Nat) (l : List ByteArray) (h : InG w B 1 (some ⟨g, o, none⟩) l.length c (skC l)) (hB0 : B ≤ w.heap.size) (hg : g < B) (hfr : ∀ j, j < l.length → w.frozen? ⟨g, o + j, none⟩ = false) (hl : l.length ≤ 1000000) (hn : ¬ ApartS l) :
    Calls Try.prog 194 #[.slice (some ⟨g, o, none⟩) l.length c] w (LessOut w g o c l.length) := by
  have hle := h.le
  have hmx := h.max
  have h2 : ¬ l.length < 2 := fun h2 => hn (fun j hj => by omega)
  have h2' : ¬ (l.length : Int) < 2 := by omega
  have HN := Lib.hid hn
  clear hn
  unfold LessOut
  go_enter Try.func194, Try.ntmps194
  go_wp2
  go_loopw [3] (fun i wr => ∃ (k m : Nat), i = .int .i64 m ∧ m = k + 1 ∧ m ≤ l.length ∧ Below w.heap.size w wr ∧ ∀ j, (h : j + 1 < l.length) → j < k → (l[j + 1].toList == l[j].toList) = false) (fun i _ => l.length - (intOf i).toNat)
  case atStart => exact ⟨0, 1, rfl, rfl, by omega, Below.refl _ _, fun j _ h => by omega⟩
  case round =>
    obtain ⟨k, m, rfl, hm, hml, hB, hap⟩ := hrel
    by_cases hlt : m < l.length
    · have hk : k + 1 < l.length := by omega
      have hlie : ∀ j, (hj : j < l.length) → w.cell? ⟨g, o + j, none⟩ = some (.string l[j]) := fun j hj => str_at h rfl j hj
      have hgw : g < w.heap.size := by omega
      have e1 : wr.cell? ⟨g, o + m, none⟩ = some (.string l[k + 1]) := by rw [hm]; exact (hB.cell (p := ⟨g, o + (k + 1), none⟩) hgw).trans (hlie (k + 1) hk)
      have e0 : wr.cell? ⟨g, o + k, none⟩ = some (.string l[k]) := (hB.cell (p := ⟨g, o + k, none⟩) hgw).trans (hlie k (by omega))
      have hrow : StrRow wr g o l.length := fun j hj => ⟨⟨l[j], (hB.cell (p := ⟨g, o + j, none⟩) hgw).trans (hlie j hj)⟩, (hB.frozen (p := ⟨g, o + j, none⟩) hgw).trans (hfr j hj)⟩
      have hap2 : (l[k + 1].toList == l[k].toList) = false → ∀ j, (h : j + 1 < l.length) → j < k + 1 → (l[j + 1].toList == l[j].toList) = false := fun hne j hj hjk => by
        by_cases e : j = k
        · subst e; exact hne
        · exact hap j hj (by omega)
      have hwk : IntKind.i64.wrap ((m : Int) - 1) = (k : Int) := by rw [wrapN _ (by omega) (by omega)]; omega
      have hwm : IntKind.i64.wrap ((m : Int) + 1) = (m : Int) + 1 := wrapN _ (by omega) (by omega)
      have hk0 : (0 : Int) ≤ (m : Int) := by omega
      have hk1 : (m : Int) < (l.length : Int) := by omega
      have hk2 : (0 : Int) ≤ (k : Int) := by omega
      have hk3 : (k : Int) < (l.length : Int) := by omega
      have HM := Lib.hid hm
      have HA := Lib.hid hap2
      have HR := Lib.hid hrow
      generalize l[k + 1] = s1 at *
      generalize l[k] = s0 at *
      have d1 : wr.drew.cell? ⟨g, o + m, none⟩ = some (.string s1) := e1
      have d0 : wr.drew.cell? ⟨g, o + k, none⟩ = some (.string s0) := e0
      clear hm hap hap2 hlie hrow
      by_cases hs : s1 = s0
      · subst hs
        go_wp2
        go_region
        go_wp2
        have hBd := hB.drew
        have hR0 : StrRow wr.drew g o l.length := HR.out
        clear e1 e0 d1 d0 HR HA hwm hwk hB
        generalize wr.drew = W at *
        clear wr
        have hcl' : m ≤ c := by omega
        go_loopw [3, 5] (fun i j wr => ∃ (kk k2 : Nat), i = .int .i64 kk ∧ j = .int .i64 k2 ∧ 1 ≤ k2 ∧ m ≤ kk ∧ kk + 1 ≤ m + k2 ∧ m + k2 ≤ l.length ∧ w.grownBy wr (some g) ∧ StrRow wr g o l.length) (fun _ j _ => l.length - (intOf j).toNat)
        case atStart => exact ⟨m, 1, rfl, rfl, by omega, by omega, by omega, by omega, below_grownB hBd g, hR0⟩
        case round =>
          obtain ⟨kk, k2, rfl, rfl, h21, hkm, hkk, hkl, hgr, hR⟩ := hrel
          by_cases hlt2 : m + k2 < l.length
          · obtain ⟨⟨sa, ea⟩, _⟩ := hR (m + k2) hlt2
            obtain ⟨⟨sb, eb⟩, _⟩ := hR (m + (k2 - 1)) (by omega)
            obtain ⟨⟨so, eo⟩, fo⟩ := hR kk (by omega)
            rw [← Nat.add_assoc] at ea eb
            have hg3 : ((l.length - m : Nat) : Int) = (l.length : Int) - m := by omega
            have hw1 : IntKind.i64.wrap ((k2 : Int) - 1) = ((k2 - 1 : Nat) : Int) := by rw [wrapN _ (by omega) (by omega)]; omega
            have hw2 : IntKind.i64.wrap ((k2 : Int) + 1) = (k2 : Int) + 1 := wrapN _ (by omega) (by omega)
            have hw3 : IntKind.i64.wrap ((kk : Int) + 1) = (kk : Int) + 1 := wrapN _ (by omega) (by omega)
            have i1 : (k2 : Int) < ((l.length - m : Nat) : Int) := by omega
            have i2 : (0 : Int) ≤ ((k2 - 1 : Nat) : Int) := by omega
            have i3 : ((k2 - 1 : Nat) : Int) < ((l.length - m : Nat) : Int) := by omega
            have i4 : (kk : Int) < (l.length : Int) := by omega
            have j1 : k2 < l.length - m := by omega
            have j2 : k2 - 1 < l.length - m := by omega
            have HR := Lib.hid hR
            clear hR
            obtain ⟨q, hq⟩ : ∃ q, q = k2 - 1 := ⟨_, rfl⟩
            rw [← hq] at hw1 i2 i3 eb j2
            have HQ := Lib.hid hq
            clear hq hg3
            have ed : wr.drew.cell? ⟨g, o + m + k2, none⟩ = some (.string sa) := ea
            have ec : wr.drew.cell? ⟨g, o + m + q, none⟩ = some (.string sb) := eb
            by_cases hs2 : sa = sb
            · subst hs2
              go_wp2
              go_region
              go_wp2
              exact ⟨⟨kk, k2 + 1, by simp, by simp, by omega, by omega, by omega, by omega, grownB_trans hgr (below_grownB ((Below.refl _ wr).drew) g), HR.out⟩, by simp [intOf]; omega⟩
            · have hne : (sa.toList == sb.toList) = false := by simpa using fun h => hs2 (sameB h)
              go_wp2
              go_region
              go_wp2
              exact ⟨⟨kk + 1, k2 + 1, by simp, by simp, by omega, by omega, by omega, by omega, grownB_trans hgr (grownB_trans (grownBy_set wr g (o + kk) _) (below_grownB ((Below.refl _ _).drew) g)), (HR.out.set (o + kk) sa).drew⟩, by simp [intOf]; omega⟩
          · obtain rfl : k2 = l.length - m := by omega
            have hcl : ∀ ty, (Builtin.clear_ #[73] ty #[.slice (some ⟨g, o + kk, none⟩) (l.length - kk) (c - kk)]).run Try.prog wr = .ok (.tuple #[]) (wr.setCells g (o + kk) (List.replicate (l.length - kk) (.string ByteArray.empty))) := fun ty =>
              Lib.run_clear_slice wr _ 9 ty (.string ByteArray.empty) Try.underlying73 (fun w => by kernel_rfl) rfl rfl g (o + kk) _ _ (by omega) (fun j hj => by
                obtain ⟨⟨sx, ex⟩, _⟩ := hR (kk + j) (by omega)
                rw [Nat.add_assoc, ex]
                rfl) (fun j hj => by
                obtain ⟨_, fx⟩ := hR (kk + j) (by omega)
                rw [Nat.add_assoc]
                exact fx)
            have hkc : kk ≤ c := by omega
            have hkl2 : kk ≤ l.length := by omega
            have hml2 : kk < l.length := by omega
            have hgf := grownB_trans hgr (setCells_grownBy g (List.replicate (l.length - kk) (.string ByteArray.empty)) (o + kk) wr)
            clear hR
            go_wp2
            go_ret
            exact ⟨kk, hml2, rfl, hgf⟩
      · have hne : (s1.toList == s0.toList) = false := by simpa using fun h => hs (sameB h)
        go_wp2
        go_region
        go_wp2
        exact ⟨⟨k + 1, m + 1, by simp, by rw [HM.out], by omega, hB.drew, HA.out hne⟩, by simp [intOf]; omega⟩
    · exact absurd (fun j hj => hap j hj (by omega)) HN.out
end Go.Proofs.Ytlelckdcmlpmdaa
/- node.check, of a node that may not be: it gives up. -/
namespace Go.Proofs.Ytlelckdcmlpmdaa
open Go Go.RowKit Lou

/-- Where an own row lies. -/
theorem own_row {w : World} {b c : Nat} {A : Option Addr} {l : List ByteArray} (h : w.ownsRow b 9 1 (.slice A l.length c) l.length (skC l)) (h0 : 0 < l.length) : ∃ g, A = some ⟨g, 0, none⟩ ∧ b ≤ g ∧ g < w.heap.size ∧ InG w w.heap.size 1 (some ⟨g, 0, none⟩) l.length c (skC l) ∧ ∀ j, j < l.length → w.frozen? ⟨g, 0 + j, none⟩ = false := by
  rcases h.2 with ⟨e1, e2⟩ | ⟨g, cap, cur, hv, hb, hg, hle, hm, hs, ht⟩
  · omega
  · obtain ⟨A', c', e, hin⟩ := ownG_in h (skC_one l)
    injection hv with hv1 hv2 hv3
    subst hv1 hv3
    injection e with e1 e2 e3
    subst e1 e3
    exact ⟨g, rfl, hb, (Array.getElem?_eq_some_iff.1 hg).1, hin, fun j _ => World.ownsRow.frozenAt (w := w) h (0 + j)⟩
theorem must_gives (w : World) (b : Bool) (n : Int) : Calls Try.prog 115 #[.bool b, .int .i64 n] w fun e w' => w = w' ∧ (b = true → ∃ v, e = .returned v) ∧ (b = false → e = .panicked [gave n false]) := by
  cases b with
  | true => exact (must_ok w n).mono fun e w' h => ⟨h.2, fun _ => h.1, (fun e => by cases e)⟩
  | false => exact (must_no w n).mono fun e w' h => ⟨h.2, (fun e => by cases e), fun _ => h.1⟩
set_option maxRecDepth 100000 in
set_option maxHeartbeats 4000000 in
theorem check_unsorted (w : World) (x : Nod) (Ac : Option Addr) (cc : Nat) (Ak : Option Addr) (ck : Nat) (Ai : Option Addr) (ci : Nat) (h : NIs w w.heap.size x Ac cc Ak ck Ai ci) (hl : x.cells.length ≤ 1000000) (hl2 : x.keys.length ≤ 1000000) (hl3 : x.kids.length ≤ 1000000) (hno : ¬ SortedS (nkeys x)) :
    Calls Try.prog 169 #[.agg (nodC x Ac cc Ak ck Ai ci)] w (GaveOut w 2) := by
  have b0 := BlkIs.new w 76 (nodC x Ac cc Ak ck Ai ci)
  have hB : Below w.heap.size w (w.alloc (.cells (nodC x Ac cc Ak ck Ai ci) 76)) := (Below.refl _ w).alloc (Nat.le_refl _) _
  have h1 := h.grow hB
  have HK := keys_gives _ x Ac cc Ak ck Ai ci h1 hl
  have hln := nkeys_len hl hl2
  generalize nkeys x = ks at *
  have HSO := Lib.hid hno
  clear hno
  unfold GaveOut
  unfold nodC at *
  go_enter Try.func169, Try.ntmps169
  go_wp2_with (first
    | (refine wp_loadW rfl 76 (.tmp 1) rfl w.heap.size rfl rowNod b0 (by rfl) ?_)
    | (go_at_call 110; refine HK.mono ?_; rintro e w2 ⟨A, c, rfl, hin2, hB2⟩)
    | (go_at_call 193; refine (sortedS_gives w2 A c ks hin2 hln).mono ?_; rintro e w3 ⟨r3, rfl, hB3, hr3⟩; obtain rfl : r3 = false := (by cases r3 with | false => rfl | true => exact absurd (hr3.1 rfl) HSO.out); clear hr3)
    | (go_at_call 115; refine (must_gives _ _ _).mono ?_; rintro e w7 ⟨rfl, h7⟩; first | (obtain ⟨v7, rfl⟩ := h7.1 rfl) | (obtain rfl := h7.2 rfl)))
  exact ⟨rfl, rfl, hB.trans ((hB2.trans (hB3.mono hB2.size)).mono hB.size)⟩
set_option maxRecDepth 100000 in
set_option maxHeartbeats 4000000 in
theorem check_same (w : World) (x : Nod) (Ac : Option Addr) (cc : Nat) (Ak : Option Addr) (ck : Nat) (Ai : Option Addr) (ci : Nat) (h : NIs w w.heap.size x Ac cc Ak ck Ai ci) (hl : x.cells.length ≤ 1000000) (hl2 : x.keys.length ≤ 1000000) (hl3 : x.kids.length ≤ 1000000) (hso : SortedS (nkeys x)) (hno : ¬ ApartS (nkeys x)) :
    Calls Try.prog 169 #[.agg (nodC x Ac cc Ak ck Ai ci)] w (GaveOut w 2) := by
  have b0 := BlkIs.new w 76 (nodC x Ac cc Ak ck Ai ci)
  have hB : Below w.heap.size w (w.alloc (.cells (nodC x Ac cc Ak ck Ai ci) 76)) := (Below.refl _ w).alloc (Nat.le_refl _) _
  have h1 := h.grow hB
  have HK := keys_gives _ x Ac cc Ak ck Ai ci h1 hl
  have hln := nkeys_len hl hl2
  generalize nkeys x = ks at *
  have h2 : 0 < ks.length := by
    rcases Nat.eq_zero_or_pos ks.length with e | e
    · exact absurd (fun j hj => by omega) hno
    · exact e
  have HSO := Lib.hid hso
  have HAP := Lib.hid hno
  clear hso hno
  unfold GaveOut
  unfold nodC at *
  go_enter Try.func169, Try.ntmps169
  go_wp2_with (first
    | (refine wp_loadW rfl 76 (.tmp 1) rfl w.heap.size rfl rowNod b0 (by rfl) ?_)
    | (go_at_call 110; refine HK.mono ?_; rintro e w2 ⟨A, c, rfl, hin2, hB2⟩)
    | (go_at_call 193; refine (sortedS_gives w2 A c ks hin2 hln).mono ?_; rintro e w3 ⟨r3, rfl, hB3, hr3⟩; obtain rfl : r3 = true := hr3.2 HSO.out; clear hr3)
    | (go_at_call 111; refine (sclone_gives w3 A c ks (hin2.grow hB3) hln).mono ?_; rintro e w4 ⟨A4, c4, rfl, own4, hB4⟩)
    | (go_at_call 194; obtain ⟨g4, rfl, hg4, hlt4, hin4, hfr4⟩ := own_row own4 h2; refine (compact_less w4 w4.heap.size g4 0 c4 ks hin4 (Nat.le_refl _) hlt4 hfr4 hln HAP.out).mono ?_; rintro e w5 ⟨m5, hm5, rfl, hg5⟩; have hne5 : ¬ (m5 : Int) = (ks.length : Int) := (by omega))
    | (go_at_call 115; refine (must_gives _ _ _).mono ?_; rintro e w7 ⟨rfl, h7⟩; first | (obtain ⟨v7, rfl⟩ := h7.1 rfl) | (obtain rfl := h7.2 rfl)))
  exact ⟨rfl, rfl, hB.trans ((hB2.trans ((hB3.trans ((hB4.trans (grown_below hg5 hB4.size (fun r e => by injection e with e; omega))).mono hB3.size)).mono hB2.size)).mono hB.size)⟩
set_option maxRecDepth 100000 in
set_option maxHeartbeats 4000000 in
theorem check_long (w : World) (x : Nod) (Ac : Option Addr) (cc : Nat) (Ak : Option Addr) (ck : Nat) (Ai : Option Addr) (ci : Nat) (h : NIs w w.heap.size x Ac cc Ak ck Ai ci) (hl : x.cells.length ≤ 1000000) (hl2 : x.keys.length ≤ 1000000) (hl3 : x.kids.length ≤ 1000000) (hso : SortedS (nkeys x)) (hap : ApartS (nkeys x)) (hno : ¬ ∀ s ∈ nkeys x, shortS s = true) :
    Calls Try.prog 169 #[.agg (nodC x Ac cc Ak ck Ai ci)] w (GaveOut w 2) := by
  have b0 := BlkIs.new w 76 (nodC x Ac cc Ak ck Ai ci)
  have hB : Below w.heap.size w (w.alloc (.cells (nodC x Ac cc Ak ck Ai ci) 76)) := (Below.refl _ w).alloc (Nat.le_refl _) _
  have h1 := h.grow hB
  have HK := keys_gives _ x Ac cc Ak ck Ai ci h1 hl
  have hln := nkeys_len hl hl2
  generalize nkeys x = ks at *
  have HSO := Lib.hid hso
  have HAP := Lib.hid hap
  have HSH := Lib.hid hno
  clear hso hap hno
  unfold GaveOut
  unfold nodC at *
  go_enter Try.func169, Try.ntmps169
  go_wp2_with (first
    | (refine wp_loadW rfl 76 (.tmp 1) rfl w.heap.size rfl rowNod b0 (by rfl) ?_)
    | (go_at_call 110; refine HK.mono ?_; rintro e w2 ⟨A, c, rfl, hin2, hB2⟩)
    | (go_at_call 193; refine (sortedS_gives w2 A c ks hin2 hln).mono ?_; rintro e w3 ⟨r3, rfl, hB3, hr3⟩; obtain rfl : r3 = true := hr3.2 HSO.out; clear hr3)
    | (go_at_call 111; refine (sclone_gives w3 A c ks (hin2.grow hB3) hln).mono ?_; rintro e w4 ⟨A4, c4, rfl, own4, hB4⟩)
    | (go_at_call 194; obtain ⟨A5, c5, e5, hin4⟩ := ownG_in own4 (skC_one _); injection e5 with e51 e52 e53; subst e51 e53; refine (compact_same w4 A4 c4 ks hin4 hln HAP.out).mono ?_; rintro e w5 ⟨rfl, hB5⟩)
    | (go_at_call 195; refine (eachS_gives w5 A c ks ((((hin2.grow hB3).grow hB4)).grow hB5) hln).mono ?_; rintro e w6 ⟨r6, rfl, hB6, hr6⟩; obtain rfl : r6 = false := (by cases r6 with | false => rfl | true => exact absurd (hr6.1 rfl) HSH.out); clear hr6; have hB16 := hB2.trans ((hB3.trans ((hB4.trans ((hB5.trans (hB6.mono hB5.size)).mono hB4.size)).mono hB3.size)).mono hB2.size))
    | (go_at_call 115; refine (must_gives _ _ _).mono ?_; rintro e w7 ⟨rfl, h7⟩; first | (obtain ⟨v7, rfl⟩ := h7.1 rfl) | (obtain rfl := h7.2 rfl)))
  exact ⟨rfl, rfl, hB.trans (hB16.mono hB.size)⟩
set_option maxRecDepth 100000 in
set_option maxHeartbeats 4000000 in
theorem check_leaf1 (w : World) (x : Nod) (Ac : Option Addr) (cc : Nat) (Ak : Option Addr) (ck : Nat) (Ai : Option Addr) (ci : Nat) (h : NIs w w.heap.size x Ac cc Ak ck Ai ci) (hl : x.cells.length ≤ 1000000) (hl2 : x.keys.length ≤ 1000000) (hl3 : x.kids.length ≤ 1000000) (hso : SortedS (nkeys x)) (hap : ApartS (nkeys x)) (hsh : ∀ s ∈ nkeys x, shortS s = true) (hlf : x.leaf = true) (hno : x.keys.length + x.kids.length ≠ 0) :
    Calls Try.prog 169 #[.agg (nodC x Ac cc Ak ck Ai ci)] w (GaveOut w 2) := by
  have b0 := BlkIs.new w 76 (nodC x Ac cc Ak ck Ai ci)
  have hB : Below w.heap.size w (w.alloc (.cells (nodC x Ac cc Ak ck Ai ci) 76)) := (Below.refl _ w).alloc (Nat.le_refl _) _
  have h1 := h.grow hB
  have HK := keys_gives _ x Ac cc Ak ck Ai ci h1 hl
  have hln := nkeys_len hl hl2
  generalize nkeys x = ks at *
  have HSO := Lib.hid hso
  have HAP := Lib.hid hap
  have HSH := Lib.hid hsh
  clear hso hap hsh
  obtain ⟨leaf, cells, keys, kids⟩ := x
  simp only at *
  subst hlf
  have g1 : IntKind.i64.wrap ((keys.length : Int) + (kids.length : Int)) = (keys.length : Int) + (kids.length : Int) := wrapN _ (by omega) (by omega)
  have g2 : ¬ (keys.length : Int) + (kids.length : Int) = 0 := by omega
  clear hno
  unfold GaveOut
  unfold nodC at *
  go_enter Try.func169, Try.ntmps169
  go_wp2_with (first
    | (refine wp_loadW rfl 76 (.tmp 1) rfl w.heap.size rfl rowNod b0 (by rfl) ?_)
    | (go_at_call 110; refine HK.mono ?_; rintro e w2 ⟨A, c, rfl, hin2, hB2⟩)
    | (go_at_call 193; refine (sortedS_gives w2 A c ks hin2 hln).mono ?_; rintro e w3 ⟨r3, rfl, hB3, hr3⟩; obtain rfl : r3 = true := hr3.2 HSO.out; clear hr3)
    | (go_at_call 111; refine (sclone_gives w3 A c ks (hin2.grow hB3) hln).mono ?_; rintro e w4 ⟨A4, c4, rfl, own4, hB4⟩)
    | (go_at_call 194; obtain ⟨A5, c5, e5, hin4⟩ := ownG_in own4 (skC_one _); injection e5 with e51 e52 e53; subst e51 e53; refine (compact_same w4 A4 c4 ks hin4 hln HAP.out).mono ?_; rintro e w5 ⟨rfl, hB5⟩)
    | (go_at_call 195; refine (eachS_gives w5 A c ks ((((hin2.grow hB3).grow hB4)).grow hB5) hln).mono ?_; rintro e w6 ⟨r6, rfl, hB6, hr6⟩; obtain rfl : r6 = true := hr6.2 HSH.out; clear hr6; have hB16 := hB2.trans ((hB3.trans ((hB4.trans ((hB5.trans (hB6.mono hB5.size)).mono hB4.size)).mono hB3.size)).mono hB2.size); have b6 := b0.below hB16 b0.lt; have k0 : w6.cell? ⟨w.heap.size, 0, none⟩ = some (.bool true) := (by rw [b6.cell]; rfl); have k1 : w6.cell? ⟨w.heap.size, 1, none⟩ = some (.slice Ac cells.length cc) := (by rw [b6.cell]; rfl); have k2 : w6.cell? ⟨w.heap.size, 2, none⟩ = some (.slice Ak keys.length ck) := (by rw [b6.cell]; rfl); have k3 : w6.cell? ⟨w.heap.size, 3, none⟩ = some (.slice Ai kids.length ci) := (by rw [b6.cell]; rfl)))
  refine (must_gives _ _ _).mono ?_
  rintro e w7 ⟨rfl, h7⟩
  obtain ⟨v7, rfl⟩ := h7.1 rfl
  go_wp2_with (first
    | (go_at_call 115; refine (must_gives _ _ _).mono ?_; rintro e w7 ⟨rfl, h7⟩; first | (obtain ⟨v7, rfl⟩ := h7.1 rfl) | (obtain rfl := h7.2 rfl)))
  exact ⟨rfl, rfl, hB.trans (hB16.mono hB.size)⟩
set_option maxRecDepth 100000 in
set_option maxHeartbeats 4000000 in
theorem check_leaf2 (w : World) (x : Nod) (Ac : Option Addr) (cc : Nat) (Ak : Option Addr) (ck : Nat) (Ai : Option Addr) (ci : Nat) (h : NIs w w.heap.size x Ac cc Ak ck Ai ci) (hl : x.cells.length ≤ 1000000) (hl2 : x.keys.length ≤ 1000000) (hl3 : x.kids.length ≤ 1000000) (hso : SortedS (nkeys x)) (hap : ApartS (nkeys x)) (hsh : ∀ s ∈ nkeys x, shortS s = true) (hlf : x.leaf = true) (he : x.keys.length = 0 ∧ x.kids.length = 0) (hno : ¬ ∀ c ∈ x.cells, rightB c = true) :
    Calls Try.prog 169 #[.agg (nodC x Ac cc Ak ck Ai ci)] w (GaveOut w 2) := by
  have b0 := BlkIs.new w 76 (nodC x Ac cc Ak ck Ai ci)
  have hB : Below w.heap.size w (w.alloc (.cells (nodC x Ac cc Ak ck Ai ci) 76)) := (Below.refl _ w).alloc (Nat.le_refl _) _
  have h1 := h.grow hB
  have HK := keys_gives _ x Ac cc Ak ck Ai ci h1 hl
  have hln := nkeys_len hl hl2
  generalize nkeys x = ks at *
  have HSO := Lib.hid hso
  have HAP := Lib.hid hap
  have HSH := Lib.hid hsh
  clear hso hap hsh
  obtain ⟨leaf, cells, keys, kids⟩ := x
  simp only at *
  subst hlf
  obtain ⟨he1, he2⟩ := he
  obtain rfl := List.eq_nil_of_length_eq_zero he1
  obtain rfl := List.eq_nil_of_length_eq_zero he2
  have HCR := Lib.hid hno
  clear hno he1 he2
  unfold GaveOut
  unfold nodC at *
  go_enter Try.func169, Try.ntmps169
  go_wp2_with (first
    | (refine wp_loadW rfl 76 (.tmp 1) rfl w.heap.size rfl rowNod b0 (by rfl) ?_)
    | (go_at_call 110; refine HK.mono ?_; rintro e w2 ⟨A, c, rfl, hin2, hB2⟩)
    | (go_at_call 193; refine (sortedS_gives w2 A c ks hin2 hln).mono ?_; rintro e w3 ⟨r3, rfl, hB3, hr3⟩; obtain rfl : r3 = true := hr3.2 HSO.out; clear hr3)
    | (go_at_call 111; refine (sclone_gives w3 A c ks (hin2.grow hB3) hln).mono ?_; rintro e w4 ⟨A4, c4, rfl, own4, hB4⟩)
    | (go_at_call 194; obtain ⟨A5, c5, e5, hin4⟩ := ownG_in own4 (skC_one _); injection e5 with e51 e52 e53; subst e51 e53; refine (compact_same w4 A4 c4 ks hin4 hln HAP.out).mono ?_; rintro e w5 ⟨rfl, hB5⟩)
    | (go_at_call 195; refine (eachS_gives w5 A c ks ((((hin2.grow hB3).grow hB4)).grow hB5) hln).mono ?_; rintro e w6 ⟨r6, rfl, hB6, hr6⟩; obtain rfl : r6 = true := hr6.2 HSH.out; clear hr6; have hB16 := hB2.trans ((hB3.trans ((hB4.trans ((hB5.trans (hB6.mono hB5.size)).mono hB4.size)).mono hB3.size)).mono hB2.size); have b6 := b0.below hB16 b0.lt; have k0 : w6.cell? ⟨w.heap.size, 0, none⟩ = some (.bool true) := (by rw [b6.cell]; rfl); have k1 : w6.cell? ⟨w.heap.size, 1, none⟩ = some (.slice Ac cells.length cc) := (by rw [b6.cell]; rfl); have k2 : w6.cell? ⟨w.heap.size, 2, none⟩ = some (.slice Ak 0 ck) := (by rw [b6.cell]; rfl); have k3 : w6.cell? ⟨w.heap.size, 3, none⟩ = some (.slice Ai 0 ci) := (by rw [b6.cell]; rfl)))
  refine (must_gives _ _ _).mono ?_
  rintro e w7 ⟨rfl, h7⟩
  obtain ⟨v7, rfl⟩ := h7.1 rfl
  go_wp2_with (first
    | (go_at_call 197; refine (eachC_gives w6 Ac cc cells (h1.c.grow hB16) hl).mono ?_; rintro e w8 ⟨r8, rfl, hB8, hr8⟩; obtain rfl : r8 = false := (by cases r8 with | false => rfl | true => exact absurd (hr8.1 rfl) HCR.out); clear hr8)
    | (go_at_call 115; refine (must_gives _ _ _).mono ?_; rintro e w7 ⟨rfl, h7⟩; first | (obtain ⟨v7, rfl⟩ := h7.1 rfl) | (obtain rfl := h7.2 rfl)))
  exact ⟨rfl, rfl, (hB.trans (hB16.mono hB.size)).trans (hB8.mono (hB.trans (hB16.mono hB.size)).size)⟩
set_option maxRecDepth 100000 in
set_option maxHeartbeats 4000000 in
theorem check_inner1 (w : World) (x : Nod) (Ac : Option Addr) (cc : Nat) (Ak : Option Addr) (ck : Nat) (Ai : Option Addr) (ci : Nat) (h : NIs w w.heap.size x Ac cc Ak ck Ai ci) (hl : x.cells.length ≤ 1000000) (hl2 : x.keys.length ≤ 1000000) (hl3 : x.kids.length ≤ 1000000) (hso : SortedS (nkeys x)) (hap : ApartS (nkeys x)) (hsh : ∀ s ∈ nkeys x, shortS s = true) (hlf : x.leaf = false) (hno : x.cells.length ≠ 0) :
    Calls Try.prog 169 #[.agg (nodC x Ac cc Ak ck Ai ci)] w (GaveOut w 2) := by
  have b0 := BlkIs.new w 76 (nodC x Ac cc Ak ck Ai ci)
  have hB : Below w.heap.size w (w.alloc (.cells (nodC x Ac cc Ak ck Ai ci) 76)) := (Below.refl _ w).alloc (Nat.le_refl _) _
  have h1 := h.grow hB
  have HK := keys_gives _ x Ac cc Ak ck Ai ci h1 hl
  have hln := nkeys_len hl hl2
  generalize nkeys x = ks at *
  have HSO := Lib.hid hso
  have HAP := Lib.hid hap
  have HSH := Lib.hid hsh
  clear hso hap hsh
  obtain ⟨leaf, cells, keys, kids⟩ := x
  simp only at *
  subst hlf
  have g2 : ¬ (cells.length : Int) = 0 := by omega
  have g3 : ¬ cells.length = 0 := hno
  clear hno
  unfold GaveOut
  unfold nodC at *
  go_enter Try.func169, Try.ntmps169
  go_wp2_with (first
    | (refine wp_loadW rfl 76 (.tmp 1) rfl w.heap.size rfl rowNod b0 (by rfl) ?_)
    | (go_at_call 110; refine HK.mono ?_; rintro e w2 ⟨A, c, rfl, hin2, hB2⟩)
    | (go_at_call 193; refine (sortedS_gives w2 A c ks hin2 hln).mono ?_; rintro e w3 ⟨r3, rfl, hB3, hr3⟩; obtain rfl : r3 = true := hr3.2 HSO.out; clear hr3)
    | (go_at_call 111; refine (sclone_gives w3 A c ks (hin2.grow hB3) hln).mono ?_; rintro e w4 ⟨A4, c4, rfl, own4, hB4⟩)
    | (go_at_call 194; obtain ⟨A5, c5, e5, hin4⟩ := ownG_in own4 (skC_one _); injection e5 with e51 e52 e53; subst e51 e53; refine (compact_same w4 A4 c4 ks hin4 hln HAP.out).mono ?_; rintro e w5 ⟨rfl, hB5⟩)
    | (go_at_call 195; refine (eachS_gives w5 A c ks ((((hin2.grow hB3).grow hB4)).grow hB5) hln).mono ?_; rintro e w6 ⟨r6, rfl, hB6, hr6⟩; obtain rfl : r6 = true := hr6.2 HSH.out; clear hr6; have hB16 := hB2.trans ((hB3.trans ((hB4.trans ((hB5.trans (hB6.mono hB5.size)).mono hB4.size)).mono hB3.size)).mono hB2.size); have b6 := b0.below hB16 b0.lt; have k0 : w6.cell? ⟨w.heap.size, 0, none⟩ = some (.bool false) := (by rw [b6.cell]; rfl); have k1 : w6.cell? ⟨w.heap.size, 1, none⟩ = some (.slice Ac cells.length cc) := (by rw [b6.cell]; rfl); have k2 : w6.cell? ⟨w.heap.size, 2, none⟩ = some (.slice Ak keys.length ck) := (by rw [b6.cell]; rfl); have k3 : w6.cell? ⟨w.heap.size, 3, none⟩ = some (.slice Ai kids.length ci) := (by rw [b6.cell]; rfl)))
  refine (must_gives _ _ _).mono ?_
  rintro e w7 ⟨rfl, h7⟩
  obtain ⟨v7, rfl⟩ := h7.1 rfl
  go_wp2_with (first
    | (go_at_call 115; refine (must_gives _ _ _).mono ?_; rintro e w7 ⟨rfl, h7⟩; first | (obtain ⟨v7, rfl⟩ := h7.1 rfl) | (obtain rfl := h7.2 rfl)))
  exact ⟨rfl, rfl, hB.trans (hB16.mono hB.size)⟩
set_option maxRecDepth 100000 in
set_option maxHeartbeats 4000000 in
theorem check_inner2 (w : World) (x : Nod) (Ac : Option Addr) (cc : Nat) (Ak : Option Addr) (ck : Nat) (Ai : Option Addr) (ci : Nat) (h : NIs w w.heap.size x Ac cc Ak ck Ai ci) (hl : x.cells.length ≤ 1000000) (hl2 : x.keys.length ≤ 1000000) (hl3 : x.kids.length ≤ 1000000) (hso : SortedS (nkeys x)) (hap : ApartS (nkeys x)) (hsh : ∀ s ∈ nkeys x, shortS s = true) (hlf : x.leaf = false) (he : x.cells.length = 0) (hno : x.keys.length = 0) :
    Calls Try.prog 169 #[.agg (nodC x Ac cc Ak ck Ai ci)] w (GaveOut w 2) := by
  have b0 := BlkIs.new w 76 (nodC x Ac cc Ak ck Ai ci)
  have hB : Below w.heap.size w (w.alloc (.cells (nodC x Ac cc Ak ck Ai ci) 76)) := (Below.refl _ w).alloc (Nat.le_refl _) _
  have h1 := h.grow hB
  have HK := keys_gives _ x Ac cc Ak ck Ai ci h1 hl
  have hln := nkeys_len hl hl2
  generalize nkeys x = ks at *
  have HSO := Lib.hid hso
  have HAP := Lib.hid hap
  have HSH := Lib.hid hsh
  clear hso hap hsh
  obtain ⟨leaf, cells, keys, kids⟩ := x
  simp only at *
  subst hlf
  obtain rfl := List.eq_nil_of_length_eq_zero he
  obtain rfl := List.eq_nil_of_length_eq_zero hno
  clear hno he
  unfold GaveOut
  unfold nodC at *
  go_enter Try.func169, Try.ntmps169
  go_wp2_with (first
    | (refine wp_loadW rfl 76 (.tmp 1) rfl w.heap.size rfl rowNod b0 (by rfl) ?_)
    | (go_at_call 110; refine HK.mono ?_; rintro e w2 ⟨A, c, rfl, hin2, hB2⟩)
    | (go_at_call 193; refine (sortedS_gives w2 A c ks hin2 hln).mono ?_; rintro e w3 ⟨r3, rfl, hB3, hr3⟩; obtain rfl : r3 = true := hr3.2 HSO.out; clear hr3)
    | (go_at_call 111; refine (sclone_gives w3 A c ks (hin2.grow hB3) hln).mono ?_; rintro e w4 ⟨A4, c4, rfl, own4, hB4⟩)
    | (go_at_call 194; obtain ⟨A5, c5, e5, hin4⟩ := ownG_in own4 (skC_one _); injection e5 with e51 e52 e53; subst e51 e53; refine (compact_same w4 A4 c4 ks hin4 hln HAP.out).mono ?_; rintro e w5 ⟨rfl, hB5⟩)
    | (go_at_call 195; refine (eachS_gives w5 A c ks ((((hin2.grow hB3).grow hB4)).grow hB5) hln).mono ?_; rintro e w6 ⟨r6, rfl, hB6, hr6⟩; obtain rfl : r6 = true := hr6.2 HSH.out; clear hr6; have hB16 := hB2.trans ((hB3.trans ((hB4.trans ((hB5.trans (hB6.mono hB5.size)).mono hB4.size)).mono hB3.size)).mono hB2.size); have b6 := b0.below hB16 b0.lt; have k0 : w6.cell? ⟨w.heap.size, 0, none⟩ = some (.bool false) := (by rw [b6.cell]; rfl); have k1 : w6.cell? ⟨w.heap.size, 1, none⟩ = some (.slice Ac 0 cc) := (by rw [b6.cell]; rfl); have k2 : w6.cell? ⟨w.heap.size, 2, none⟩ = some (.slice Ak 0 ck) := (by rw [b6.cell]; rfl); have k3 : w6.cell? ⟨w.heap.size, 3, none⟩ = some (.slice Ai kids.length ci) := (by rw [b6.cell]; rfl)))
  refine (must_gives _ _ _).mono ?_
  rintro e w7 ⟨rfl, h7⟩
  obtain ⟨v7, rfl⟩ := h7.1 rfl
  go_wp2_with (first
    | (go_at_call 115; refine (must_gives _ _ _).mono ?_; rintro e w7 ⟨rfl, h7⟩; first | (obtain ⟨v7, rfl⟩ := h7.1 rfl) | (obtain rfl := h7.2 rfl)))
  exact ⟨rfl, rfl, hB.trans (hB16.mono hB.size)⟩
set_option maxRecDepth 100000 in
set_option maxHeartbeats 4000000 in
theorem check_inner3 (w : World) (x : Nod) (Ac : Option Addr) (cc : Nat) (Ak : Option Addr) (ck : Nat) (Ai : Option Addr) (ci : Nat) (h : NIs w w.heap.size x Ac cc Ak ck Ai ci) (hl : x.cells.length ≤ 1000000) (hl2 : x.keys.length ≤ 1000000) (hl3 : x.kids.length ≤ 1000000) (hso : SortedS (nkeys x)) (hap : ApartS (nkeys x)) (hsh : ∀ s ∈ nkeys x, shortS s = true) (hlf : x.leaf = false) (he : x.cells.length = 0) (hk : 0 < x.keys.length) (hno : x.kids.length ≠ x.keys.length + 1) :
    Calls Try.prog 169 #[.agg (nodC x Ac cc Ak ck Ai ci)] w (GaveOut w 2) := by
  have b0 := BlkIs.new w 76 (nodC x Ac cc Ak ck Ai ci)
  have hB : Below w.heap.size w (w.alloc (.cells (nodC x Ac cc Ak ck Ai ci) 76)) := (Below.refl _ w).alloc (Nat.le_refl _) _
  have h1 := h.grow hB
  have HK := keys_gives _ x Ac cc Ak ck Ai ci h1 hl
  have hln := nkeys_len hl hl2
  generalize nkeys x = ks at *
  have HSO := Lib.hid hso
  have HAP := Lib.hid hap
  have HSH := Lib.hid hsh
  clear hso hap hsh
  obtain ⟨leaf, cells, keys, kids⟩ := x
  simp only at *
  subst hlf
  obtain rfl := List.eq_nil_of_length_eq_zero he
  have g1 : (0 : Int) < (keys.length : Int) := by omega
  have g2 : IntKind.i64.wrap ((keys.length : Int) + 1) = (keys.length : Int) + 1 := wrapN _ (by omega) (by omega)
  have g3 : ¬ (kids.length : Int) = (keys.length : Int) + 1 := by omega
  clear hno he hk
  unfold GaveOut
  unfold nodC at *
  go_enter Try.func169, Try.ntmps169
  go_wp2_with (first
    | (refine wp_loadW rfl 76 (.tmp 1) rfl w.heap.size rfl rowNod b0 (by rfl) ?_)
    | (go_at_call 110; refine HK.mono ?_; rintro e w2 ⟨A, c, rfl, hin2, hB2⟩)
    | (go_at_call 193; refine (sortedS_gives w2 A c ks hin2 hln).mono ?_; rintro e w3 ⟨r3, rfl, hB3, hr3⟩; obtain rfl : r3 = true := hr3.2 HSO.out; clear hr3)
    | (go_at_call 111; refine (sclone_gives w3 A c ks (hin2.grow hB3) hln).mono ?_; rintro e w4 ⟨A4, c4, rfl, own4, hB4⟩)
    | (go_at_call 194; obtain ⟨A5, c5, e5, hin4⟩ := ownG_in own4 (skC_one _); injection e5 with e51 e52 e53; subst e51 e53; refine (compact_same w4 A4 c4 ks hin4 hln HAP.out).mono ?_; rintro e w5 ⟨rfl, hB5⟩)
    | (go_at_call 195; refine (eachS_gives w5 A c ks ((((hin2.grow hB3).grow hB4)).grow hB5) hln).mono ?_; rintro e w6 ⟨r6, rfl, hB6, hr6⟩; obtain rfl : r6 = true := hr6.2 HSH.out; clear hr6; have hB16 := hB2.trans ((hB3.trans ((hB4.trans ((hB5.trans (hB6.mono hB5.size)).mono hB4.size)).mono hB3.size)).mono hB2.size); have b6 := b0.below hB16 b0.lt; have k0 : w6.cell? ⟨w.heap.size, 0, none⟩ = some (.bool false) := (by rw [b6.cell]; rfl); have k1 : w6.cell? ⟨w.heap.size, 1, none⟩ = some (.slice Ac 0 cc) := (by rw [b6.cell]; rfl); have k2 : w6.cell? ⟨w.heap.size, 2, none⟩ = some (.slice Ak keys.length ck) := (by rw [b6.cell]; rfl); have k3 : w6.cell? ⟨w.heap.size, 3, none⟩ = some (.slice Ai kids.length ci) := (by rw [b6.cell]; rfl)))
  refine (must_gives _ _ _).mono ?_
  rintro e w7 ⟨rfl, h7⟩
  obtain ⟨v7, rfl⟩ := h7.1 rfl
  go_wp2_with (first
    | (go_at_call 115; refine (must_gives _ _ _).mono ?_; rintro e w7 ⟨rfl, h7⟩; first | (obtain ⟨v7, rfl⟩ := h7.1 rfl) | (obtain rfl := h7.2 rfl)))
  exact ⟨rfl, rfl, hB.trans (hB16.mono hB.size)⟩
set_option maxRecDepth 100000 in
set_option maxHeartbeats 4000000 in
theorem check_inner4 (w : World) (x : Nod) (Ac : Option Addr) (cc : Nat) (Ak : Option Addr) (ck : Nat) (Ai : Option Addr) (ci : Nat) (h : NIs w w.heap.size x Ac cc Ak ck Ai ci) (hl : x.cells.length ≤ 1000000) (hl2 : x.keys.length ≤ 1000000) (hl3 : x.kids.length ≤ 1000000) (hso : SortedS (nkeys x)) (hap : ApartS (nkeys x)) (hsh : ∀ s ∈ nkeys x, shortS s = true) (hlf : x.leaf = false) (he : x.cells.length = 0) (hk : 0 < x.keys.length) (hk2 : x.kids.length = x.keys.length + 1) (hno : ¬ ∀ i ∈ x.kids, pageB i = true) :
    Calls Try.prog 169 #[.agg (nodC x Ac cc Ak ck Ai ci)] w (GaveOut w 2) := by
  have b0 := BlkIs.new w 76 (nodC x Ac cc Ak ck Ai ci)
  have hB : Below w.heap.size w (w.alloc (.cells (nodC x Ac cc Ak ck Ai ci) 76)) := (Below.refl _ w).alloc (Nat.le_refl _) _
  have h1 := h.grow hB
  have HK := keys_gives _ x Ac cc Ak ck Ai ci h1 hl
  have hln := nkeys_len hl hl2
  generalize nkeys x = ks at *
  have HSO := Lib.hid hso
  have HAP := Lib.hid hap
  have HSH := Lib.hid hsh
  clear hso hap hsh
  obtain ⟨leaf, cells, keys, kids⟩ := x
  simp only at *
  subst hlf
  obtain rfl := List.eq_nil_of_length_eq_zero he
  have g1 : (0 : Int) < (keys.length : Int) := by omega
  have g2 : IntKind.i64.wrap ((keys.length : Int) + 1) = (kids.length : Int) := by rw [wrapN _ (by omega) (by omega)]; omega
  have HCR := Lib.hid hno
  clear hno he hk hk2
  unfold GaveOut
  unfold nodC at *
  go_enter Try.func169, Try.ntmps169
  go_wp2_with (first
    | (refine wp_loadW rfl 76 (.tmp 1) rfl w.heap.size rfl rowNod b0 (by rfl) ?_)
    | (go_at_call 110; refine HK.mono ?_; rintro e w2 ⟨A, c, rfl, hin2, hB2⟩)
    | (go_at_call 193; refine (sortedS_gives w2 A c ks hin2 hln).mono ?_; rintro e w3 ⟨r3, rfl, hB3, hr3⟩; obtain rfl : r3 = true := hr3.2 HSO.out; clear hr3)
    | (go_at_call 111; refine (sclone_gives w3 A c ks (hin2.grow hB3) hln).mono ?_; rintro e w4 ⟨A4, c4, rfl, own4, hB4⟩)
    | (go_at_call 194; obtain ⟨A5, c5, e5, hin4⟩ := ownG_in own4 (skC_one _); injection e5 with e51 e52 e53; subst e51 e53; refine (compact_same w4 A4 c4 ks hin4 hln HAP.out).mono ?_; rintro e w5 ⟨rfl, hB5⟩)
    | (go_at_call 195; refine (eachS_gives w5 A c ks ((((hin2.grow hB3).grow hB4)).grow hB5) hln).mono ?_; rintro e w6 ⟨r6, rfl, hB6, hr6⟩; obtain rfl : r6 = true := hr6.2 HSH.out; clear hr6; have hB16 := hB2.trans ((hB3.trans ((hB4.trans ((hB5.trans (hB6.mono hB5.size)).mono hB4.size)).mono hB3.size)).mono hB2.size); have b6 := b0.below hB16 b0.lt; have k0 : w6.cell? ⟨w.heap.size, 0, none⟩ = some (.bool false) := (by rw [b6.cell]; rfl); have k1 : w6.cell? ⟨w.heap.size, 1, none⟩ = some (.slice Ac 0 cc) := (by rw [b6.cell]; rfl); have k2 : w6.cell? ⟨w.heap.size, 2, none⟩ = some (.slice Ak keys.length ck) := (by rw [b6.cell]; rfl); have k3 : w6.cell? ⟨w.heap.size, 3, none⟩ = some (.slice Ai kids.length ci) := (by rw [b6.cell]; rfl)))
  refine (must_gives _ _ _).mono ?_
  rintro e w7 ⟨rfl, h7⟩
  obtain ⟨v7, rfl⟩ := h7.1 rfl
  go_wp2_with (first
    | (go_at_call 199; refine (eachI_gives w6 Ai ci kids (h1.i.grow hB16) hl3).mono ?_; rintro e w8 ⟨r8, rfl, hB8, hr8⟩; obtain rfl : r8 = false := (by cases r8 with | false => rfl | true => exact absurd (hr8.1 rfl) HCR.out); clear hr8)
    | (go_at_call 115; refine (must_gives _ _ _).mono ?_; rintro e w7 ⟨rfl, h7⟩; first | (obtain ⟨v7, rfl⟩ := h7.1 rfl) | (obtain rfl := h7.2 rfl)))
  exact ⟨rfl, rfl, (hB.trans (hB16.mono hB.size)).trans (hB8.mono (hB.trans (hB16.mono hB.size)).size)⟩
theorem check_no (w : World) (x : Nod) (Ac : Option Addr) (cc : Nat) (Ak : Option Addr) (ck : Nat) (Ai : Option Addr) (ci : Nat) (h : NIs w w.heap.size x Ac cc Ak ck Ai ci) (hl : x.cells.length ≤ 1000000) (hl2 : x.keys.length ≤ 1000000) (hl3 : x.kids.length ≤ 1000000) (hno : ¬ RightP x) :
    Calls Try.prog 169 #[.agg (nodC x Ac cc Ak ck Ai ci)] w (GaveOut w 2) := by
  by_cases h1 : SortedS (nkeys x)
  · by_cases h2 : ApartS (nkeys x)
    · by_cases h3 : ∀ s ∈ nkeys x, shortS s = true
      · cases h4 : x.leaf with
        | true =>
          by_cases h5 : x.keys.length + x.kids.length = 0
          · by_cases h6 : ∀ c ∈ x.cells, rightB c = true
            · exact absurd ⟨h1, h2, h3, fun _ => ⟨List.eq_nil_of_length_eq_zero (by omega), List.eq_nil_of_length_eq_zero (by omega), h6⟩, (fun e => by rw [h4] at e; cases e)⟩ hno
            · exact check_leaf2 w x Ac cc Ak ck Ai ci h hl hl2 hl3 h1 h2 h3 h4 ⟨by omega, by omega⟩ h6
          · exact check_leaf1 w x Ac cc Ak ck Ai ci h hl hl2 hl3 h1 h2 h3 h4 h5
        | false =>
          by_cases h5 : x.cells.length = 0
          · by_cases h6 : x.keys.length = 0
            · exact check_inner2 w x Ac cc Ak ck Ai ci h hl hl2 hl3 h1 h2 h3 h4 h5 h6
            · by_cases h7 : x.kids.length = x.keys.length + 1
              · by_cases h8 : ∀ i ∈ x.kids, pageB i = true
                · exact absurd ⟨h1, h2, h3, (fun e => by rw [h4] at e; cases e), fun _ => ⟨List.eq_nil_of_length_eq_zero h5, by omega, h7, h8⟩⟩ hno
                · exact check_inner4 w x Ac cc Ak ck Ai ci h hl hl2 hl3 h1 h2 h3 h4 h5 (by omega) h7 h8
              · exact check_inner3 w x Ac cc Ak ck Ai ci h hl hl2 hl3 h1 h2 h3 h4 h5 (by omega) h7
          · exact check_inner1 w x Ac cc Ak ck Ai ci h hl hl2 hl3 h1 h2 h3 h4 h5
      · exact check_long w x Ac cc Ak ck Ai ci h hl hl2 hl3 h1 h2 h3
    · exact check_same w x Ac cc Ak ck Ai ci h hl hl2 hl3 h1 h2
  · exact check_unsorted w x Ac cc Ak ck Ai ci h hl hl2 hl3 h1
end Go.Proofs.Ytlelckdcmlpmdaa
/- node.laid, of a node that may not be: it gives up. -/
namespace Go.Proofs.Ytlelckdcmlpmdaa
open Go Go.RowKit Lou

set_option maxRecDepth 100000 in
set_option maxHeartbeats 2000000 in
theorem laid_no (w : World) (x : Nod) (Ac : Option Addr) (cc : Nat) (Ak : Option Addr) (ck : Nat) (Ai : Option Addr) (ci : Nat) (h : NIs w w.heap.size x Ac cc Ak ck Ai ci) (hl : x.cells.length ≤ 1000000) (hl2 : x.keys.length ≤ 1000000) (hl3 : x.kids.length ≤ 1000000) (hno : ¬ RightP x) :
    Calls Try.prog 116 #[.agg (nodC x Ac cc Ak ck Ai ci)] w (GaveOut w 2) := by
  have b0 := BlkIs.new w 76 (nodC x Ac cc Ak ck Ai ci)
  have hB : Below w.heap.size w (w.alloc (.cells (nodC x Ac cc Ak ck Ai ci) 76)) := (Below.refl _ w).alloc (Nat.le_refl _) _
  have HC := check_no _ x Ac cc Ak ck Ai ci (h.grow hB) hl hl2 hl3 hno
  unfold GaveOut at *
  unfold nodC at *
  go_enter Try.func116, Try.ntmps116
  go_wp2_with (first
    | (refine wp_loadW rfl 76 (.tmp 1) rfl w.heap.size rfl rowNod b0 (by rfl) ?_)
    | (go_at_call 169; refine HC.mono ?_; rintro e w2 ⟨rfl, hB2⟩))
  exact ⟨rfl, rfl, hB.trans (hB2.mono hB.size)⟩
end Go.Proofs.Ytlelckdcmlpmdaa
/- node: where a node is split, and its parts (no program in sight). -/
namespace Go.Proofs.Ytlelckdcmlpmdaa
open Go Go.RowKit Lou

theorem blt_refl : ∀ a : List UInt8, Op.bytesLess a a = false
  | [] => by simp [Op.bytesLess]
  | a :: x => by simp [Op.bytesLess, blt_refl x]
theorem blt_trans : ∀ a b c : List UInt8, Op.bytesLess a b = true → Op.bytesLess b c = true → Op.bytesLess a c = true
  | _, [], _, h, _ => by cases ‹List UInt8› <;> simp [Op.bytesLess] at h
  | _, b :: y, [], _, h => by simp [Op.bytesLess] at h
  | [], b :: y, c :: z, _, _ => by simp [Op.bytesLess]
  | a :: x, b :: y, c :: z, h1, h2 => by
    simp only [Op.bytesLess, Bool.or_eq_true, Bool.and_eq_true, decide_eq_true_eq, beq_iff_eq] at *
    rcases h1 with h1 | ⟨rfl, h1⟩
    · rcases h2 with h2 | ⟨rfl, h2⟩
      · exact .inl (UInt8.lt_trans h1 h2)
      · exact .inl h1
    · rcases h2 with h2 | ⟨rfl, h2⟩
      · exact .inl h2
      · exact .inr ⟨rfl, blt_trans x y z h1 h2⟩
theorem blt_tri : ∀ a b : List UInt8, Op.bytesLess b a = false → (b == a) = false → Op.bytesLess a b = true
  | [], [], _, h => by simp at h
  | [], _ :: _, _, _ => by simp [Op.bytesLess]
  | _ :: _, [], h, _ => by simp [Op.bytesLess] at h
  | a :: x, b :: y, h1, h2 => by
    simp only [Op.bytesLess, Bool.or_eq_true, Bool.and_eq_true, decide_eq_true_eq, beq_iff_eq, Bool.or_eq_false_iff, decide_eq_false_iff_not, Bool.and_eq_false_iff, beq_eq_false_iff_ne] at *
    by_cases e : b = a
    · subst e
      refine .inr ⟨rfl, blt_tri x y ?_ ?_⟩
      · rcases h1.2 with h | h
        · exact absurd rfl h
        · exact h
      · rw [beq_eq_false_iff_ne]
        intro e
        exact h2 (by rw [e])
    · left
      rcases Nat.lt_trichotomy a.toNat b.toNat with h | h | h
      · exact UInt8.lt_iff_toNat_lt.2 h
      · exact absurd (UInt8.toNat_inj.1 h).symm e
      · exact absurd (UInt8.lt_iff_toNat_lt.2 h) h1.1
theorem blt_asymm (a b : List UInt8) (h : Op.bytesLess a b = true) : Op.bytesLess b a = false := by
  cases e : Op.bytesLess b a with
  | false => rfl
  | true =>
    have := blt_trans a b a h e
    rw [blt_refl] at this
    cases this
theorem rises_lt {l : List ByteArray} (hs : SortedS l) (ha : ApartS l) : ∀ (d i : Nat) (h : i + 1 + d < l.length), ltS l[i] l[i + 1 + d] = true
  | 0, i, h => blt_tri _ _ (hs i h) (ha i h)
  | d + 1, i, h => blt_trans _ _ _ (rises_lt hs ha d i (by omega)) (blt_tri _ _ (hs (i + 1 + d) h) (ha (i + 1 + d) h))
theorem rises_lt' {l : List ByteArray} (hs : SortedS l) (ha : ApartS l) (i j : Nat) (hij : i < j) (hj : j < l.length) : ltS l[i] l[j] = true := by
  have := rises_lt hs ha (j - i - 1) i (by omega)
  have e : i + 1 + (j - i - 1) = j := by omega
  simp only [e] at this
  exact this
theorem sorted_take {l : List ByteArray} (hs : SortedS l) (k : Nat) : SortedS (l.take k) := fun j h => by
  rw [List.getElem_take, List.getElem_take]
  exact hs j (by simp at h; omega)
theorem apart_take {l : List ByteArray} (hs : ApartS l) (k : Nat) : ApartS (l.take k) := fun j h => by
  rw [List.getElem_take, List.getElem_take]
  exact hs j (by simp at h; omega)
theorem sorted_drop {l : List ByteArray} (hs : SortedS l) (k : Nat) : SortedS (l.drop k) := fun j h => by
  rw [List.getElem_drop, List.getElem_drop]
  exact hs (k + j) (by simp at h; omega)
theorem apart_drop {l : List ByteArray} (hs : ApartS l) (k : Nat) : ApartS (l.drop k) := fun j h => by
  rw [List.getElem_drop, List.getElem_drop]
  exact hs (k + j) (by simp at h; omega)
/-- Both parts of a node that is split; what parts them. -/
def leftN (x : Nod) (k : Nat) : Nod := if x.leaf then ⟨true, x.cells.take k, [], []⟩ else ⟨false, [], x.keys.take k, x.kids.take (k + 1)⟩
def rightN (x : Nod) (k : Nat) : Nod := if x.leaf then ⟨true, x.cells.drop k, [], []⟩ else ⟨false, [], x.keys.drop (k + 1), x.kids.drop (k + 1)⟩
def partN (x : Nod) (k : Nat) : ByteArray := (nkeys x).getD k ByteArray.empty
/-- How many lots there are. -/
def manyN (x : Nod) : Nat := if x.leaf then x.cells.length else x.keys.length
/-- Where a split may be at the latest. -/
def lastN (x : Nod) : Nat := if x.leaf then x.cells.length - 1 else x.keys.length - 2
def leastN (x : Nod) : Nat := if x.leaf then 2 else 3
theorem nkeys_left (x : Nod) (k : Nat) : nkeys (leftN x k) = (nkeys x).take k := by
  obtain ⟨leaf, cells, keys, kids⟩ := x
  cases leaf <;> simp [leftN, nkeys, List.map_take]
theorem nkeys_right (x : Nod) (k : Nat) : nkeys (rightN x k) = (nkeys x).drop (if x.leaf then k else k + 1) := by
  obtain ⟨leaf, cells, keys, kids⟩ := x
  cases leaf <;> simp [rightN, nkeys, List.map_drop]
theorem nkeys_many (x : Nod) : (nkeys x).length = manyN x := by
  obtain ⟨leaf, cells, keys, kids⟩ := x
  cases leaf <;> simp [manyN, nkeys]
theorem left_right {x : Nod} (hR : RightP x) {k : Nat} (h0 : 0 < k) (hk : k < manyN x) : RightP (leftN x k) := by
  refine ⟨?_, ?_, ?_, ?_, ?_⟩
  · rw [nkeys_left]; exact sorted_take hR.sorted k
  · rw [nkeys_left]; exact apart_take hR.apart k
  · rw [nkeys_left]; exact fun s hs => hR.short s (List.mem_of_mem_take hs)
  · intro e
    obtain ⟨leaf, cells, keys, kids⟩ := x
    cases leaf with
    | false => simp [leftN] at e
    | true => exact ⟨rfl, rfl, fun c hc => (hR.leaf rfl).2.2 c (List.mem_of_mem_take hc)⟩
  · intro e
    obtain ⟨leaf, cells, keys, kids⟩ := x
    cases leaf with
    | true => simp [leftN] at e
    | false =>
      obtain ⟨h1, h2, h3, h4⟩ := hR.inner rfl
      simp only [manyN, Bool.false_eq_true, if_false] at hk
      simp only at h3
      refine ⟨rfl, ?_, ?_, fun i hi => h4 i (List.mem_of_mem_take hi)⟩
      · simp only [leftN, Bool.false_eq_true, if_false, List.length_take]; omega
      · simp only [leftN, Bool.false_eq_true, if_false, List.length_take]; omega
theorem right_right {x : Nod} (hR : RightP x) {k : Nat} (hk : k ≤ lastN x) (hm : leastN x ≤ manyN x) : RightP (rightN x k) := by
  refine ⟨?_, ?_, ?_, ?_, ?_⟩
  · rw [nkeys_right]; exact sorted_drop hR.sorted _
  · rw [nkeys_right]; exact apart_drop hR.apart _
  · rw [nkeys_right]; exact fun s hs => hR.short s (List.mem_of_mem_drop hs)
  · intro e
    obtain ⟨leaf, cells, keys, kids⟩ := x
    cases leaf with
    | false => simp [rightN] at e
    | true => exact ⟨rfl, rfl, fun c hc => (hR.leaf rfl).2.2 c (List.mem_of_mem_drop hc)⟩
  · intro e
    obtain ⟨leaf, cells, keys, kids⟩ := x
    cases leaf with
    | true => simp [rightN] at e
    | false =>
      obtain ⟨h1, h2, h3, h4⟩ := hR.inner rfl
      simp only [lastN, manyN, leastN, Bool.false_eq_true, if_false] at hk hm
      simp only at h3
      refine ⟨rfl, ?_, ?_, fun i hi => h4 i (List.mem_of_mem_drop hi)⟩
      · simp only [rightN, Bool.false_eq_true, if_false, List.length_drop]; omega
      · simp only [rightN, Bool.false_eq_true, if_false, List.length_drop]; omega
theorem lots_left {x : Nod} (hR : RightP x) (k : Nat) (hk : k ≤ manyN x) : lotsB (leftN x k) = (lotsB x).take k := by
  obtain ⟨leaf, cells, keys, kids⟩ := x
  cases leaf with
  | true =>
    obtain ⟨h1, h2, h3⟩ := hR.leaf rfl
    simp only at h1
    subst h1
    simp [lotsB, leftN, List.map_take]
  | false =>
    obtain ⟨h1, h2, h3, h4⟩ := hR.inner rfl
    simp only at h1 h3
    subst h1
    simp only [manyN, Bool.false_eq_true, if_false] at hk
    refine List.ext_getElem (by simp [lotsB, leftN]) fun j hj1 hj2 => ?_
    have hjk : j < k := by simp at hj2; omega
    simp only [lotsB, leftN, Bool.false_eq_true, if_false, List.map_nil, List.nil_append, List.getElem_map, List.getElem_range, List.getElem_take]
    congr 1
    · simp [List.getD_eq_getElem?_getD, hjk]
    · simp [List.getD_eq_getElem?_getD, hjk]
theorem lots_right {x : Nod} (hR : RightP x) (k : Nat) : lotsB (rightN x k) = (lotsB x).drop (if x.leaf then k else k + 1) := by
  obtain ⟨leaf, cells, keys, kids⟩ := x
  cases leaf with
  | true =>
    obtain ⟨h1, h2, h3⟩ := hR.leaf rfl
    simp only at h1
    subst h1
    simp [lotsB, rightN, List.map_drop]
  | false =>
    obtain ⟨h1, h2, h3, h4⟩ := hR.inner rfl
    simp only at h1 h3
    subst h1
    refine List.ext_getElem (by simp [lotsB, rightN]) fun j hj1 hj2 => ?_
    simp only [lotsB, rightN, Bool.false_eq_true, if_false, List.map_nil, List.nil_append, List.getElem_map, List.getElem_range, List.getElem_drop]
    congr 1
    · simp [List.getD_eq_getElem?_getD]
    · simp [List.getD_eq_getElem?_getD, Nat.add_assoc]
theorem lots_many {x : Nod} (hR : RightP x) : (lotsB x).length = manyN x := by
  obtain ⟨leaf, cells, keys, kids⟩ := x
  cases leaf with
  | true =>
    have h1 : keys = [] := (hR.leaf rfl).1
    subst h1
    simp [lotsB, manyN]
  | false =>
    have h1 : cells = [] := (hR.inner rfl).1
    subst h1
    simp [lotsB, manyN]
/-- The length of the first k lots. -/
def sumTo (ls : List (List UInt8)) (k : Nat) : Nat := (ls.take k).flatten.length
theorem sumTo_next (ls : List (List UInt8)) (k : Nat) (h : k < ls.length) : sumTo ls (k + 1) = sumTo ls k + ls[k].length := by
  unfold sumTo
  rw [List.take_succ_eq_append_getElem h, List.flatten_append, List.length_append, List.flatten_cons, List.flatten_nil, List.append_nil]
theorem sumTo_rest (ls : List (List UInt8)) (k : Nat) : sumTo ls k + (ls.drop k).flatten.length = ls.flatten.length := by
  unfold sumTo
  rw [← List.length_append, ← List.flatten_append, List.take_append_drop]
/-- Where a node is split. -/
structure HalfAt (ls : List (List UInt8)) (last k : Nat) : Prop where
  le : k ≤ last
  low : ∀ j, j < k → 2 * sumTo ls j ≤ ls.flatten.length
  high : k = last ∨ ls.flatten.length < 2 * sumTo ls k
theorem HalfAt.pos {ls : List (List UInt8)} {last k : Nat} (h : HalfAt ls last k) (h0 : 0 < last) : 0 < k := by
  rcases Nat.eq_zero_or_pos k with e | e
  · subst e
    rcases h.high with h1 | h1
    · omega
    · simp [sumTo] at h1
  · exact e
theorem laid_length (x : Nod) : (lotsB x).flatten.length + 1 ≤ (laidB x).length ∧ (laidB x).length ≤ (lotsB x).flatten.length + 21 := by
  unfold laidB
  have h1 := num_length (lotsB x).length
  have h2 := num_length (x.kids.getD 0 0).toNat
  generalize num (lotsB x).length = a at *
  generalize num (x.kids.getD 0 0).toNat = b at *
  generalize (lotsB x).flatten = c at *
  simp only [List.length_append, List.length_cons]
  split <;> (try simp only [List.length_nil]) <;> omega
theorem key_size {x : Nod} (hR : RightP x) (hl : x.leaf = false) : ∀ l ∈ lotsB x, l.length ≤ 101 := by
  obtain ⟨leaf, cells, keys, kids⟩ := x
  simp only at hl
  subst hl
  have h1 : cells = [] := (hR.inner rfl).1
  subst h1
  intro l hl
  simp only [lotsB, List.map_nil, List.nil_append, List.mem_map, List.mem_range] at hl
  obtain ⟨j, hj, rfl⟩ := hl
  have hs := hR.short (keys.getD j ByteArray.empty) (by
    rw [List.getD_eq_getElem?_getD, List.getElem?_eq_getElem hj]
    exact List.getElem_mem hj)
  unfold shortS at hs
  simp only [decide_eq_true_eq] at hs
  unfold keyB
  have q1 := bytS_length (keys.getD j ByteArray.empty)
  have q2 := num_length (kids.getD (j + 1) 0).toNat
  rw [List.length_append]
  omega
/-- P12.4: both parts fit. -/
theorem half_fits {x : Nod} (hR : RightP x) {k : Nat} (hh : HalfAt (lotsB x) (lastN x) k) (hm : leastN x ≤ manyN x) (hall : (laidB x).length ≤ 656) (hc : x.leaf = true → ∀ c ∈ x.cells, (laidB ⟨true, [c], [], []⟩).length ≤ 146) :
    (laidB (leftN x k)).length ≤ 512 ∧ (laidB (rightN x k)).length ≤ 512 := by
  have hmany := lots_many hR
  have hlast : 0 < lastN x ∧ lastN x < manyN x := by
    unfold lastN leastN manyN at *
    cases hx : x.leaf <;> simp [hx] at hm ⊢ <;> omega
  have hk0 := hh.pos hlast.1
  have hkm : k < manyN x := by have := hh.le; omega
  have h1 := laid_length x
  have h2 := laid_length (leftN x k)
  have h3 := laid_length (rightN x k)
  rw [lots_left hR k (by omega)] at h2
  rw [lots_right hR k] at h3
  have hlow := hh.low (k - 1) (by omega)
  have hn := sumTo_next (lotsB x) (k - 1) (by omega)
  rw [show k - 1 + 1 = k from by omega] at hn
  have hle : ∀ l ∈ lotsB x, l.length ≤ 145 := by
    intro l hl
    cases hx : x.leaf with
    | false => have := key_size hR hx l hl; omega
    | true =>
      have hk : x.keys = [] := (hR.leaf hx).1
      unfold lotsB at hl
      rw [hk] at hl
      simp only [List.length_nil, List.range_zero, List.map_nil, List.append_nil, List.mem_map] at hl
      obtain ⟨c, hcm, rfl⟩ := hl
      have q1 := hc hx c hcm
      have q2 := (laid_length ⟨true, [c], [], []⟩).1
      have e : (lotsB ⟨true, [c], [], []⟩).flatten = celB c := by simp [lotsB]
      rw [e] at q2
      omega
  have hk1 := hle (lotsB x)[k - 1] (List.getElem_mem _)
  have hr := sumTo_rest (lotsB x) k
  have e2 : ((lotsB x).take k).flatten.length = sumTo (lotsB x) k := rfl
  refine ⟨by omega, ?_⟩
  rcases hh.high with e | e
  · cases hx : x.leaf with
    | true =>
      rw [hx] at h3
      simp only [if_true] at h3
      have hlen : ((lotsB x).drop k).length ≤ 1 := by
        rw [List.length_drop, hmany, e]
        unfold lastN manyN
        rw [hx]
        simp
        omega
      have := flat_bound ((lotsB x).drop k) 145 (fun l hl => hle l (List.mem_of_mem_drop hl))
      omega
    | false =>
      rw [hx] at h3
      simp only [Bool.false_eq_true, if_false] at h3
      have hlen : ((lotsB x).drop (k + 1)).length ≤ 1 := by
        rw [List.length_drop, hmany, e]
        unfold lastN manyN
        rw [hx]
        simp
        omega
      have := flat_bound ((lotsB x).drop (k + 1)) 145 (fun l hl => hle l (List.mem_of_mem_drop hl))
      omega
  · cases hx : x.leaf with
    | true =>
      rw [hx] at h3
      simp only [if_true] at h3
      omega
    | false =>
      rw [hx] at h3
      simp only [Bool.false_eq_true, if_false] at h3
      have hr2 := sumTo_rest (lotsB x) (k + 1)
      have hn2 := sumTo_next (lotsB x) k (by omega)
      omega
theorem partN_eq {x : Nod} {k : Nat} (hk : k < (nkeys x).length) : partN x k = (nkeys x)[k] := by
  unfold partN
  rw [List.getD_eq_getElem?_getD, List.getElem?_eq_getElem hk]
  rfl
/-- The keys of both parts, with what parts them, are the node's. -/
theorem keys_join {x : Nod} {k : Nat} (hk : k < manyN x) : nkeys (leftN x k) ++ ((if x.leaf then [] else [partN x k]) ++ nkeys (rightN x k)) = nkeys x := by
  have hk2 : k < (nkeys x).length := by rw [nkeys_many]; exact hk
  rw [nkeys_left, nkeys_right, partN_eq hk2]
  generalize nkeys x = ks at *
  cases x.leaf with
  | true => simp
  | false =>
    simp only [Bool.false_eq_true, if_false, List.singleton_append]
    rw [← List.drop_eq_getElem_cons hk2, List.take_append_drop]
theorem left_less {x : Nod} (hR : RightP x) {k : Nat} (hk : k < manyN x) (i : Nat) (hi : i < (nkeys (leftN x k)).length) : ltS (nkeys (leftN x k))[i] (partN x k) = true := by
  have hk2 : k < (nkeys x).length := by rw [nkeys_many]; exact hk
  rw [partN_eq hk2]
  simp only [nkeys_left] at hi ⊢
  rw [List.getElem_take]
  simp at hi
  exact rises_lt' hR.sorted hR.apart i k (by omega) hk2
theorem drop_more {l : List ByteArray} (hs : SortedS l) (ha : ApartS l) (k m i : Nat) (hk : k < l.length) (hkm : k ≤ m) (hi : i < (l.drop m).length) : ltS (l.drop m)[i] l[k] = false := by
  rw [List.getElem_drop]
  rw [List.length_drop] at hi
  by_cases e : m + i = k
  · simp only [e]
    exact blt_refl _
  · exact blt_asymm _ _ (rises_lt' hs ha k (m + i) (by omega) (by omega))
theorem right_more {x : Nod} (hR : RightP x) {k : Nat} (hk : k < manyN x) (i : Nat) (hi : i < (nkeys (rightN x k)).length) : ltS (nkeys (rightN x k))[i] (partN x k) = false := by
  have hk2 : k < (nkeys x).length := by rw [nkeys_many]; exact hk
  rw [partN_eq hk2]
  simp only [nkeys_right] at hi ⊢
  exact drop_more hR.sorted hR.apart k _ i hk2 (by split <;> omega) hi
/-- How many cells and kids both parts have. -/
theorem many_join {x : Nod} (hR : RightP x) {k : Nat} (hk : k < manyN x) : (leftN x k).cells.length + (rightN x k).cells.length = x.cells.length ∧ (leftN x k).kids.length + (rightN x k).kids.length = x.kids.length := by
  obtain ⟨leaf, cells, keys, kids⟩ := x
  cases leaf with
  | true =>
    have h2 : kids = [] := (hR.leaf rfl).2.1
    subst h2
    simp [leftN, rightN, manyN] at hk ⊢
    omega
  | false =>
    have h1 : cells = [] := (hR.inner rfl).1
    have h3 : kids.length = keys.length + 1 := (hR.inner rfl).2.2.1
    subst h1
    simp [leftN, rightN, manyN] at hk ⊢
    omega
end Go.Proofs.Ytlelckdcmlpmdaa
/- node.where: the walk. -/
namespace Go.Proofs.Ytlelckdcmlpmdaa
open Go Go.RowKit Lou

/-- What where answers. -/
def WhereOut (w : World) (ls : List (List UInt8)) (last : Nat) (e : Ending) (w' : World) : Prop := ∃ k : Nat, e = .returned (.int .i64 (k : Int)) ∧ HalfAt ls last k ∧ Below w.heap.size w w'
theorem sumTo_le (ls : List (List UInt8)) (k : Nat) : sumTo ls k ≤ ls.flatten.length := by
  have := sumTo_rest ls k
  omega
set_option maxRecDepth 100000 in
set_option maxHeartbeats 2000000 in
theorem where_gives (w : World) (base : Nat) (A : Option Addr) (c : Nat) (ls : List (List UInt8)) (vs : List Value) (h : LotR w base (.slice A ls.length c) ls vs) (hf : ls.flatten.length ≤ 1000000) (hm : ls.length ≤ 1000000) (last : Nat) (hlast : last ≤ ls.length) :
    Calls Try.prog 118 #[.slice A ls.length c, .int .i64 (last : Int)] w (WhereOut w ls last) := by
  have HJ := joinedR_gives h (by omega)
  obtain ⟨A', c', e', hin⟩ := ownG_in h.own h.one
  injection e' with e1 e2 e3
  subst e1 e3
  have hle := hin.le
  have hmax := hin.max
  unfold WhereOut
  have hsum : ∀ k, sumTo ls k ≤ ls.flatten.length := sumTo_le ls
  have hhalf : ∀ k, k ≤ last → (∀ j, j < k → 2 * sumTo ls j ≤ ls.flatten.length) → (k = last ∨ ls.flatten.length < 2 * sumTo ls k) → HalfAt ls last k := fun k h1 h2 h3 => ⟨h1, h2, h3⟩
  generalize ls.flatten = fl at *
  go_enter Try.func118, Try.ntmps118
  go_wp2_with (go_at_call 167; refine HJ.mono ?_; rintro e w2 ⟨v, rfl, own, hB⟩; obtain ⟨A2, c2, rfl, hin2⟩ := own.inB)
  have hs0 : sumTo ls 0 = 0 := by simp [sumTo]
  go_loopw [4, 6] (fun i v wr => ∃ (k s : Nat), k ≤ last ∧ i = .int .i64 k ∧ v = .int .i64 s ∧ s = sumTo ls k ∧ (∀ j, j < k → 2 * sumTo ls j ≤ fl.length) ∧ wr = w2) (fun i _ _ => last - (intOf i).toNat)
  case atStart => exact ⟨0, 0, by omega, rfl, rfl, hs0.symm, fun j hj => by omega, rfl⟩
  case round =>
    obtain ⟨k, s, hk, rfl, rfl, hs, hall, rfl⟩ := hrel
    have hsl := hsum k
    have HH := Lib.hid (hhalf k hk)
    have hwk : IntKind.i64.wrap ((k : Int) + 1) = (k : Int) + 1 := wrapN _ (by omega) (by omega)
    have hw2 : IntKind.i64.wrap (2 * (s : Int)) = 2 * (s : Int) := wrapN _ (by omega) (by omega)
    by_cases hlt : k < last
    · by_cases hgo : 2 * s ≤ fl.length
      · obtain ⟨Aj, cj, ej, _⟩ := h.at_ k (by omega)
        obtain ⟨g, o, rfl, hg, hr⟩ := hin.lies (by omega)
        have d0 : wr.cell? ⟨g, o + k, none⟩ = some (.slice Aj ls[k].length cj) := (hB.cell (p := ⟨g, o + k, none⟩) hg).trans (hr k _ ej)
        have hn := sumTo_next ls k (by omega)
        have hsl2 := hsum (k + 1)
        have hgo' : 2 * (s : Int) ≤ (fl.length : Int) := by omega
        have hlt' : (k : Int) < (ls.length : Int) := by omega
        have hlt2 : (k : Int) < (last : Int) := by omega
        have hk0 : (0 : Int) ≤ (k : Int) := by omega
        have hall2 : ∀ j, j < k + 1 → 2 * sumTo ls j ≤ fl.length := fun j hj => by
          by_cases e : j = k
          · subst e; omega
          · exact hall j (by omega)
        have hs2 : s + ls[k].length = sumTo ls (k + 1) := by omega
        have hws : IntKind.i64.wrap ((s : Int) + (ls[k].length : Int)) = ((s + ls[k].length : Nat) : Int) := by rw [wrapN _ (by omega) (by omega)]; omega
        generalize ls[k].length = m at *
        have HS := Lib.hid hs2
        have HA := Lib.hid hall2
        have HAL := Lib.hid hall
        clear hs2 hall2 hall hs hn ej hr h hhalf hsum
        go_wp2
        exact ⟨⟨k + 1, s + m, by omega, by simp, by simp, HS.out, HA.out, by simp⟩, by simp [intOf]; omega⟩
      · have hgo' : ¬ 2 * (s : Int) ≤ (fl.length : Int) := by omega
        have hlt2 : (k : Int) < (last : Int) := by omega
        have HS := Lib.hid hs
        have HA := Lib.hid hall
        clear hs hall h hhalf hsum
        go_wp2
        go_ret
        exact ⟨k, rfl, HH.out HA.out (.inr (by rw [← HS.out]; omega)), hB⟩
    · obtain rfl : k = last := by omega
      have hn : ¬ (k : Int) < (k : Int) := by omega
      have HS := Lib.hid hs
      have HA := Lib.hid hall
      clear hs hall h hhalf hsum
      go_wp2
      go_ret
      exact ⟨k, by simp, HH.out HA.out (.inl (by simp)), hB⟩
end Go.Proofs.Ytlelckdcmlpmdaa
/- slices.Clone over cells and over ints. -/
namespace Go.Proofs.Ytlelckdcmlpmdaa
open Go Go.RowKit Lou Go.Shelf

/-- slices.Clone over cells. -/
def OwnCels (w : World) (l : List Cel) (e : Ending) (w' : World) : Prop := ∃ A c, e = .returned (.slice A l.length c) ∧ w'.ownsRow w.heap.size 205 4 (.slice A l.length c) l.length (clC l) ∧ Below w.heap.size w w'
theorem elCelC : ElT 72 205 4 48 (.agg #[.string ByteArray.empty, .string ByteArray.empty, .int .i64 0, .int .i64 0]) := ⟨Try.underlying72, by kernel_rfl, by kernel_rfl, by decide⟩
set_option maxRecDepth 100000 in
set_option maxHeartbeats 1000000 in
theorem cclone_gives (w : World) (A : Option Addr) (c : Nat) (l : List Cel) (h : InG w w.heap.size 4 A l.length c (clC l)) (hl : l.length ≤ 1000000) :
    Calls Try.prog 119 #[.slice A l.length c] w (OwnCels w l) := by
  rcases A with _ | ad
  · have hc := h.nil rfl
    subst hc
    have hle := h.le
    obtain rfl : l = [] := List.eq_nil_of_length_eq_zero (by omega)
    have hq := fun W => run_eq_nilN (P := Try.prog) W 72 205 none 0 0 Try.underlying72
    go_enter Try.func119, Try.ntmps119
    go_wp2
    go_ret
    exact ⟨none, 0, rfl, World.ownsRow_nil _ _ _ _, Below.refl _ _⟩
  · have e0 : (w.alloc (.cells #[] 205)).ownsRow w.heap.size 205 4 (.slice (some ⟨w.heap.size, 0, none⟩) 0 0) 0 [] := World.ownsRow_lit w #[] 0 (Nat.le_refl _) (by unfold maxLen; omega) rfl
    have hB0 : Below w.heap.size w (w.alloc (.cells #[] 205)) := (Below.refl _ w).alloc (Nat.le_refl _) _
    have hq := fun W => run_eq_nilN (P := Try.prog) W 72 205 (some ad) l.length c Try.underlying72
    go_enter Try.func119, Try.ntmps119
    go_wp2_with (at_builtin; refine wp_appG rfl elCelC (.tmp 5) (.tmp 6) rfl w.heap.size (.slice (some ⟨w.heap.size, 0, none⟩) 0 0) 0 [] rfl e0 _ _ l.length c (clC l) rfl (h.grow hB0) (by unfold maxLen; omega) (by omega) hB0.size ?_; intro v5 w5 own5 hg5)
    go_ret
    rw [Nat.zero_add, List.nil_append] at own5
    obtain ⟨A5, c5, rfl, _⟩ := ownG_in own5 (clC_one _)
    exact ⟨A5, c5, rfl, own5, hB0.trans (grown_below hg5 hB0.size (ownG_ge e0))⟩
/-- slices.Clone over ints. -/
def OwnInts (w : World) (l : List Int) (e : Ending) (w' : World) : Prop := ∃ A c, e = .returned (.slice A l.length c) ∧ w'.ownsRow w.heap.size 3 1 (.slice A l.length c) l.length (ikC l) ∧ Below w.heap.size w w'
theorem elIntC : ElT 74 3 1 8 (.int .i64 0) := ⟨Try.underlying74, by kernel_rfl, by kernel_rfl, by decide⟩
set_option maxRecDepth 100000 in
set_option maxHeartbeats 1000000 in
theorem iclone_gives (w : World) (A : Option Addr) (c : Nat) (l : List Int) (h : InG w w.heap.size 1 A l.length c (ikC l)) (hl : l.length ≤ 1000000) :
    Calls Try.prog 120 #[.slice A l.length c] w (OwnInts w l) := by
  rcases A with _ | ad
  · have hc := h.nil rfl
    subst hc
    have hle := h.le
    obtain rfl : l = [] := List.eq_nil_of_length_eq_zero (by omega)
    have hq := fun W => run_eq_nilN (P := Try.prog) W 74 3 none 0 0 Try.underlying74
    go_enter Try.func120, Try.ntmps120
    go_wp2
    go_ret
    exact ⟨none, 0, rfl, World.ownsRow_nil _ _ _ _, Below.refl _ _⟩
  · have e0 : (w.alloc (.cells #[] 3)).ownsRow w.heap.size 3 1 (.slice (some ⟨w.heap.size, 0, none⟩) 0 0) 0 [] := World.ownsRow_lit w #[] 0 (Nat.le_refl _) (by unfold maxLen; omega) rfl
    have hB0 : Below w.heap.size w (w.alloc (.cells #[] 3)) := (Below.refl _ w).alloc (Nat.le_refl _) _
    have hq := fun W => run_eq_nilN (P := Try.prog) W 74 3 (some ad) l.length c Try.underlying74
    go_enter Try.func120, Try.ntmps120
    go_wp2_with (at_builtin; refine wp_appG rfl elIntC (.tmp 5) (.tmp 6) rfl w.heap.size (.slice (some ⟨w.heap.size, 0, none⟩) 0 0) 0 [] rfl e0 _ _ l.length c (ikC l) rfl (h.grow hB0) (by unfold maxLen; omega) (by omega) hB0.size ?_; intro v5 w5 own5 hg5)
    go_ret
    rw [Nat.zero_add, List.nil_append] at own5
    obtain ⟨A5, c5, rfl, _⟩ := ownG_in own5 (ikC_one _)
    exact ⟨A5, c5, rfl, own5, hB0.trans (grown_below hg5 hB0.size (ownG_ge e0))⟩
end Go.Proofs.Ytlelckdcmlpmdaa
/- A region that draws its order, by an invariant of whatever kind: over which operations are done, the slots, the world. -/
namespace Go.Proofs.Ytlelckdcmlpmdaa
open Go Go.RowKit
namespace Reg
variable {P : Program} {ops : Array Oper}

/-- Each edge that binds leads back. -/
def backs (ops : Array Oper) : Bool := ops.toList.zipIdx.all fun (o, i) => o.after.toList.all fun e => !Region.binds .any e || decide (e.on < i)
/-- Slot t, looked at by o (number i): each operation that writes it comes ahead by an edge. -/
def ahead (ops : Array Oper) (o : Oper) (t : Nat) : Bool := ops.toList.zipIdx.all fun (p, j) => p.dst != some t || (o.after.toList.any fun e => Region.binds .any e && e.on == j)
/-- .. each operation that writes it waits for number i. -/
def waits (ops : Array Oper) (i : Nat) (t : Nat) : Bool := ops.toList.zipIdx.all fun (p, _) => p.dst != some t || (p.after.toList.any fun e => Region.binds .any e && e.on == i)
theorem backs_spec (h : backs ops = true) {i : Nat} {o : Oper} (ho : ops[i]? = some o) : ∀ e ∈ o.after.toList, Region.binds .any e = true → e.on < i := by
  unfold backs at h
  rw [List.all_eq_true] at h
  have hm : (o, i) ∈ ops.toList.zipIdx := by
    rw [List.mem_zipIdx_iff_getElem?]
    simpa using ho
  have := h _ hm
  simp only [List.all_eq_true] at this
  intro e he hb
  have := this e he
  simpa [hb] using this
theorem ahead_spec {o : Oper} {t : Nat} (h : ahead ops o t = true) {j : Nat} {p : Oper} (hp : ops[j]? = some p) (hd : p.dst = some t) : ∃ e ∈ o.after.toList, Region.binds .any e = true ∧ e.on = j := by
  unfold ahead at h
  rw [List.all_eq_true] at h
  have hm : (p, j) ∈ ops.toList.zipIdx := by
    rw [List.mem_zipIdx_iff_getElem?]
    simpa using hp
  have := h _ hm
  simp only [hd, bne_self_eq_false, Bool.false_or, List.any_eq_true, Bool.and_eq_true, beq_iff_eq] at this
  obtain ⟨e, he, hb, hj⟩ := this
  exact ⟨e, he, hb, hj⟩
theorem waits_spec {i t : Nat} (h : waits ops i t = true) {j : Nat} {p : Oper} (hp : ops[j]? = some p) (hd : p.dst = some t) : ∃ e ∈ p.after.toList, Region.binds .any e = true ∧ e.on = i := by
  unfold waits at h
  rw [List.all_eq_true] at h
  have hm : (p, j) ∈ ops.toList.zipIdx := by
    rw [List.mem_zipIdx_iff_getElem?]
    simpa using hp
  have := h _ hm
  simp only [hd, bne_self_eq_false, Bool.false_or, List.any_eq_true, Bool.and_eq_true, beq_iff_eq] at this
  obtain ⟨e, he, hb, hj⟩ := this
  exact ⟨e, he, hb, hj⟩

/-- One operation, in whatever order: where it is ready it leads from the invariant to the invariant. -/
def StepOk (P : Program) (ops : Array Oper) (Inv : Array Bool → Act → World → Prop) (i : Nat) (o : Oper) : Prop :=
  ∀ (listed : Array Bool) (a : Act) (w : World) (K : Act → World → Prop) (Q : Exit → Act → World → Prop), listed.size = ops.size → listed.getD i true = false → (∀ e ∈ o.after.toList, Region.binds .any e = true → listed.getD e.on false = true) →
    Inv listed a w → (∀ v w', Inv (listed.setIfInBounds i true) (a.put o.dst v) w' → K (a.put o.dst v) w') →
    (if Region.wanted o (yielded ops a.tmps) then o.wp P a w K Q ∨ (o.asks P a w ∧ LetsOut Q) else K (a.put o.dst undef) w)

theorem region_inv (hm : P.follows .mixedOrders = true) (hcov : backs ops = true) {id : Nat} {a0 : Act} {w0 : World} {Q : Exit → Act → World → Prop} (Inv : Array Bool → Act → World → Prop)
    (h0 : Inv (Array.replicate ops.size false) a0 w0.drew) (hstep : ∀ i o, ops[i]? = some o → StepOk P ops Inv i o)
    (hend : ∀ listed a w, listed.size = ops.size → (∀ i, i < ops.size → listed.getD i true = true) → Inv listed a w → Q .normal a w) :
    (Code.region id ops true).wp P Q a0 w0 := by
  refine wp_region_any hm ?_
  have key : ∀ (fuel : Nat) (listed : Array Bool) (a : Act) (w : World), listed.size = ops.size → left listed ≤ fuel → Inv listed a w → wpAny P .any ops Q fuel listed a w := by
    intro fuel
    have hdone : ∀ (listed : Array Bool) (a : Act) (w : World), listed.size = ops.size → Inv listed a w → Region.ready .any ops listed = [] → Q .normal a w := by
      intro listed a w hs hJ hr
      refine hend listed a w hs ?_ hJ
      intro i
      induction i using Nat.strongRecOn with
      | _ i ih =>
        intro hi
        cases hl : listed.getD i true with
        | true => rfl
        | false =>
          exfalso
          have : i ∈ Region.ready .any ops listed := by
            unfold Region.ready
            simp only [List.mem_filter, List.mem_range, Bool.and_eq_true, Bool.not_eq_true']
            refine ⟨hi, hl, ?_⟩
            have ho : ops[i]? = some ops[i] := Array.getElem?_eq_getElem hi
            simp only [ho, Option.map_some, Option.getD_some]
            rw [Array.all_eq_true_iff_forall_mem]
            intro e he
            have hc := backs_spec hcov ho e (Array.mem_toList_iff.2 he)
            cases hb : Region.binds .any e with
            | false => simp
            | true =>
              have hlt := hc hb
              have h1 := ih e.on hlt (by omega)
              have h2 : e.on < listed.size := by omega
              simp only [Array.getD, h2, dif_pos] at h1 ⊢
              simpa using h1
          rw [hr] at this
          cases this
    induction fuel with
    | zero =>
      intro listed a w hs hf hJ
      have hr : Region.ready .any ops listed = [] := by
        rcases hr : Region.ready .any ops listed with _ | ⟨i, r⟩
        · rfl
        · exfalso
          obtain ⟨o, ho, hl, _⟩ := ready_mem (ops := ops) (listed := listed) (i := i) (by rw [hr]; simp)
          have hi : i < listed.size := by rw [hs]; exact (Array.getElem?_eq_some_iff.1 ho).1
          have hmem : listed[i] ∈ listed.toList.filter (! ·) := by
            rw [List.mem_filter]
            refine ⟨by simp, ?_⟩
            have hl' : listed[i] = false := by simpa [Array.getD, hi] using hl
            simp [hl']
          have : 0 < left listed := List.length_pos_of_mem hmem
          omega
      exact ⟨hr, hdone listed a w hs hJ hr⟩
    | succ fuel ih =>
      intro listed a w hs hf hJ
      refine ⟨hdone listed a w hs hJ, fun i hi => ?_⟩
      obtain ⟨o, ho, hl, hedges⟩ := ready_mem hi
      have hisz : i < listed.size := by rw [hs]; exact (Array.getElem?_eq_some_iff.1 ho).1
      have hnext : ∀ v w', Inv (listed.setIfInBounds i true) (a.put o.dst v) w' → wpAny P .any ops Q fuel (listed.setIfInBounds i true) (a.put o.dst v) w' := by
        intro v w' hv
        refine ih _ _ _ (by simpa using hs) ?_ hv
        have hl' : listed[i] = false := by simpa [Array.getD, hisz] using hl
        have : left (listed.setIfInBounds i true) < left listed := by
          unfold left
          rw [Array.toList_setIfInBounds]
          have e1 : listed.toList = listed.toList.take i ++ false :: listed.toList.drop (i + 1) := by
            have h3 : listed.toList[i]'(by simpa using hisz) = false := by simpa using hl'
            conv => lhs; rw [← List.take_append_drop i listed.toList, List.drop_eq_getElem_cons (by simpa using hisz), h3]
          rw [List.set_eq_take_append_cons_drop, if_pos (by simpa using hisz)]
          conv => rhs; rw [e1]
          simp
        omega
      have := hstep i o ho listed a w (fun a' w' => wpAny P .any ops Q fuel (listed.setIfInBounds i true) a' w') Q hs hl hedges hJ hnext
      unfold wpOp
      simp only [ho]
      exact this
  refine key ops.size _ a0 _ (by simp) ?_ h0
  unfold left
  simp
end Reg
end Go.Proofs.Ytlelckdcmlpmdaa
