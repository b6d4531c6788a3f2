/- Texts that the proof of NodeHolds leans on, part 9. -/
import Derived.Test.YtlelckdcmlpmdaaNodeHoldsB8
/- node.Split, of a node that may be. -/
namespace Go.Proofs.Ytlelckdcmlpmdaa
open Go Go.RowKit Lou

theorem x_storeN {w : World} {o : Oper} {ρ : Operand → Value} (T : TypeId) (x y : Operand) (ho : o.op = .store T x y) (g : Nat) {t : TypeId} {cs cs' : Array Value} (hx : ρ x = .pointer (some ⟨g, 0, none⟩)) (hy : ρ y = .agg cs') {m : Nat} (hT : RowTy Try.prog T m) (hb : BlkIs w g t cs) (hn : cs.size = m) (hs : cs'.size = cs.size) (h1 : ∀ v ∈ cs'.toList, v.oneCell' = true) :
    (execOp ρ o).run Try.prog w = .ok .skip (w.setRow g cs') := by
  unfold execOp
  simp only [ho, hx, hy, Instr.storeAt, Instr.sureAddr, Sem.run_bind, Sem.run_pure, Result.andThen_ok, run_storeW (hn ▸ hT) hb hs h1]
theorem InG.drop {w : World} {B sz g o n c : Nat} {cs : List Value} (h : InG w B sz (some ⟨g, o, none⟩) n c cs) (k : Nat) (hk : k ≤ n) : InG w B sz (some ⟨g, o + k * sz, none⟩) (n - k) (c - k) (cs.drop (k * sz)) := by
  refine ⟨by have := h.le; omega, by have := h.max; omega, (fun e => by cases e), ?_, fun v hv => h.one v (List.mem_of_mem_drop hv), fun h0 => ?_⟩
  · rw [List.length_drop, h.len, Nat.sub_mul]
  · obtain ⟨g', o', e, hg, hr⟩ := h.lies (by omega)
    injection e with e
    injection e with e1 e2
    subst e1 e2
    refine ⟨g, o + k * sz, rfl, hg, fun j v hj => ?_⟩
    rw [List.getElem?_drop] at hj
    rw [Nat.add_assoc]
    exact hr _ v hj
theorem clC_take (cs : List Cel) (k : Nat) : (clC cs).take (k * 4) = clC (cs.take k) := by
  induction cs generalizing k with
  | nil => simp [clC]
  | cons c cs ih =>
    cases k with
    | zero => simp [clC]
    | succ k =>
      have e : clC (c :: cs) = celC c ++ clC cs := rfl
      have e2 : clC ((c :: cs).take (k + 1)) = celC c ++ clC (cs.take k) := rfl
      rw [e, e2, ← ih k, show (k + 1) * 4 = (celC c).length + k * 4 from by show _ = 4 + _; omega, List.take_length_add_append]
theorem clC_drop (cs : List Cel) (k : Nat) : (clC cs).drop (k * 4) = clC (cs.drop k) := by
  induction cs generalizing k with
  | nil => simp [clC]
  | cons c cs ih =>
    cases k with
    | zero => simp
    | succ k =>
      have e : clC (c :: cs) = celC c ++ clC cs := rfl
      rw [e, show (k + 1) * 4 = (celC c).length + k * 4 from by show _ = 4 + _; omega, List.drop_length_add_append, ih k]
      rfl
/-- What Split answers, of a node that it splits. -/
def GoodOut (w : World) (x : Nod) (e : Ending) (w' : World) : Prop := ∃ (k : Nat) (Ac : Option Addr) (cc : Nat) (Ak : Option Addr) (ck : Nat) (Ai : Option Addr) (ci : Nat) (Bc : Option Addr) (dc : Nat) (Bk : Option Addr) (dk : Nat) (Bi : Option Addr) (di : Nat),
  HalfAt (lotsB x) (lastN x) k ∧ leastN x ≤ manyN x ∧ e = .returned (.tuple #[.agg (nodC (leftN x k) Ac cc Ak ck Ai ci), .agg (nodC (rightN x k) Bc dc Bk dk Bi di), .string (partN x k), .int .i64 0]) ∧
  NIs w' w'.heap.size (leftN x k) Ac cc Ak ck Ai ci ∧ NIs w' w'.heap.size (rightN x k) Bc dc Bk dk Bi di ∧ Below w.heap.size w w'
set_option maxRecDepth 100000 in
set_option maxHeartbeats 8000000 in
theorem split_short (w : World) (x : Nod) (Ac : Option Addr) (cc : Nat) (Ak : Option Addr) (ck : Nat) (Ai : Option Addr) (ci : Nat) (h : NIs w w.heap.size x Ac cc Ak ck Ai ci) (hl : x.cells.length ≤ 1000) (hl2 : x.keys.length ≤ 1000) (hl3 : x.kids.length ≤ 1001) (hR : RightP x) (hs : (laidB x).length ≤ 512) :
    Calls Try.prog 52 #[.agg (nodC x Ac cc Ak ck Ai ci)] w (BadOut w 2) := by
  have HL : ∀ W, Below w.heap.size w W → Calls Try.prog 116 #[.agg (nodC x Ac cc Ak ck Ai ci)] W (GivesB W (laidB x)) := fun W hW => laid_gives W x Ac cc Ak ck Ai ci (h.grow hW) hl hl2 hl3 hR
  have HLo : ∀ W, Below w.heap.size w W → Calls Try.prog 117 #[.agg (nodC x Ac cc Ak ck Ai ci)] W (LotsOut W (lotsB x)) := fun W hW => lots_gives W x Ac cc Ak ck Ai ci (h.grow hW) (by omega) (by omega) (by omega) hR
  have hmany := lots_many hR
  have hmf : ∀ (fn : Fn) (first cap : Array Value) (w : World), (Instr.makeFunc fn first cap).run Try.prog w = .ok (.func fn first cap) w := fun _ _ _ _ => rfl
  generalize laidB x = lb at *
  have hle : ¬ (512 : Int) < (lb.length : Int) := by omega
  clear hmany HLo
  obtain ⟨b1, hx, hB1⟩ := bxW_is w (nodC x Ac cc Ak ck Ai ci)
  unfold nodC at *
  obtain ⟨W1, hW1⟩ : ∃ W1, W1 = bxW w #[.bool x.leaf, .slice Ac x.cells.length cc, .slice Ak x.keys.length ck, .slice Ai x.kids.length ci] := ⟨_, rfl⟩
  rw [← hW1] at b1 hx hB1
  unfold bxW at hW1
  have HW1 := Lib.hid hW1
  clear hW1
  unfold BadOut
  go_enter_defers Try.func52, Try.ntmps52
  go_wp2_with (first
    | (rw [← HW1.out]; refine wp_loadW rfl 76 (.tmp 1) rfl w.heap.size rfl rowNod b1 (by rfl) ?_)
    | (go_at_call 116; refine (HL _ hB1).mono ?_; rintro e w2 ⟨v, rfl, own, hB2⟩; obtain ⟨A2, c2, rfl, hin2⟩ := own.inB; have hx2 := hx.past hB2; have b2 := b1.below hB2 b1.lt; have hB12 := hB1.trans (hB2.mono hB1.size))
    | (go_at_call 115; refine (must_gives _ _ _).mono ?_; rintro e w7 ⟨rfl, h7⟩; obtain ⟨v7, rfl⟩ := h7.1 rfl)
    | (go_at_call 115; refine (must_gives _ _ _).mono ?_; rintro e w7 ⟨rfl, h7⟩; obtain rfl := h7.2 (decide_eq_false (by omega))))
  refine leaves_cons (f := 113) (args := #[.pointer (some ⟨w.heap.size + 1 + 1 + 1 + 1, 0, none⟩), .func (.func 114) #[] #[.pointer (some ⟨w.heap.size + 1, 0, none⟩), .pointer (some ⟨w.heap.size + 1 + 1, 0, none⟩), .pointer (some ⟨w.heap.size + 1 + 1 + 1, 0, none⟩)]]) (by simp) (by simp [go_sem]) ?_
  refine (caught_split hx2 rfl rfl 2).mono ?_
  rintro e u' wz ⟨rfl, rfl, hxz⟩
  obtain ⟨a0, a1, a2, a3⟩ := box4 hxz.a
  obtain ⟨d0, d1, d2, d3⟩ := box4 hxz.b
  have q3 := hxz.s.boxed
  have q4 := hxz.e.boxed
  have hBf := hB1.trans (hxz.h.mono (by omega))
  simp [Leaves, settle, gave, results, Try.results52, go_sem, a0, a1, a2, a3, d0, d1, d2, d3, q3, q4, zeroN]
  exact hBf
set_option maxRecDepth 100000 in
set_option maxHeartbeats 8000000 in
theorem split_few1 (w : World) (x : Nod) (Ac : Option Addr) (cc : Nat) (Ak : Option Addr) (ck : Nat) (Ai : Option Addr) (ci : Nat) (h : NIs w w.heap.size x Ac cc Ak ck Ai ci) (hl : x.cells.length ≤ 1000) (hl2 : x.keys.length ≤ 1000) (hl3 : x.kids.length ≤ 1001) (hR : RightP x) (hf : x.leaf = true) (hs : 512 < (laidB x).length) (hn : manyN x < 2) :
    Calls Try.prog 52 #[.agg (nodC x Ac cc Ak ck Ai ci)] w (BadOut w 2) := by
  have HL : ∀ W, Below w.heap.size w W → Calls Try.prog 116 #[.agg (nodC x Ac cc Ak ck Ai ci)] W (GivesB W (laidB x)) := fun W hW => laid_gives W x Ac cc Ak ck Ai ci (h.grow hW) hl hl2 hl3 hR
  have HLo : ∀ W, Below w.heap.size w W → Calls Try.prog 117 #[.agg (nodC x Ac cc Ak ck Ai ci)] W (LotsOut W (lotsB x)) := fun W hW => lots_gives W x Ac cc Ak ck Ai ci (h.grow hW) (by omega) (by omega) (by omega) hR
  have hmany := lots_many hR
  have hmf : ∀ (fn : Fn) (first cap : Array Value) (w : World), (Instr.makeFunc fn first cap).run Try.prog w = .ok (.func fn first cap) w := fun _ _ _ _ => rfl
  generalize laidB x = lb at *
  have hle : (512 : Int) < (lb.length : Int) := by omega
  rw [← hmany] at hn
  generalize lotsB x = ls at *
  have hn2 : ¬ (2 : Int) ≤ (ls.length : Int) := by omega
  clear hmany
  obtain ⟨b1, hx, hB1⟩ := bxW_is w (nodC x Ac cc Ak ck Ai ci)
  unfold nodC at *
  obtain ⟨W1, hW1⟩ : ∃ W1, W1 = bxW w #[.bool x.leaf, .slice Ac x.cells.length cc, .slice Ak x.keys.length ck, .slice Ai x.kids.length ci] := ⟨_, rfl⟩
  rw [← hW1] at b1 hx hB1
  unfold bxW at hW1
  have HW1 := Lib.hid hW1
  clear hW1
  rw [hf] at *
  unfold BadOut
  go_enter_defers Try.func52, Try.ntmps52
  go_wp2_with (first
    | (rw [← HW1.out]; refine wp_loadW rfl 76 (.tmp 1) rfl w.heap.size rfl rowNod b1 (by rfl) ?_)
    | (go_at_call 116; refine (HL _ hB1).mono ?_; rintro e w2 ⟨v, rfl, own, hB2⟩; obtain ⟨A2, c2, rfl, hin2⟩ := own.inB; have hx2 := hx.past hB2; have b2 := b1.below hB2 b1.lt; have hB12 := hB1.trans (hB2.mono hB1.size))
    | (refine wp_loadW rfl 76 (.tmp 1) rfl w.heap.size rfl rowNod b2 (by rfl) ?_)
    | (go_at_call 117; refine (HLo _ hB12).mono ?_; rintro e w3 ⟨A3, c3, vs, rfl, hL3, hB3⟩; have hx3 := hx2.past hB3; have b3 := b2.below hB3 b2.lt; have hB13 := hB12.trans (hB3.mono hB12.size); have k0 : w3.cell? ⟨w.heap.size, 0, none⟩ = some (.bool true) := (by rw [b3.cell]; rfl))
    | (go_at_call 115; refine (must_gives _ _ _).mono ?_; rintro e w7 ⟨rfl, h7⟩; obtain ⟨v7, rfl⟩ := h7.1 rfl)
    | (go_at_call 115; refine (must_gives _ _ _).mono ?_; rintro e w7 ⟨rfl, h7⟩; obtain rfl := h7.2 (decide_eq_false (by omega))))
  refine leaves_cons (f := 113) (args := #[.pointer (some ⟨w.heap.size + 1 + 1 + 1 + 1, 0, none⟩), .func (.func 114) #[] #[.pointer (some ⟨w.heap.size + 1, 0, none⟩), .pointer (some ⟨w.heap.size + 1 + 1, 0, none⟩), .pointer (some ⟨w.heap.size + 1 + 1 + 1, 0, none⟩)]]) (by simp) (by simp [go_sem]) ?_
  refine (caught_split hx3 rfl rfl 2).mono ?_
  rintro e u' wz ⟨rfl, rfl, hxz⟩
  obtain ⟨a0, a1, a2, a3⟩ := box4 hxz.a
  obtain ⟨d0, d1, d2, d3⟩ := box4 hxz.b
  have q3 := hxz.s.boxed
  have q4 := hxz.e.boxed
  have hBf := hB1.trans (hxz.h.mono (by omega))
  simp [Leaves, settle, gave, results, Try.results52, go_sem, a0, a1, a2, a3, d0, d1, d2, d3, q3, q4, zeroN]
  exact hBf
set_option maxRecDepth 100000 in
set_option maxHeartbeats 8000000 in
theorem split_few2 (w : World) (x : Nod) (Ac : Option Addr) (cc : Nat) (Ak : Option Addr) (ck : Nat) (Ai : Option Addr) (ci : Nat) (h : NIs w w.heap.size x Ac cc Ak ck Ai ci) (hl : x.cells.length ≤ 1000) (hl2 : x.keys.length ≤ 1000) (hl3 : x.kids.length ≤ 1001) (hR : RightP x) (hf : x.leaf = false) (hs : 512 < (laidB x).length) (hn : manyN x < 3) :
    Calls Try.prog 52 #[.agg (nodC x Ac cc Ak ck Ai ci)] w (BadOut w 2) := by
  have HL : ∀ W, Below w.heap.size w W → Calls Try.prog 116 #[.agg (nodC x Ac cc Ak ck Ai ci)] W (GivesB W (laidB x)) := fun W hW => laid_gives W x Ac cc Ak ck Ai ci (h.grow hW) hl hl2 hl3 hR
  have HLo : ∀ W, Below w.heap.size w W → Calls Try.prog 117 #[.agg (nodC x Ac cc Ak ck Ai ci)] W (LotsOut W (lotsB x)) := fun W hW => lots_gives W x Ac cc Ak ck Ai ci (h.grow hW) (by omega) (by omega) (by omega) hR
  have hmany := lots_many hR
  have hmf : ∀ (fn : Fn) (first cap : Array Value) (w : World), (Instr.makeFunc fn first cap).run Try.prog w = .ok (.func fn first cap) w := fun _ _ _ _ => rfl
  generalize laidB x = lb at *
  have hle : (512 : Int) < (lb.length : Int) := by omega
  rw [← hmany] at hn
  generalize lotsB x = ls at *
  have hn2 : ¬ (3 : Int) ≤ (ls.length : Int) := by omega
  clear hmany
  obtain ⟨b1, hx, hB1⟩ := bxW_is w (nodC x Ac cc Ak ck Ai ci)
  unfold nodC at *
  obtain ⟨W1, hW1⟩ : ∃ W1, W1 = bxW w #[.bool x.leaf, .slice Ac x.cells.length cc, .slice Ak x.keys.length ck, .slice Ai x.kids.length ci] := ⟨_, rfl⟩
  rw [← hW1] at b1 hx hB1
  unfold bxW at hW1
  have HW1 := Lib.hid hW1
  clear hW1
  rw [hf] at *
  unfold BadOut
  go_enter_defers Try.func52, Try.ntmps52
  go_wp2_with (first
    | (rw [← HW1.out]; refine wp_loadW rfl 76 (.tmp 1) rfl w.heap.size rfl rowNod b1 (by rfl) ?_)
    | (go_at_call 116; refine (HL _ hB1).mono ?_; rintro e w2 ⟨v, rfl, own, hB2⟩; obtain ⟨A2, c2, rfl, hin2⟩ := own.inB; have hx2 := hx.past hB2; have b2 := b1.below hB2 b1.lt; have hB12 := hB1.trans (hB2.mono hB1.size))
    | (refine wp_loadW rfl 76 (.tmp 1) rfl w.heap.size rfl rowNod b2 (by rfl) ?_)
    | (go_at_call 117; refine (HLo _ hB12).mono ?_; rintro e w3 ⟨A3, c3, vs, rfl, hL3, hB3⟩; have hx3 := hx2.past hB3; have b3 := b2.below hB3 b2.lt; have hB13 := hB12.trans (hB3.mono hB12.size); have k0 : w3.cell? ⟨w.heap.size, 0, none⟩ = some (.bool false) := (by rw [b3.cell]; rfl))
    | (go_at_call 115; refine (must_gives _ _ _).mono ?_; rintro e w7 ⟨rfl, h7⟩; obtain ⟨v7, rfl⟩ := h7.1 rfl)
    | (go_at_call 115; refine (must_gives _ _ _).mono ?_; rintro e w7 ⟨rfl, h7⟩; obtain rfl := h7.2 (decide_eq_false (by omega))))
  refine leaves_cons (f := 113) (args := #[.pointer (some ⟨w.heap.size + 1 + 1 + 1 + 1, 0, none⟩), .func (.func 114) #[] #[.pointer (some ⟨w.heap.size + 1, 0, none⟩), .pointer (some ⟨w.heap.size + 1 + 1, 0, none⟩), .pointer (some ⟨w.heap.size + 1 + 1 + 1, 0, none⟩)]]) (by simp) (by simp [go_sem]) ?_
  refine (caught_split hx3 rfl rfl 2).mono ?_
  rintro e u' wz ⟨rfl, rfl, hxz⟩
  obtain ⟨a0, a1, a2, a3⟩ := box4 hxz.a
  obtain ⟨d0, d1, d2, d3⟩ := box4 hxz.b
  have q3 := hxz.s.boxed
  have q4 := hxz.e.boxed
  have hBf := hB1.trans (hxz.h.mono (by omega))
  simp [Leaves, settle, gave, results, Try.results52, go_sem, a0, a1, a2, a3, d0, d1, d2, d3, q3, q4, zeroN]
  exact hBf
end Go.Proofs.Ytlelckdcmlpmdaa
/- node.Split, of a leaf that is split. -/
namespace Go.Proofs.Ytlelckdcmlpmdaa
open Go Go.RowKit Lou

set_option maxRecDepth 100000 in
set_option maxHeartbeats 8000000 in
theorem split_leaf (w : World) (x : Nod) (Ac : Option Addr) (cc : Nat) (Ak : Option Addr) (ck : Nat) (Ai : Option Addr) (ci : Nat) (h : NIs w w.heap.size x Ac cc Ak ck Ai ci) (hl : x.cells.length ≤ 1000) (hl2 : x.keys.length ≤ 1000) (hl3 : x.kids.length ≤ 1001) (hR : RightP x) (hf : x.leaf = true) (hs : 512 < (laidB x).length) (hn : 2 ≤ manyN x) :
    Calls Try.prog 52 #[.agg (nodC x Ac cc Ak ck Ai ci)] w (GoodOut w x) := by
  have HL : ∀ W, Below w.heap.size w W → Calls Try.prog 116 #[.agg (nodC x Ac cc Ak ck Ai ci)] W (GivesB W (laidB x)) := fun W hW => laid_gives W x Ac cc Ak ck Ai ci (h.grow hW) hl hl2 hl3 hR
  have HLo : ∀ W, Below w.heap.size w W → Calls Try.prog 117 #[.agg (nodC x Ac cc Ak ck Ai ci)] W (LotsOut W (lotsB x)) := fun W hW => lots_gives W x Ac cc Ak ck Ai ci (h.grow hW) (by omega) (by omega) (by omega) hR
  have hmany := lots_many hR
  have hmf : ∀ (fn : Fn) (first cap : Array Value) (w : World), (Instr.makeFunc fn first cap).run Try.prog w = .ok (.func fn first cap) w := fun _ _ _ _ => rfl
  have hfl : (lotsB x).flatten.length ≤ 1000000 := by
    have := flat_bound (lotsB x) 200 (lots_each hR)
    have : (lotsB x).length ≤ 1000 := by rw [hmany]; unfold manyN; rw [hf]; exact hl
    omega
  obtain ⟨hk0, hi0, hcr⟩ := hR.leaf hf
  have hlast : lastN x = x.cells.length - 1 := by unfold lastN; rw [hf]; rfl
  have hmn : manyN x = x.cells.length := by unfold manyN; rw [hf]; rfl
  have hle2 : leastN x ≤ manyN x := by unfold leastN; rw [hf]; exact hn
  have hpart : ∀ k, (hk : k < x.cells.length) → partN x k = x.cells[k].key := fun k hk => by
    rw [partN_eq (by rw [nkeys_many, hmn]; exact hk)]
    unfold nkeys
    simp only [hf, if_true, List.getElem_map]
  have HG : ∀ (k : Nat) (e : Ending) (w' : World), (∃ (A : Option Addr) (c : Nat) (B : Option Addr) (d : Nat), HalfAt (lotsB x) (lastN x) k ∧ e = .returned (.tuple #[.agg #[.bool true, .slice A (x.cells.take k).length c, .slice none 0 0, .slice none 0 0], .agg #[.bool true, .slice B (x.cells.drop k).length d, .slice none 0 0, .slice none 0 0], .string (partN x k), .int .i64 0]) ∧ InG w' w'.heap.size 4 A (x.cells.take k).length c (clC (x.cells.take k)) ∧ InG w' w'.heap.size 4 B (x.cells.drop k).length d (clC (x.cells.drop k)) ∧ Below w.heap.size w w') → GoodOut w x e w' := by
    rintro k e w' ⟨A, c, B, d, h1, rfl, h2, h3, h4⟩
    refine ⟨k, A, c, none, 0, none, 0, B, d, none, 0, none, 0, h1, hle2, ?_, ?_, ?_, h4⟩
    · unfold leftN rightN nodC
      rw [hf]
      rfl
    · unfold leftN
      rw [hf]
      exact ⟨h2, InG.mt _ _ _, InG.mt _ _ _⟩
    · unfold rightN
      rw [hf]
      exact ⟨h3, InG.mt _ _ _, InG.mt _ _ _⟩
  have hleS : (512 : Int) < ((laidB x).length : Int) := by omega
  rw [hmn] at hmany hn
  rw [hlast] at HG
  generalize laidB x = lb at *
  generalize lotsB x = ls at *
  generalize partN x = pt at *
  generalize GoodOut w x = GO at *
  have hc := h.c
  clear hl2 hl3 hR hle2 hcr
  obtain ⟨b1, hx, hB1⟩ := bxW_is w (nodC x Ac cc Ak ck Ai ci)
  unfold nodC at *
  obtain ⟨W1, hW1⟩ : ∃ W1, W1 = bxW w #[.bool x.leaf, .slice Ac x.cells.length cc, .slice Ak x.keys.length ck, .slice Ai x.kids.length ci] := ⟨_, rfl⟩
  rw [← hW1] at b1 hx hB1
  unfold bxW at hW1
  have HW1 := Lib.hid hW1
  clear hW1
  obtain ⟨leaf, cells, keys, kids⟩ := x
  simp only at *
  subst hf hk0 hi0
  simp only [List.length_nil] at *
  have hn2 : (2 : Int) ≤ (ls.length : Int) := by omega
  have hwl : IntKind.i64.wrap ((ls.length : Int) - 1) = ((cells.length - 1 : Nat) : Int) := by rw [wrapN _ (by omega) (by omega)]; omega
  obtain ⟨gx, ox, rfl, hgx, hrx⟩ := hc.lies (by omega)
  have hlec := hc.le
  have hmaxc := hc.max
  have HWh := fun W base A c vs (hL : LotR W base (.slice A ls.length c) ls vs) => where_gives W base A c ls vs hL hfl (by omega) (cells.length - 1) (by omega)
  unfold WhereOut at HWh
  have hcl2 : 2 ≤ cells.length := by omega
  have HM := Lib.hid hmany
  have HPT := Lib.hid hpart
  have HGG := Lib.hid HG
  clear hmany hlast hmn hpart HG hn hfl
  go_enter_defers Try.func52, Try.ntmps52
  go_wp2_with (first
    | (rw [← HW1.out]; refine wp_loadW rfl 76 (.tmp 1) rfl w.heap.size rfl rowNod b1 (by rfl) ?_)
    | (go_at_call 116; refine (HL _ hB1).mono ?_; rintro e w2 ⟨v, rfl, own, hB2⟩; obtain ⟨A2, c2, rfl, hin2⟩ := own.inB; have hx2 := hx.past hB2; have b2 := b1.below hB2 b1.lt; have hB12 := hB1.trans (hB2.mono hB1.size))
    | (refine wp_loadW rfl 76 (.tmp 1) rfl w.heap.size rfl rowNod b2 (by rfl) ?_)
    | (go_at_call 117; refine (HLo _ hB12).mono ?_; rintro e w3 ⟨A3, c3, vs, rfl, hL3, hB3⟩; have hx3 := hx2.past hB3; have b3 := b2.below hB3 b2.lt; have hB13 := hB12.trans (hB3.mono hB12.size); have k0 : w3.cell? ⟨w.heap.size, 0, none⟩ = some (.bool true) := (by rw [b3.cell]; rfl))
    | (go_at_call 115; refine (must_gives _ _ _).mono ?_; rintro e w7 ⟨rfl, h7⟩; obtain ⟨v7, rfl⟩ := h7.1 rfl)
    | (go_at_call 115; refine (must_gives _ _ _).mono ?_; rintro e w7 ⟨rfl, h7⟩; obtain rfl := h7.2 (decide_eq_false (by omega)))
    | (go_at_call 118; refine (HWh _ _ _ _ _ hL3).mono ?_; rintro e w4 ⟨k, rfl, hHalf, hB4⟩))
  have hk1 := hHalf.le
  have hk : k < cells.length := by omega
  have hx4 := hx3.past hB4
  have b4 := b3.below hB4 b3.lt
  have hB14 := hB13.trans (hB4.mono hB13.size)
  have kc : w4.cell? ⟨w.heap.size, 1, none⟩ = some (.slice (some ⟨gx, ox, none⟩) cells.length cc) := by rw [b4.cell]; rfl
  have hpw : w.heap.size < w4.heap.size := b4.lt
  have hpe := hx4.e.lt
  have HC1 : ∀ W, Below (w.heap.size + 1) w4 W → W.cell? ⟨w.heap.size, 1, none⟩ = some (.slice (some ⟨gx, ox, none⟩) cells.length cc) := fun W hW => (hW.cell (p := ⟨w.heap.size, 1, none⟩) (Nat.lt_succ_self _)).trans kc
  have HKEY : ∀ W, Below (w.heap.size + 1) w4 W → W.cell? ⟨gx, ox + k * 4, none⟩ = some (.string cells[k].key) := fun W hW => (hW.cell (p := ⟨gx, ox + k * 4, none⟩) (by show gx < _; omega)).trans ((hB14.cell (p := ⟨gx, ox + k * 4, none⟩) hgx).trans (cel0 (cel_at hc rfl k hk)))
  have hcw : ∀ W, Below (w.heap.size + 1) w4 W → InG W W.heap.size 4 (some ⟨gx, ox, none⟩) cells.length cc (clC cells) := fun W hW => (hc.below (hB14.trans (hW.mono (Nat.le_succ _)))).more (by have := hW.size; omega)
  have hlt : (cells.take k).length = k := by rw [List.length_take]; omega
  have hrt : (cells.drop k).length = cells.length - k := List.length_drop
  have HCa : ∀ W, Below (w.heap.size + 1) w4 W → Calls Try.prog 119 #[.slice (some ⟨gx, ox, none⟩) k cc] W fun e w' => ∃ A c, e = .returned (.slice A k c) ∧ w'.ownsRow W.heap.size 205 4 (.slice A k c) k (clC (cells.take k)) ∧ Below W.heap.size W w' := fun W hW => by
    have := cclone_gives W (some ⟨gx, ox, none⟩) cc (cells.take k) (by rw [hlt, ← clC_take]; exact (hcw W hW).take k cc (by omega) (by omega) (Nat.le_refl _)) (by omega)
    unfold OwnCels at this
    rw [hlt] at this
    exact this
  have HCb : ∀ W, Below (w.heap.size + 1) w4 W → Calls Try.prog 119 #[.slice (some ⟨gx, ox + k * 4, none⟩) (cells.length - k) (cc - k)] W fun e w' => ∃ A c, e = .returned (.slice A (cells.length - k) c) ∧ w'.ownsRow W.heap.size 205 4 (.slice A (cells.length - k) c) (cells.length - k) (clC (cells.drop k)) ∧ Below W.heap.size W w' := fun W hW => by
    have := cclone_gives W (some ⟨gx, ox + k * 4, none⟩) (cc - k) (cells.drop k) (by rw [hrt, ← clC_drop]; exact (hcw W hW).drop k (by omega)) (by omega)
    unfold OwnCels at this
    rw [hrt] at this
    exact this
  have HPK := HPT.out k hk
  generalize cells[k].key = key at *
  have HPK2 := Lib.hid HPK
  have hkI : (k : Int) < (cells.length : Int) := by omega
  have hkI1 : (k : Int) ≤ (cells.length : Int) := by omega
  have hkI2 : (k : Int) ≤ (cc : Int) := by omega
  have hkI3 : (0 : Int) ≤ (k : Int) := by omega
  have hkI4 : k ≤ cc := by omega
  have hkI6 : ¬ cc = k := by omega
  have hkI5 : (cells.length : Int) ≤ (cc : Int) := by omega
  have hsub1 : ((cells.length : Int) - (k : Int)).toNat = cells.length - k := by omega
  have hsub2 : ((cc : Int) - (k : Int)).toNat = cc - k := by omega
  have hBd : Below (w.heap.size + 1) w4 w4.drew := (Below.refl _ w4).drew
  have hxd := hx4.base.drew
  clear HL HLo hB1 hB2 hB3 hB4 b1 b2 b3 b4 kc hc hrx HPK hx hx2 hx3 hx4 hL3 own hin2
  refine wp_region_noPanic ?_
  refine RegF.start (fun W => Below (w.heap.size + 1) w4 W) 27 (by kernel_rfl) ?_
  refine RegF.take 0 (.pointer (some ⟨w.heap.size, 1, none⟩)) rfl (by kernel_rfl) (by kernel_rfl) (by kernel_rfl) (by kernel_rfl) (fun _ _ _ h => h) hBd (RegF.yld rfl (fun W hW => by go_simp)) ?_
  simp only [List.getElem_toArray, List.getElem_cons_zero, Act.put, List.setIfInBounds_toArray, List.set_cons_zero, List.set_cons_succ]
  refine RegF.take 1 (.slice (some ⟨gx, ox, none⟩) cells.length cc) rfl (by kernel_rfl) (by kernel_rfl) (by kernel_rfl) (by kernel_rfl) (fun _ _ _ h => h) hBd (RegF.yld rfl (fun W hW => by have e := HC1 W hW; go_simp)) ?_
  simp only [List.getElem_toArray, List.getElem_cons_succ, List.getElem_cons_zero, Act.put, List.setIfInBounds_toArray, List.set_cons_zero, List.set_cons_succ]
  refine RegF.take 2 (.int .i64 (k : Int)) rfl (by kernel_rfl) (by kernel_rfl) (by kernel_rfl) (by kernel_rfl) (fun _ _ _ h => h) hBd (RegF.yld rfl (fun W hW => by go_simp)) ?_
  simp only [List.getElem_toArray, List.getElem_cons_succ, List.getElem_cons_zero, Act.put, List.setIfInBounds_toArray, List.set_cons_zero, List.set_cons_succ]
  refine RegF.take 3 (.slice (some ⟨gx, ox, none⟩) k cc) rfl (by kernel_rfl) (by kernel_rfl) (by kernel_rfl) (by kernel_rfl) (fun _ _ _ h => h) hBd (RegF.yld rfl (fun W hW => by go_simp)) ?_
  simp only [List.getElem_toArray, List.getElem_cons_succ, List.getElem_cons_zero, Act.put, List.setIfInBounds_toArray, List.set_cons_zero, List.set_cons_succ]
  refine RegF.take 5 (.pointer (some ⟨w.heap.size, 1, none⟩)) rfl (by kernel_rfl) (by kernel_rfl) (by kernel_rfl) (by kernel_rfl) (fun _ _ _ h => h) hBd (RegF.yld rfl (fun W hW => by go_simp)) ?_
  simp only [List.getElem_toArray, List.getElem_cons_succ, List.getElem_cons_zero, Act.put, List.setIfInBounds_toArray, List.set_cons_zero, List.set_cons_succ]
  refine RegF.take 6 (.slice (some ⟨gx, ox, none⟩) cells.length cc) rfl (by kernel_rfl) (by kernel_rfl) (by kernel_rfl) (by kernel_rfl) (fun _ _ _ h => h) hBd (RegF.yld rfl (fun W hW => by have e := HC1 W hW; go_simp)) ?_
  simp only [List.getElem_toArray, List.getElem_cons_succ, List.getElem_cons_zero, Act.put, List.setIfInBounds_toArray, List.set_cons_zero, List.set_cons_succ]
  refine RegF.take 7 (.int .i64 (k : Int)) rfl (by kernel_rfl) (by kernel_rfl) (by kernel_rfl) (by kernel_rfl) (fun _ _ _ h => h) hBd (RegF.yld rfl (fun W hW => by go_simp)) ?_
  simp only [List.getElem_toArray, List.getElem_cons_succ, List.getElem_cons_zero, Act.put, List.setIfInBounds_toArray, List.set_cons_zero, List.set_cons_succ]
  refine RegF.take 8 (.slice (some ⟨gx, ox + k * 4, none⟩) (cells.length - k) (cc - k)) rfl (by kernel_rfl) (by kernel_rfl) (by kernel_rfl) (by kernel_rfl) (fun _ _ _ h => h) hBd (RegF.yld rfl (fun W hW => by go_simp)) ?_
  simp only [List.getElem_toArray, List.getElem_cons_succ, List.getElem_cons_zero, Act.put, List.setIfInBounds_toArray, List.set_cons_zero, List.set_cons_succ]
  refine RegF.take 10 (.pointer (some ⟨w.heap.size, 1, none⟩)) rfl (by kernel_rfl) (by kernel_rfl) (by kernel_rfl) (by kernel_rfl) (fun _ _ _ h => h) hBd (RegF.yld rfl (fun W hW => by go_simp)) ?_
  simp only [List.getElem_toArray, List.getElem_cons_succ, List.getElem_cons_zero, Act.put, List.setIfInBounds_toArray, List.set_cons_zero, List.set_cons_succ]
  refine RegF.take 11 (.slice (some ⟨gx, ox, none⟩) cells.length cc) rfl (by kernel_rfl) (by kernel_rfl) (by kernel_rfl) (by kernel_rfl) (fun _ _ _ h => h) hBd (RegF.yld rfl (fun W hW => by have e := HC1 W hW; go_simp)) ?_
  simp only [List.getElem_toArray, List.getElem_cons_succ, List.getElem_cons_zero, Act.put, List.setIfInBounds_toArray, List.set_cons_zero, List.set_cons_succ]
  refine RegF.take 12 (.int .i64 (k : Int)) rfl (by kernel_rfl) (by kernel_rfl) (by kernel_rfl) (by kernel_rfl) (fun _ _ _ h => h) hBd (RegF.yld rfl (fun W hW => by go_simp)) ?_
  simp only [List.getElem_toArray, List.getElem_cons_succ, List.getElem_cons_zero, Act.put, List.setIfInBounds_toArray, List.set_cons_zero, List.set_cons_succ]
  refine RegF.take 13 (.pointer (some ⟨gx, ox + k * 4, none⟩)) rfl (by kernel_rfl) (by kernel_rfl) (by kernel_rfl) (by kernel_rfl) (fun _ _ _ h => h) hBd (RegF.yld rfl (fun W hW => by go_simp)) ?_
  simp only [List.getElem_toArray, List.getElem_cons_succ, List.getElem_cons_zero, Act.put, List.setIfInBounds_toArray, List.set_cons_zero, List.set_cons_succ]
  refine RegF.take 14 (.pointer (some ⟨gx, ox + k * 4, none⟩)) rfl (by kernel_rfl) (by kernel_rfl) (by kernel_rfl) (by kernel_rfl) (fun _ _ _ h => h) hBd (RegF.yld rfl (fun W hW => by go_simp)) ?_
  simp only [List.getElem_toArray, List.getElem_cons_succ, List.getElem_cons_zero, Act.put, List.setIfInBounds_toArray, List.set_cons_zero, List.set_cons_succ]
  refine RegF.take 15 (.string key) rfl (by kernel_rfl) (by kernel_rfl) (by kernel_rfl) (by kernel_rfl) (fun _ _ _ h => h) hBd (RegF.yld rfl (fun W hW => by have e := HKEY W hW; go_simp)) ?_
  simp only [List.getElem_toArray, List.getElem_cons_succ, List.getElem_cons_zero, Act.put, List.setIfInBounds_toArray, List.set_cons_zero, List.set_cons_succ]
  refine RegF.one 4 (by kernel_rfl) ?_
  refine RegF.opC 119 #[.tmp 31] #[72] rfl rfl rfl (enters_of Try.func119 (by kernel_rfl) rfl) #[.slice (some ⟨gx, ox, none⟩) k cc] (by simp only [List.map_toArray, List.map_cons, List.map_nil]; rfl) ((HCa _ hBd).mono ?_)
  rintro e w5 ⟨A5, c5, rfl, own5, hB5⟩
  have hB5w : Below (w.heap.size + 1) w4 w5 := hBd.trans (hB5.mono hpw)
  have hx5 := hxd.past hB5
  refine ⟨_, rfl, fun _ => hB5w, ?_⟩
  simp only [List.getElem_toArray, List.getElem_cons_succ, List.getElem_cons_zero, Act.put, List.setIfInBounds_toArray, List.set_cons_zero, List.set_cons_succ]
  refine RegF.one 9 (by kernel_rfl) ?_
  refine RegF.opC 119 #[.tmp 36] #[72] rfl rfl rfl (enters_of Try.func119 (by kernel_rfl) rfl) #[.slice (some ⟨gx, ox + k * 4, none⟩) (cells.length - k) (cc - k)] (by simp only [List.map_toArray, List.map_cons, List.map_nil]; rfl) ((HCb _ hB5w).mono ?_)
  rintro e w6 ⟨A6, c6, rfl, own6, hB6⟩
  have hB6w : Below (w.heap.size + 1) w4 w6 := hB5w.trans (hB6.mono (by have := hB5w.size; omega))
  have hx6 := hx5.past hB6
  have own5' := ownG_grow own5 hB6
  refine ⟨_, rfl, fun _ => hB6w, ?_⟩
  simp only [List.getElem_toArray, List.getElem_cons_succ, List.getElem_cons_zero, Act.put, List.setIfInBounds_toArray, List.set_cons_zero, List.set_cons_succ]
  refine RegF.one 16 (by kernel_rfl) ?_
  refine RegF.opS rfl rfl (x_storeN (cs' := #[.bool false, .slice none 0 0, .slice none 0 0, .slice none 0 0]) 76 (.tmp 2) (.const (.agg #[.bool false, .slice none 0 0, .slice none 0 0, .slice none 0 0])) rfl (w.heap.size + 1) rfl rfl rowNod hx6.a (by rfl) (by rfl) (zeroN_one)) ⟨fun _ => (hx6.rowA #[.bool false, .slice none 0 0, .slice none 0 0, .slice none 0 0]).h, ?_⟩
  have h1 := hx6.rowA #[.bool false, .slice none 0 0, .slice none 0 0, .slice none 0 0]
  obtain ⟨V1, hV1⟩ : ∃ V, World.setRow w6 (w.heap.size + 1) #[.bool false, .slice none 0 0, .slice none 0 0, .slice none 0 0] = V := ⟨_, rfl⟩
  have o1 : ∀ r, w.heap.size + 1 + 1 + 1 + 1 < r → V1.heap[r]? = w6.heap[r]? := fun r hr => by rw [← hV1]; exact setRow_other _ _ r _ (by omega)
  rw [hV1] at h1
  rw [hV1]
  clear hV1
  simp only [List.getElem_toArray, List.getElem_cons_succ, List.getElem_cons_zero, Act.put]
  refine RegF.one 17 (by kernel_rfl) ?_
  refine RegF.opV (.pointer (some ⟨w.heap.size + 1, 0, none⟩)) rfl rfl (by go_simp) ⟨fun _ => h1.h, ?_⟩
  simp only [List.getElem_toArray, List.getElem_cons_succ, List.getElem_cons_zero, Act.put, List.setIfInBounds_toArray, List.set_cons_zero, List.set_cons_succ]
  have kc2 := h1.a.cell 0
  have kf2 := h1.a.free 0
  simp only [List.getElem?_toArray, List.getElem?_cons_zero] at kc2
  refine RegF.one 18 (by kernel_rfl) ?_
  refine RegF.opS (w' := World.setCell V1 ⟨w.heap.size + 1, 0, none⟩ (.bool true)) rfl rfl (by go_simp) ⟨(fun _ => (h1.setA 0 (.bool true)).h), ?_⟩
  have h2 := h1.setA 0 (.bool true)
  obtain ⟨V2, hV2⟩ : ∃ V, World.setCell V1 ⟨w.heap.size + 1, 0, none⟩ (.bool true) = V := ⟨_, rfl⟩
  have o2 : ∀ r, w.heap.size + 1 + 1 + 1 + 1 < r → V2.heap[r]? = w6.heap[r]? := fun r hr => by rw [← hV2]; exact (Below.heap_setCell _ _ _ r (by show r ≠ w.heap.size + 1; omega)).trans (o1 r hr)
  rw [hV2] at h2
  rw [hV2]
  try simp only [List.setIfInBounds_toArray, List.set_cons_zero] at h2
  clear hV2 kc2 kf2
  simp only [List.getElem_toArray, List.getElem_cons_succ, List.getElem_cons_zero, Act.put]
  refine RegF.one 19 (by kernel_rfl) ?_
  refine RegF.opV (.pointer (some ⟨w.heap.size + 1, 1, none⟩)) rfl rfl (by go_simp) ⟨fun _ => h2.h, ?_⟩
  simp only [List.getElem_toArray, List.getElem_cons_succ, List.getElem_cons_zero, Act.put, List.setIfInBounds_toArray, List.set_cons_zero, List.set_cons_succ]
  have kc3 := h2.a.cell 1
  have kf3 := h2.a.free 1
  simp only [List.getElem?_toArray, List.getElem?_cons_zero, List.getElem?_cons_succ] at kc3
  refine RegF.one 20 (by kernel_rfl) ?_
  refine RegF.opS (w' := World.setCell V2 ⟨w.heap.size + 1, 1, none⟩ (.slice A5 k c5)) rfl rfl (by go_simp) ⟨(fun _ => (h2.setA 1 (.slice A5 k c5)).h), ?_⟩
  have h3 := h2.setA 1 (.slice A5 k c5)
  obtain ⟨V3, hV3⟩ : ∃ V, World.setCell V2 ⟨w.heap.size + 1, 1, none⟩ (.slice A5 k c5) = V := ⟨_, rfl⟩
  have o3 : ∀ r, w.heap.size + 1 + 1 + 1 + 1 < r → V3.heap[r]? = w6.heap[r]? := fun r hr => by rw [← hV3]; exact (Below.heap_setCell _ _ _ r (by show r ≠ w.heap.size + 1; omega)).trans (o2 r hr)
  rw [hV3] at h3
  rw [hV3]
  try simp only [List.setIfInBounds_toArray, List.set_cons_zero, List.set_cons_succ] at h3
  clear hV3 kc3 kf3
  simp only [List.getElem_toArray, List.getElem_cons_succ, List.getElem_cons_zero, Act.put]
  refine RegF.one 21 (by kernel_rfl) ?_
  refine RegF.opS rfl rfl (x_storeN (cs' := #[.bool false, .slice none 0 0, .slice none 0 0, .slice none 0 0]) 76 (.tmp 3) (.const (.agg #[.bool false, .slice none 0 0, .slice none 0 0, .slice none 0 0])) rfl (w.heap.size + 1 + 1) rfl rfl rowNod h3.b (by rfl) (by rfl) (zeroN_one)) ⟨fun _ => (h3.rowB #[.bool false, .slice none 0 0, .slice none 0 0, .slice none 0 0]).h, ?_⟩
  have h4 := h3.rowB #[.bool false, .slice none 0 0, .slice none 0 0, .slice none 0 0]
  obtain ⟨V4, hV4⟩ : ∃ V, World.setRow V3 (w.heap.size + 1 + 1) #[.bool false, .slice none 0 0, .slice none 0 0, .slice none 0 0] = V := ⟨_, rfl⟩
  have o4 : ∀ r, w.heap.size + 1 + 1 + 1 + 1 < r → V4.heap[r]? = w6.heap[r]? := fun r hr => by rw [← hV4]; exact (setRow_other _ _ r _ (by omega)).trans (o3 r hr)
  rw [hV4] at h4
  rw [hV4]
  clear hV4
  simp only [List.getElem_toArray, List.getElem_cons_succ, List.getElem_cons_zero, Act.put]
  refine RegF.one 22 (by kernel_rfl) ?_
  refine RegF.opV (.pointer (some ⟨w.heap.size + 1 + 1, 0, none⟩)) rfl rfl (by go_simp) ⟨fun _ => h4.h, ?_⟩
  simp only [List.getElem_toArray, List.getElem_cons_succ, List.getElem_cons_zero, Act.put, List.setIfInBounds_toArray, List.set_cons_zero, List.set_cons_succ]
  have kc5 := h4.b.cell 0
  have kf5 := h4.b.free 0
  simp only [List.getElem?_toArray, List.getElem?_cons_zero] at kc5
  refine RegF.one 23 (by kernel_rfl) ?_
  refine RegF.opS (w' := World.setCell V4 ⟨w.heap.size + 1 + 1, 0, none⟩ (.bool true)) rfl rfl (by go_simp) ⟨(fun _ => (h4.setB 0 (.bool true)).h), ?_⟩
  have h5 := h4.setB 0 (.bool true)
  obtain ⟨V5, hV5⟩ : ∃ V, World.setCell V4 ⟨w.heap.size + 1 + 1, 0, none⟩ (.bool true) = V := ⟨_, rfl⟩
  have o5 : ∀ r, w.heap.size + 1 + 1 + 1 + 1 < r → V5.heap[r]? = w6.heap[r]? := fun r hr => by rw [← hV5]; exact (Below.heap_setCell _ _ _ r (by show r ≠ w.heap.size + 1 + 1; omega)).trans (o4 r hr)
  rw [hV5] at h5
  rw [hV5]
  try simp only [List.setIfInBounds_toArray, List.set_cons_zero] at h5
  clear hV5 kc5 kf5
  simp only [List.getElem_toArray, List.getElem_cons_succ, List.getElem_cons_zero, Act.put]
  refine RegF.one 24 (by kernel_rfl) ?_
  refine RegF.opV (.pointer (some ⟨w.heap.size + 1 + 1, 1, none⟩)) rfl rfl (by go_simp) ⟨fun _ => h5.h, ?_⟩
  simp only [List.getElem_toArray, List.getElem_cons_succ, List.getElem_cons_zero, Act.put, List.setIfInBounds_toArray, List.set_cons_zero, List.set_cons_succ]
  have kc6 := h5.b.cell 1
  have kf6 := h5.b.free 1
  simp only [List.getElem?_toArray, List.getElem?_cons_zero, List.getElem?_cons_succ] at kc6
  refine RegF.one 25 (by kernel_rfl) ?_
  refine RegF.opS (w' := World.setCell V5 ⟨w.heap.size + 1 + 1, 1, none⟩ (.slice A6 (cells.length - k) c6)) rfl rfl (by go_simp) ⟨(fun _ => (h5.setB 1 (.slice A6 (cells.length - k) c6)).h), ?_⟩
  have h6 := h5.setB 1 (.slice A6 (cells.length - k) c6)
  obtain ⟨V6, hV6⟩ : ∃ V, World.setCell V5 ⟨w.heap.size + 1 + 1, 1, none⟩ (.slice A6 (cells.length - k) c6) = V := ⟨_, rfl⟩
  have o6 : ∀ r, w.heap.size + 1 + 1 + 1 + 1 < r → V6.heap[r]? = w6.heap[r]? := fun r hr => by rw [← hV6]; exact (Below.heap_setCell _ _ _ r (by show r ≠ w.heap.size + 1 + 1; omega)).trans (o5 r hr)
  rw [hV6] at h6
  rw [hV6]
  try simp only [List.setIfInBounds_toArray, List.set_cons_zero, List.set_cons_succ] at h6
  clear hV6 kc6 kf6
  simp only [List.getElem_toArray, List.getElem_cons_succ, List.getElem_cons_zero, Act.put]
  have kc7 := h6.s.cell 0
  have kf7 := h6.s.free 0
  simp only [List.getElem?_toArray, List.getElem?_cons_zero] at kc7
  refine RegF.one 26 (by kernel_rfl) ?_
  refine RegF.opS (w' := World.setCell V6 ⟨w.heap.size + 1 + 1 + 1, 0, none⟩ (.string key)) rfl rfl (by go_simp) ⟨(fun _ => (h6.setS (.string key)).h), ?_⟩
  have h7 := h6.setS (.string key)
  obtain ⟨V7, hV7⟩ : ∃ V, World.setCell V6 ⟨w.heap.size + 1 + 1 + 1, 0, none⟩ (.string key) = V := ⟨_, rfl⟩
  have o7 : ∀ r, w.heap.size + 1 + 1 + 1 + 1 < r → V7.heap[r]? = w6.heap[r]? := fun r hr => by rw [← hV7]; exact (Below.heap_setCell _ _ _ r (by show r ≠ w.heap.size + 1 + 1 + 1; omega)).trans (o6 r hr)
  rw [hV7] at h7
  rw [hV7]
  try simp only [List.getElem?_toArray, List.getElem?_cons_zero, List.getElem?_cons_succ, List.setIfInBounds_toArray, List.set_cons_zero, List.set_cons_succ] at h7
  clear hV7 kc7 kf7
  simp only [List.getElem_toArray, List.getElem_cons_succ, List.getElem_cons_zero, Act.put]
  have kc8 := h7.e.cell 0
  have kf8 := h7.e.free 0
  simp only [List.getElem?_toArray, List.getElem?_cons_zero] at kc8
  refine RegF.one 27 (by kernel_rfl) ?_
  refine RegF.opS (w' := World.setCell V7 ⟨w.heap.size + 1 + 1 + 1 + 1, 0, none⟩ (.int .i64 0)) rfl rfl (by go_simp) ⟨(fun h => absurd rfl h), ?_⟩
  have h8 := h7.setE (.int .i64 0)
  obtain ⟨V8, hV8⟩ : ∃ V, World.setCell V7 ⟨w.heap.size + 1 + 1 + 1 + 1, 0, none⟩ (.int .i64 0) = V := ⟨_, rfl⟩
  have o8 : ∀ r, w.heap.size + 1 + 1 + 1 + 1 < r → V8.heap[r]? = w6.heap[r]? := fun r hr => by rw [← hV8]; exact (Below.heap_setCell _ _ _ r (by show r ≠ w.heap.size + 1 + 1 + 1 + 1; omega)).trans (o7 r hr)
  rw [hV8] at h8
  rw [hV8]
  try simp only [List.getElem?_toArray, List.getElem?_cons_zero, List.getElem?_cons_succ, List.setIfInBounds_toArray, List.set_cons_zero, List.set_cons_succ] at h8
  clear hV8 kc8 kf8
  simp only [List.getElem_toArray, List.getElem_cons_succ, List.getElem_cons_zero, Act.put]
  refine RegF.done (by kernel_rfl) ?_
  refine NoPanic.normal ?_
  go_wp2
  refine leaves_cons (f := 113) (args := #[.pointer (some ⟨w.heap.size + 1 + 1 + 1 + 1, 0, none⟩), .func (.func 114) #[] #[.pointer (some ⟨w.heap.size + 1, 0, none⟩), .pointer (some ⟨w.heap.size + 1 + 1, 0, none⟩), .pointer (some ⟨w.heap.size + 1 + 1 + 1, 0, none⟩)]]) (by simp) (by simp [go_sem]) ?_
  refine (caught_idle _ _ _).mono ?_
  rintro e u' wz ⟨rfl, rfl, rfl⟩
  obtain ⟨a0, a1, a2, a3⟩ := box4 h8.a
  obtain ⟨d0, d1, d2, d3⟩ := box4 h8.b
  have q3 := h8.s.boxed
  have q4 := h8.e.boxed
  have hBf := hB14.trans (h8.h.mono (by omega))
  have hsz := h8.h.size
  have hBz : Below w.heap.size w wz := hB14.trans (h8.h.mono (Nat.le_succ _))
  have ownA := ownG_later (w' := wz) own5' fun r hr => o8 r (by have := ownG_ge own5' r hr; have e : w4.drew.heap.size = w4.heap.size := rfl; omega)
  have ownB := ownG_later (w' := wz) own6 fun r hr => o8 r (by have := ownG_ge own6 r hr; have := hB5w.size; omega)
  obtain ⟨Aa, ca, ea, hinA⟩ := ownG_in ownA (clC_one _)
  obtain ⟨Ab, cb, eb, hinB⟩ := ownG_in ownB (clC_one _)
  injection ea with ea1 ea2 ea3
  injection eb with eb1 eb2 eb3
  subst ea1 ea3 eb1 eb3
  simp [Leaves, settle, results, Try.results52, go_sem, a0, a1, a2, a3, d0, d1, d2, d3, q3, q4]
  refine HGG.out k _ _ ⟨A5, c5, A6, c6, hHalf, ?_, ?_, ?_, hBz⟩
  · rw [hlt, hrt, HPK2.out]
  · rw [hlt]; exact hinA
  · rw [hrt]; exact hinB
end Go.Proofs.Ytlelckdcmlpmdaa
/- node.Split, of an inner node that is split. -/
namespace Go.Proofs.Ytlelckdcmlpmdaa
open Go Go.RowKit Lou

theorem Bx.sS {w0 w : World} {p : Nat} {a b : Array Value} {s e : Value} (h : Bx w0 w p a b s e) : Below (p + 1) w0 w ∧ BlkIs w (p + 1) 76 a ∧ BlkIs w (p + 1 + 1) 76 b := ⟨h.h, h.a, h.b⟩
theorem x_loadN {P : Program} {w : World} {ρ : Operand → Value} {o : Oper} {T t : TypeId} {k g : Nat} {cs : Array Value} {x : Operand} (hT : RowTy P T k) (hb : BlkIs w g t cs) (hk : cs.size = k) (ho : o.op = .load T x) (hx : ρ x = .pointer (some ⟨g, 0, none⟩)) : (execOp ρ o).run P w = .ok (.value (.agg cs)) w := by
  have := x_loadM (ρ := ρ) (o := o) hT hb.range (by simpa using hk) ho hx
  simpa using this
theorem four_one {v0 v1 v2 v3 : Value} (h0 : v0.oneCell' = true) (h1 : v1.oneCell' = true) (h2 : v2.oneCell' = true) (h3 : v3.oneCell' = true) : ∀ v ∈ (#[v0, v1, v2, v3] : Array Value).toList, v.oneCell' = true := by
  intro v hv
  simp at hv
  rcases hv with rfl | rfl | rfl | rfl <;> assumption
set_option maxRecDepth 100000 in
set_option maxHeartbeats 8000000 in
theorem split_inner (w : World) (x : Nod) (Ac : Option Addr) (cc : Nat) (Ak : Option Addr) (ck : Nat) (Ai : Option Addr) (ci : Nat) (h : NIs w w.heap.size x Ac cc Ak ck Ai ci) (hl : x.cells.length ≤ 1000) (hl2 : x.keys.length ≤ 1000) (hl3 : x.kids.length ≤ 1001) (hR : RightP x) (hf : x.leaf = false) (hs : 512 < (laidB x).length) (hn : 3 ≤ manyN x) :
    Calls Try.prog 52 #[.agg (nodC x Ac cc Ak ck Ai ci)] w (GoodOut w x) := by
  have HL : ∀ W, Below w.heap.size w W → Calls Try.prog 116 #[.agg (nodC x Ac cc Ak ck Ai ci)] W (GivesB W (laidB x)) := fun W hW => laid_gives W x Ac cc Ak ck Ai ci (h.grow hW) hl hl2 hl3 hR
  have HLo : ∀ W, Below w.heap.size w W → Calls Try.prog 117 #[.agg (nodC x Ac cc Ak ck Ai ci)] W (LotsOut W (lotsB x)) := fun W hW => lots_gives W x Ac cc Ak ck Ai ci (h.grow hW) (by omega) (by omega) (by omega) hR
  have hmany := lots_many hR
  have hmf : ∀ (fn : Fn) (first cap : Array Value) (w : World), (Instr.makeFunc fn first cap).run Try.prog w = .ok (.func fn first cap) w := fun _ _ _ _ => rfl
  have hfl : (lotsB x).flatten.length ≤ 1000000 := by
    have := flat_bound (lotsB x) 200 (lots_each hR)
    have : (lotsB x).length ≤ 1000 := by rw [hmany]; unfold manyN; rw [hf]; exact hl2
    omega
  obtain ⟨hc0, hk0, hik, hcr⟩ := hR.inner hf
  have hlast : lastN x = x.keys.length - 2 := by unfold lastN; rw [hf]; rfl
  have hmn : manyN x = x.keys.length := by unfold manyN; rw [hf]; rfl
  have hle2 : leastN x ≤ manyN x := by unfold leastN; rw [hf]; exact hn
  have hpart : ∀ k, (hk : k < x.keys.length) → partN x k = x.keys[k] := fun k hk => by
    rw [partN_eq (by rw [nkeys_many, hmn]; exact hk)]
    unfold nkeys
    simp only [hf, Bool.false_eq_true, if_false]
  have HG : ∀ (k : Nat) (e : Ending) (w' : World), (∃ (A : Option Addr) (c : Nat) (A' : Option Addr) (c' : Nat) (B : Option Addr) (d : Nat) (B' : Option Addr) (d' : Nat), HalfAt (lotsB x) (lastN x) k ∧ e = .returned (.tuple #[.agg #[.bool false, .slice none 0 0, .slice A (x.keys.take k).length c, .slice A' (x.kids.take (k + 1)).length c'], .agg #[.bool false, .slice none 0 0, .slice B (x.keys.drop (k + 1)).length d, .slice B' (x.kids.drop (k + 1)).length d'], .string (partN x k), .int .i64 0]) ∧ InG w' w'.heap.size 1 A (x.keys.take k).length c (skC (x.keys.take k)) ∧ InG w' w'.heap.size 1 A' (x.kids.take (k + 1)).length c' (ikC (x.kids.take (k + 1))) ∧ InG w' w'.heap.size 1 B (x.keys.drop (k + 1)).length d (skC (x.keys.drop (k + 1))) ∧ InG w' w'.heap.size 1 B' (x.kids.drop (k + 1)).length d' (ikC (x.kids.drop (k + 1))) ∧ Below w.heap.size w w') → GoodOut w x e w' := by
    rintro k e w' ⟨A, c, A', c', B, d, B', d', h1, rfl, h2, h3, h4, h5, h6⟩
    refine ⟨k, none, 0, A, c, A', c', none, 0, B, d, B', d', h1, hle2, ?_, ?_, ?_, h6⟩
    · unfold leftN rightN nodC
      rw [hf]
      rfl
    · unfold leftN
      rw [hf]
      exact ⟨InG.mt _ _ _, h2, h3⟩
    · unfold rightN
      rw [hf]
      exact ⟨InG.mt _ _ _, h4, h5⟩
  have hleS : (512 : Int) < ((laidB x).length : Int) := by omega
  rw [hmn] at hmany hn
  rw [hlast] at HG
  generalize laidB x = lb at *
  generalize lotsB x = ls at *
  generalize partN x = pt at *
  generalize GoodOut w x = GO at *
  have hkc := h.k
  have hic := h.i
  clear hl hR hle2 hcr
  obtain ⟨b1, hx, hB1⟩ := bxW_is w (nodC x Ac cc Ak ck Ai ci)
  unfold nodC at *
  obtain ⟨W1, hW1⟩ : ∃ W1, W1 = bxW w #[.bool x.leaf, .slice Ac x.cells.length cc, .slice Ak x.keys.length ck, .slice Ai x.kids.length ci] := ⟨_, rfl⟩
  rw [← hW1] at b1 hx hB1
  unfold bxW at hW1
  have HW1 := Lib.hid hW1
  clear hW1
  obtain ⟨leaf, cells, keys, kids⟩ := x
  simp only at *
  subst hf hc0
  simp only [List.length_nil] at *
  have hn2 : (3 : Int) ≤ (ls.length : Int) := by omega
  have hwl : IntKind.i64.wrap ((ls.length : Int) - 2) = ((keys.length - 2 : Nat) : Int) := by rw [wrapN _ (by omega) (by omega)]; omega
  obtain ⟨gk, ok, rfl, hgk, hrk⟩ := hkc.lies (by omega)
  obtain ⟨gi, oi, rfl, hgi, hri⟩ := hic.lies (by omega)
  have hlek := hkc.le
  have hmaxk := hkc.max
  have hlei := hic.le
  have hmaxi := hic.max
  have HWh := fun W base A c vs (hL : LotR W base (.slice A ls.length c) ls vs) => where_gives W base A c ls vs hL hfl (by omega) (keys.length - 2) (by omega)
  unfold WhereOut at HWh
  have hkl2 : 3 ≤ keys.length := by omega
  have hikl : kids.length = keys.length + 1 := hik
  have HM := Lib.hid hmany
  have HPT := Lib.hid hpart
  have HGG := Lib.hid HG
  have HIK := Lib.hid hikl
  clear hmany hlast hmn hpart HG hn hfl hik hikl hk0
  go_enter_defers Try.func52, Try.ntmps52
  go_wp2_with (first
    | (rw [← HW1.out]; refine wp_loadW rfl 76 (.tmp 1) rfl w.heap.size rfl rowNod b1 (by rfl) ?_)
    | (go_at_call 116; refine (HL _ hB1).mono ?_; rintro e w2 ⟨v, rfl, own, hB2⟩; obtain ⟨A2, c2, rfl, hin2⟩ := own.inB; have hx2 := hx.past hB2; have b2 := b1.below hB2 b1.lt; have hB12 := hB1.trans (hB2.mono hB1.size))
    | (refine wp_loadW rfl 76 (.tmp 1) rfl w.heap.size rfl rowNod b2 (by rfl) ?_)
    | (go_at_call 117; refine (HLo _ hB12).mono ?_; rintro e w3 ⟨A3, c3, vs, rfl, hL3, hB3⟩; have hx3 := hx2.past hB3; have b3 := b2.below hB3 b2.lt; have hB13 := hB12.trans (hB3.mono hB12.size); have k0 : w3.cell? ⟨w.heap.size, 0, none⟩ = some (.bool false) := (by rw [b3.cell]; rfl))
    | (go_at_call 115; refine (must_gives _ _ _).mono ?_; rintro e w7 ⟨rfl, h7⟩; obtain ⟨v7, rfl⟩ := h7.1 rfl)
    | (go_at_call 115; refine (must_gives _ _ _).mono ?_; rintro e w7 ⟨rfl, h7⟩; obtain rfl := h7.2 (decide_eq_false (by omega)))
    | (go_at_call 118; refine (HWh _ _ _ _ _ hL3).mono ?_; rintro e w4 ⟨k, rfl, hHalf, hB4⟩))
  have hikl := HIK.out
  have hk1 := hHalf.le
  have hk : k < keys.length := by omega
  obtain ⟨k1, hk1e⟩ : ∃ k1, k1 = k + 1 := ⟨_, rfl⟩
  have hwk : IntKind.i64.wrap ((k : Int) + 1) = (k1 : Int) := by rw [wrapN _ (by omega) (by omega)]; omega
  have hx4 := hx3.past hB4
  have b4 := b3.below hB4 b3.lt
  have hB14 := hB13.trans (hB4.mono hB13.size)
  have kk : w4.cell? ⟨w.heap.size, 2, none⟩ = some (.slice (some ⟨gk, ok, none⟩) keys.length ck) := by rw [b4.cell]; rfl
  have ki : w4.cell? ⟨w.heap.size, 3, none⟩ = some (.slice (some ⟨gi, oi, none⟩) kids.length ci) := by rw [b4.cell]; rfl
  have hpw : w.heap.size < w4.heap.size := b4.lt
  have hpe := hx4.e.lt
  have HCk : ∀ W, Below (w.heap.size + 1) w4 W → W.cell? ⟨w.heap.size, 2, none⟩ = some (.slice (some ⟨gk, ok, none⟩) keys.length ck) := fun W hW => (hW.cell (p := ⟨w.heap.size, 2, none⟩) (Nat.lt_succ_self _)).trans kk
  have HCi : ∀ W, Below (w.heap.size + 1) w4 W → W.cell? ⟨w.heap.size, 3, none⟩ = some (.slice (some ⟨gi, oi, none⟩) kids.length ci) := fun W hW => (hW.cell (p := ⟨w.heap.size, 3, none⟩) (Nat.lt_succ_self _)).trans ki
  have HKEY : ∀ W, Below (w.heap.size + 1) w4 W → W.cell? ⟨gk, ok + k, none⟩ = some (.string keys[k]) := fun W hW => (hW.cell (p := ⟨gk, ok + k, none⟩) (by show gk < _; omega)).trans ((hB14.cell (p := ⟨gk, ok + k, none⟩) hgk).trans (str_at hkc rfl k hk))
  have hkw : ∀ W, Below (w.heap.size + 1) w4 W → InG W W.heap.size 1 (some ⟨gk, ok, none⟩) keys.length ck (skC keys) := fun W hW => (hkc.below (hB14.trans (hW.mono (Nat.le_succ _)))).more (by have := hW.size; omega)
  have hiw : ∀ W, Below (w.heap.size + 1) w4 W → InG W W.heap.size 1 (some ⟨gi, oi, none⟩) kids.length ci (ikC kids) := fun W hW => (hic.below (hB14.trans (hW.mono (Nat.le_succ _)))).more (by have := hW.size; omega)
  have hlt : (keys.take k).length = k := by rw [List.length_take]; omega
  have hrt : (keys.drop k1).length = keys.length - k1 := List.length_drop
  have hlt2 : (kids.take k1).length = k1 := by rw [List.length_take]; omega
  have hrt2 : (kids.drop k1).length = kids.length - k1 := List.length_drop
  have HSa : ∀ W, Below (w.heap.size + 1) w4 W → Calls Try.prog 111 #[.slice (some ⟨gk, ok, none⟩) k ck] W fun e w' => ∃ A c, e = .returned (.slice A k c) ∧ w'.ownsRow W.heap.size 9 1 (.slice A k c) k (skC (keys.take k)) ∧ Below W.heap.size W w' := fun W hW => by
    have hq := (hkw W hW).take k ck (by omega) (by omega) (Nat.le_refl _)
    rw [Nat.mul_one] at hq
    try rw [Nat.mul_one] at hq
    have := sclone_gives W (some ⟨gk, ok, none⟩) ck (keys.take k) (by rw [hlt]; unfold skC at hq ⊢; rw [List.map_take]; exact hq) (by omega)
    unfold OwnStrs at this
    rw [hlt] at this
    exact this
  have HSb : ∀ W, Below (w.heap.size + 1) w4 W → Calls Try.prog 111 #[.slice (some ⟨gk, ok + k1, none⟩) (keys.length - k1) (ck - k1)] W fun e w' => ∃ A c, e = .returned (.slice A (keys.length - k1) c) ∧ w'.ownsRow W.heap.size 9 1 (.slice A (keys.length - k1) c) (keys.length - k1) (skC (keys.drop k1)) ∧ Below W.heap.size W w' := fun W hW => by
    have hq := (hkw W hW).drop k1 (by omega)
    rw [Nat.mul_one] at hq
    try rw [Nat.mul_one] at hq
    have := sclone_gives W (some ⟨gk, ok + k1, none⟩) (ck - k1) (keys.drop k1) (by rw [hrt]; unfold skC at hq ⊢; rw [List.map_drop]; exact hq) (by omega)
    unfold OwnStrs at this
    rw [hrt] at this
    exact this
  have HIa : ∀ W, Below (w.heap.size + 1) w4 W → Calls Try.prog 120 #[.slice (some ⟨gi, oi, none⟩) k1 ci] W fun e w' => ∃ A c, e = .returned (.slice A k1 c) ∧ w'.ownsRow W.heap.size 3 1 (.slice A k1 c) k1 (ikC (kids.take k1)) ∧ Below W.heap.size W w' := fun W hW => by
    have hq := (hiw W hW).take k1 ci (by omega) (by omega) (Nat.le_refl _)
    rw [Nat.mul_one] at hq
    try rw [Nat.mul_one] at hq
    have := iclone_gives W (some ⟨gi, oi, none⟩) ci (kids.take k1) (by rw [hlt2]; unfold ikC at hq ⊢; rw [List.map_take]; exact hq) (by omega)
    unfold OwnInts at this
    rw [hlt2] at this
    exact this
  have HIb : ∀ W, Below (w.heap.size + 1) w4 W → Calls Try.prog 120 #[.slice (some ⟨gi, oi + k1, none⟩) (kids.length - k1) (ci - k1)] W fun e w' => ∃ A c, e = .returned (.slice A (kids.length - k1) c) ∧ w'.ownsRow W.heap.size 3 1 (.slice A (kids.length - k1) c) (kids.length - k1) (ikC (kids.drop k1)) ∧ Below W.heap.size W w' := fun W hW => by
    have hq := (hiw W hW).drop k1 (by omega)
    rw [Nat.mul_one] at hq
    try rw [Nat.mul_one] at hq
    have := iclone_gives W (some ⟨gi, oi + k1, none⟩) (ci - k1) (kids.drop k1) (by rw [hrt2]; unfold ikC at hq ⊢; rw [List.map_drop]; exact hq) (by omega)
    unfold OwnInts at this
    rw [hrt2] at this
    exact this
  have HPK := HPT.out k hk
  generalize keys[k] = key at *
  have HPK2 := Lib.hid HPK
  have i1 : (k : Int) < (keys.length : Int) := by omega
  have i2 : (k : Int) ≤ (keys.length : Int) := by omega
  have i3 : (k : Int) ≤ (ck : Int) := by omega
  have i4 : (0 : Int) ≤ (k : Int) := by omega
  have i5 : k ≤ ck := by omega
  have i6 : (0 : Int) ≤ (k1 : Int) := by omega
  have i7 : (k1 : Int) ≤ (keys.length : Int) := by omega
  have i8 : (k1 : Int) ≤ (kids.length : Int) := by omega
  have i9 : (k1 : Int) ≤ (ci : Int) := by omega
  have i10 : (k1 : Int) ≤ (ck : Int) := by omega
  have i11 : (keys.length : Int) ≤ (ck : Int) := by omega
  have i12 : (kids.length : Int) ≤ (ci : Int) := by omega
  have i13 : ((keys.length : Int) - (k1 : Int)).toNat = keys.length - k1 := by omega
  have i14 : ((ck : Int) - (k1 : Int)).toNat = ck - k1 := by omega
  have i15 : ((kids.length : Int) - (k1 : Int)).toNat = kids.length - k1 := by omega
  have i16 : ((ci : Int) - (k1 : Int)).toNat = ci - k1 := by omega
  have i17 : ¬ ck = k1 := by omega
  have i18 : ¬ ci = k1 := by omega
  have i19 : k1 ≤ ck := by omega
  have i20 : k1 ≤ ci := by omega
  have HK1 := Lib.hid hk1e
  have hBd : Below (w.heap.size + 1) w4 w4.drew := (Below.refl _ w4).drew
  have hxd := hx4.base.drew
  have hp5 : w.heap.size + 1 + 1 + 1 + 1 < w4.drew.heap.size := hpe
  clear HL HLo hB1 hB2 hB3 hB4 b1 b2 b3 b4 kk ki hkc hic hrk hri HPK hx hx2 hx3 hx4 hL3 own hin2 hk1e hikl hkw hiw
  refine wp_region_noPanic ?_
  refine RegF.start (fun W => Below (w.heap.size + 1) w4 W) 15 (by kernel_rfl) ?_
  refine RegF.take 0 (.pointer (some ⟨w.heap.size, 2, none⟩)) rfl (by kernel_rfl) (by kernel_rfl) (by kernel_rfl) (by kernel_rfl) (fun _ _ _ h => h) hBd (RegF.yld rfl (fun W hW => by go_simp)) ?_
  simp only [List.getElem_toArray, List.getElem_cons_zero, Act.put, List.setIfInBounds_toArray, List.set_cons_zero, List.set_cons_succ]
  refine RegF.take 1 (.slice (some ⟨gk, ok, none⟩) keys.length ck) rfl (by kernel_rfl) (by kernel_rfl) (by kernel_rfl) (by kernel_rfl) (fun _ _ _ h => h) hBd (RegF.yld rfl (fun W hW => by have e := HCk W hW; go_simp)) ?_
  simp only [List.getElem_toArray, List.getElem_cons_succ, List.getElem_cons_zero, Act.put, List.setIfInBounds_toArray, List.set_cons_zero, List.set_cons_succ]
  refine RegF.take 2 (.int .i64 (k : Int)) rfl (by kernel_rfl) (by kernel_rfl) (by kernel_rfl) (by kernel_rfl) (fun _ _ _ h => h) hBd (RegF.yld rfl (fun W hW => by go_simp)) ?_
  simp only [List.getElem_toArray, List.getElem_cons_succ, List.getElem_cons_zero, Act.put, List.setIfInBounds_toArray, List.set_cons_zero, List.set_cons_succ]
  refine RegF.take 3 (.slice (some ⟨gk, ok, none⟩) k ck) rfl (by kernel_rfl) (by kernel_rfl) (by kernel_rfl) (by kernel_rfl) (fun _ _ _ h => h) hBd (RegF.yld rfl (fun W hW => by go_simp)) ?_
  simp only [List.getElem_toArray, List.getElem_cons_succ, List.getElem_cons_zero, Act.put, List.setIfInBounds_toArray, List.set_cons_zero, List.set_cons_succ]
  refine RegF.take 5 (.pointer (some ⟨w.heap.size, 3, none⟩)) rfl (by kernel_rfl) (by kernel_rfl) (by kernel_rfl) (by kernel_rfl) (fun _ _ _ h => h) hBd (RegF.yld rfl (fun W hW => by go_simp)) ?_
  simp only [List.getElem_toArray, List.getElem_cons_succ, List.getElem_cons_zero, Act.put, List.setIfInBounds_toArray, List.set_cons_zero, List.set_cons_succ]
  refine RegF.take 6 (.slice (some ⟨gi, oi, none⟩) kids.length ci) rfl (by kernel_rfl) (by kernel_rfl) (by kernel_rfl) (by kernel_rfl) (fun _ _ _ h => h) hBd (RegF.yld rfl (fun W hW => by have e := HCi W hW; go_simp)) ?_
  simp only [List.getElem_toArray, List.getElem_cons_succ, List.getElem_cons_zero, Act.put, List.setIfInBounds_toArray, List.set_cons_zero, List.set_cons_succ]
  refine RegF.take 7 (.int .i64 (k : Int)) rfl (by kernel_rfl) (by kernel_rfl) (by kernel_rfl) (by kernel_rfl) (fun _ _ _ h => h) hBd (RegF.yld rfl (fun W hW => by go_simp)) ?_
  simp only [List.getElem_toArray, List.getElem_cons_succ, List.getElem_cons_zero, Act.put, List.setIfInBounds_toArray, List.set_cons_zero, List.set_cons_succ]
  refine RegF.take 8 (.int .i64 (k1 : Int)) rfl (by kernel_rfl) (by kernel_rfl) (by kernel_rfl) (by kernel_rfl) (fun _ _ _ h => h) hBd (RegF.yld rfl (fun W hW => by go_simp)) ?_
  simp only [List.getElem_toArray, List.getElem_cons_succ, List.getElem_cons_zero, Act.put, List.setIfInBounds_toArray, List.set_cons_zero, List.set_cons_succ]
  refine RegF.take 9 (.slice (some ⟨gi, oi, none⟩) k1 ci) rfl (by kernel_rfl) (by kernel_rfl) (by kernel_rfl) (by kernel_rfl) (fun _ _ _ h => h) hBd (RegF.yld rfl (fun W hW => by go_simp)) ?_
  simp only [List.getElem_toArray, List.getElem_cons_succ, List.getElem_cons_zero, Act.put, List.setIfInBounds_toArray, List.set_cons_zero, List.set_cons_succ]
  refine RegF.one 4 (by kernel_rfl) ?_
  refine RegF.opC 111 #[.tmp 60] #[73] rfl rfl rfl (enters_of Try.func111 (by kernel_rfl) rfl) #[.slice (some ⟨gk, ok, none⟩) k ck] (by simp only [List.map_toArray, List.map_cons, List.map_nil]; rfl) ((HSa _ hBd).mono ?_)
  rintro e w5 ⟨A5, cA, rfl, own5, hB5⟩
  have hB5w : Below (w.heap.size + 1) w4 w5 := hBd.trans (hB5.mono hpw)
  have hx5 := hxd.past hB5
  have own5 := ownG_base own5 (hp5)
  refine ⟨_, rfl, fun _ => hB5w, ?_⟩
  simp only [List.getElem_toArray, List.getElem_cons_succ, List.getElem_cons_zero, Act.put, List.setIfInBounds_toArray, List.set_cons_zero, List.set_cons_succ]
  refine RegF.one 10 (by kernel_rfl) ?_
  refine RegF.opC 120 #[.tmp 66] #[74] rfl rfl rfl (enters_of Try.func120 (by kernel_rfl) rfl) #[.slice (some ⟨gi, oi, none⟩) k1 ci] (by simp only [List.map_toArray, List.map_cons, List.map_nil]; rfl) ((HIa _ hB5w).mono ?_)
  rintro e w6 ⟨A6, cB, rfl, own6, hB6⟩
  have hB6w : Below (w.heap.size + 1) w4 w6 := hB5w.trans (hB6.mono (by have := hB5w.size; omega))
  have hx6 := hx5.past hB6
  have hp6 : w.heap.size + 1 + 1 + 1 + 1 < w5.heap.size := Nat.lt_of_lt_of_le hp5 hB5.size
  have own5 := ownG_grow own5 hB6
  have own6 := ownG_base own6 hp6
  refine ⟨_, rfl, fun _ => hB6w, ?_⟩
  simp only [List.getElem_toArray, List.getElem_cons_succ, List.getElem_cons_zero, Act.put, List.setIfInBounds_toArray, List.set_cons_zero, List.set_cons_succ]
  refine RegF.one 11 (by kernel_rfl) ?_
  refine RegF.opS rfl rfl (x_storeN (cs' := #[.bool false, .slice none 0 0, .slice none 0 0, .slice none 0 0]) 76 (.tmp 2) (.const (.agg #[.bool false, .slice none 0 0, .slice none 0 0, .slice none 0 0])) rfl (w.heap.size + 1) rfl rfl rowNod hx6.a (by rfl) (by rfl) (zeroN_one)) ⟨fun _ => (hx6.rowA #[.bool false, .slice none 0 0, .slice none 0 0, .slice none 0 0]).h, ?_⟩
  have h1 := hx6.rowA #[.bool false, .slice none 0 0, .slice none 0 0, .slice none 0 0]
  obtain ⟨V1, hV1⟩ : ∃ V, World.setRow w6 (w.heap.size + 1) #[.bool false, .slice none 0 0, .slice none 0 0, .slice none 0 0] = V := ⟨_, rfl⟩
  have o1 : ∀ r, w.heap.size + 1 + 1 + 1 + 1 < r → V1.heap[r]? = w6.heap[r]? := fun r hr => by rw [← hV1]; exact setRow_other _ _ r _ (by omega)
  rw [hV1] at h1
  rw [hV1]
  clear hV1
  simp only [List.getElem_toArray, List.getElem_cons_succ, List.getElem_cons_zero, Act.put]
  refine RegF.one 12 (by kernel_rfl) ?_
  refine RegF.opV (.pointer (some ⟨w.heap.size + 1, 2, none⟩)) rfl rfl (by go_simp) ⟨fun _ => h1.h, ?_⟩
  simp only [List.getElem_toArray, List.getElem_cons_succ, List.getElem_cons_zero, Act.put, List.setIfInBounds_toArray, List.set_cons_zero, List.set_cons_succ]
  have kc2 := h1.a.cell 2
  have kf2 := h1.a.free 2
  simp only [List.getElem?_toArray, List.getElem?_cons_zero, List.getElem?_cons_succ] at kc2
  refine RegF.one 13 (by kernel_rfl) ?_
  refine RegF.opS (w' := World.setCell V1 ⟨w.heap.size + 1, 2, none⟩ (.slice A5 k cA)) rfl rfl (by go_simp) ⟨(fun _ => (h1.setA 2 (.slice A5 k cA)).h), ?_⟩
  have h2 := h1.setA 2 (.slice A5 k cA)
  obtain ⟨V2, hV2⟩ : ∃ V, World.setCell V1 ⟨w.heap.size + 1, 2, none⟩ (.slice A5 k cA) = V := ⟨_, rfl⟩
  have o2 : ∀ r, w.heap.size + 1 + 1 + 1 + 1 < r → V2.heap[r]? = w6.heap[r]? := fun r hr => by rw [← hV2]; exact (Below.heap_setCell _ _ _ r (by show r ≠ w.heap.size + 1; omega)).trans (o1 r hr)
  rw [hV2] at h2
  rw [hV2]
  try simp only [List.setIfInBounds_toArray, List.set_cons_zero, List.set_cons_succ] at h2
  clear hV2 kc2 kf2
  simp only [List.getElem_toArray, List.getElem_cons_succ, List.getElem_cons_zero, Act.put]
  refine RegF.one 14 (by kernel_rfl) ?_
  refine RegF.opV (.pointer (some ⟨w.heap.size + 1, 3, none⟩)) rfl rfl (by go_simp) ⟨fun _ => h2.h, ?_⟩
  simp only [List.getElem_toArray, List.getElem_cons_succ, List.getElem_cons_zero, Act.put, List.setIfInBounds_toArray, List.set_cons_zero, List.set_cons_succ]
  have kc3 := h2.a.cell 3
  have kf3 := h2.a.free 3
  simp only [List.getElem?_toArray, List.getElem?_cons_zero, List.getElem?_cons_succ] at kc3
  refine RegF.one 15 (by kernel_rfl) ?_
  refine RegF.opS (w' := World.setCell V2 ⟨w.heap.size + 1, 3, none⟩ (.slice A6 k1 cB)) rfl rfl (by go_simp) ⟨(fun h => absurd rfl h), ?_⟩
  have h3 := h2.setA 3 (.slice A6 k1 cB)
  obtain ⟨V3, hV3⟩ : ∃ V, World.setCell V2 ⟨w.heap.size + 1, 3, none⟩ (.slice A6 k1 cB) = V := ⟨_, rfl⟩
  have o3 : ∀ r, w.heap.size + 1 + 1 + 1 + 1 < r → V3.heap[r]? = w6.heap[r]? := fun r hr => by rw [← hV3]; exact (Below.heap_setCell _ _ _ r (by show r ≠ w.heap.size + 1; omega)).trans (o2 r hr)
  rw [hV3] at h3
  rw [hV3]
  try simp only [List.setIfInBounds_toArray, List.set_cons_zero, List.set_cons_succ] at h3
  clear hV3 kc3 kf3
  simp only [List.getElem_toArray, List.getElem_cons_succ, List.getElem_cons_zero, Act.put]
  have own5 := ownG_later (w' := V3) own5 fun r hr => o3 r (ownG_ge own5 r hr)
  have own6 := ownG_later (w' := V3) own6 fun r hr => o3 r (ownG_ge own6 r hr)
  refine RegF.done (by kernel_rfl) ?_
  refine NoPanic.normal ?_
  go_wp2_with fail
  have hxd2 := h3.drew
  have hp7 : w.heap.size + 1 + 1 + 1 + 1 < V3.drew.heap.size := hxd2.e.lt
  clear hB5w hB6w hx5 h3 o3
  refine wp_region_noPanic ?_
  refine RegF.start (fun W => Below (w.heap.size + 1) w4 W) 16 (by kernel_rfl) ?_
  refine RegF.take 0 (.pointer (some ⟨w.heap.size, 2, none⟩)) rfl (by kernel_rfl) (by kernel_rfl) (by kernel_rfl) (by kernel_rfl) (fun _ _ _ h => h) hxd2.h (RegF.yld rfl (fun W hW => by go_simp)) ?_
  simp only [List.getElem_toArray, List.getElem_cons_zero, Act.put, List.setIfInBounds_toArray, List.set_cons_zero, List.set_cons_succ]
  refine RegF.take 1 (.slice (some ⟨gk, ok, none⟩) keys.length ck) rfl (by kernel_rfl) (by kernel_rfl) (by kernel_rfl) (by kernel_rfl) (fun _ _ _ h => h) hxd2.h (RegF.yld rfl (fun W hW => by have e := HCk W hW; go_simp)) ?_
  simp only [List.getElem_toArray, List.getElem_cons_succ, List.getElem_cons_zero, Act.put, List.setIfInBounds_toArray, List.set_cons_zero, List.set_cons_succ]
  refine RegF.take 2 (.int .i64 (k : Int)) rfl (by kernel_rfl) (by kernel_rfl) (by kernel_rfl) (by kernel_rfl) (fun _ _ _ h => h) hxd2.h (RegF.yld rfl (fun W hW => by go_simp)) ?_
  simp only [List.getElem_toArray, List.getElem_cons_succ, List.getElem_cons_zero, Act.put, List.setIfInBounds_toArray, List.set_cons_zero, List.set_cons_succ]
  refine RegF.take 3 (.int .i64 (k1 : Int)) rfl (by kernel_rfl) (by kernel_rfl) (by kernel_rfl) (by kernel_rfl) (fun _ _ _ h => h) hxd2.h (RegF.yld rfl (fun W hW => by go_simp)) ?_
  simp only [List.getElem_toArray, List.getElem_cons_succ, List.getElem_cons_zero, Act.put, List.setIfInBounds_toArray, List.set_cons_zero, List.set_cons_succ]
  refine RegF.take 4 (.slice (some ⟨gk, ok + k1, none⟩) (keys.length - k1) (ck - k1)) rfl (by kernel_rfl) (by kernel_rfl) (by kernel_rfl) (by kernel_rfl) (fun _ _ _ h => h) hxd2.h (RegF.yld rfl (fun W hW => by go_simp)) ?_
  simp only [List.getElem_toArray, List.getElem_cons_succ, List.getElem_cons_zero, Act.put, List.setIfInBounds_toArray, List.set_cons_zero, List.set_cons_succ]
  refine RegF.take 6 (.pointer (some ⟨w.heap.size, 3, none⟩)) rfl (by kernel_rfl) (by kernel_rfl) (by kernel_rfl) (by kernel_rfl) (fun _ _ _ h => h) hxd2.h (RegF.yld rfl (fun W hW => by go_simp)) ?_
  simp only [List.getElem_toArray, List.getElem_cons_succ, List.getElem_cons_zero, Act.put, List.setIfInBounds_toArray, List.set_cons_zero, List.set_cons_succ]
  refine RegF.take 7 (.slice (some ⟨gi, oi, none⟩) kids.length ci) rfl (by kernel_rfl) (by kernel_rfl) (by kernel_rfl) (by kernel_rfl) (fun _ _ _ h => h) hxd2.h (RegF.yld rfl (fun W hW => by have e := HCi W hW; go_simp)) ?_
  simp only [List.getElem_toArray, List.getElem_cons_succ, List.getElem_cons_zero, Act.put, List.setIfInBounds_toArray, List.set_cons_zero, List.set_cons_succ]
  refine RegF.take 8 (.int .i64 (k : Int)) rfl (by kernel_rfl) (by kernel_rfl) (by kernel_rfl) (by kernel_rfl) (fun _ _ _ h => h) hxd2.h (RegF.yld rfl (fun W hW => by go_simp)) ?_
  simp only [List.getElem_toArray, List.getElem_cons_succ, List.getElem_cons_zero, Act.put, List.setIfInBounds_toArray, List.set_cons_zero, List.set_cons_succ]
  refine RegF.take 9 (.int .i64 (k1 : Int)) rfl (by kernel_rfl) (by kernel_rfl) (by kernel_rfl) (by kernel_rfl) (fun _ _ _ h => h) hxd2.h (RegF.yld rfl (fun W hW => by go_simp)) ?_
  simp only [List.getElem_toArray, List.getElem_cons_succ, List.getElem_cons_zero, Act.put, List.setIfInBounds_toArray, List.set_cons_zero, List.set_cons_succ]
  refine RegF.take 10 (.slice (some ⟨gi, oi + k1, none⟩) (kids.length - k1) (ci - k1)) rfl (by kernel_rfl) (by kernel_rfl) (by kernel_rfl) (by kernel_rfl) (fun _ _ _ h => h) hxd2.h (RegF.yld rfl (fun W hW => by go_simp)) ?_
  simp only [List.getElem_toArray, List.getElem_cons_succ, List.getElem_cons_zero, Act.put, List.setIfInBounds_toArray, List.set_cons_zero, List.set_cons_succ]
  refine RegF.one 5 (by kernel_rfl) ?_
  refine RegF.opC 111 #[.tmp 74] #[73] rfl rfl rfl (enters_of Try.func111 (by kernel_rfl) rfl) #[.slice (some ⟨gk, ok + k1, none⟩) (keys.length - k1) (ck - k1)] (by simp only [List.map_toArray, List.map_cons, List.map_nil]; rfl) ((HSb _ hxd2.h).mono ?_)
  rintro e w7 ⟨A7, cC, rfl, own7, hB7⟩
  have hx7 := hxd2.past hB7
  have own5 := ownG_grow (w := V3.drew) own5 hB7
  have own6 := ownG_grow (w := V3.drew) own6 hB7
  have own7 := ownG_base own7 hp7
  have hp8 : w.heap.size + 1 + 1 + 1 + 1 < w7.heap.size := hx7.e.lt
  refine ⟨_, rfl, fun _ => hx7.h, ?_⟩
  simp only [List.getElem_toArray, List.getElem_cons_succ, List.getElem_cons_zero, Act.put, List.setIfInBounds_toArray, List.set_cons_zero, List.set_cons_succ]
  refine RegF.one 11 (by kernel_rfl) ?_
  refine RegF.opC 120 #[.tmp 80] #[74] rfl rfl rfl (enters_of Try.func120 (by kernel_rfl) rfl) #[.slice (some ⟨gi, oi + k1, none⟩) (kids.length - k1) (ci - k1)] (by simp only [List.map_toArray, List.map_cons, List.map_nil]; rfl) ((HIb _ hx7.h).mono ?_)
  rintro e w8 ⟨A8, cD, rfl, own8, hB8⟩
  have hx8 := hx7.past hB8
  have own5 := ownG_grow own5 hB8
  have own6 := ownG_grow own6 hB8
  have own7 := ownG_grow own7 hB8
  have own8 := ownG_base own8 hp8
  refine ⟨_, rfl, fun _ => hx8.h, ?_⟩
  simp only [List.getElem_toArray, List.getElem_cons_succ, List.getElem_cons_zero, Act.put, List.setIfInBounds_toArray, List.set_cons_zero, List.set_cons_succ]
  refine RegF.one 12 (by kernel_rfl) ?_
  refine RegF.opS rfl rfl (x_storeN (cs' := #[.bool false, .slice none 0 0, .slice none 0 0, .slice none 0 0]) 76 (.tmp 3) (.const (.agg #[.bool false, .slice none 0 0, .slice none 0 0, .slice none 0 0])) rfl (w.heap.size + 1 + 1) rfl rfl rowNod hx8.b (by rfl) (by rfl) (zeroN_one)) ⟨fun _ => (hx8.rowB #[.bool false, .slice none 0 0, .slice none 0 0, .slice none 0 0]).h, ?_⟩
  have h4 := hx8.rowB #[.bool false, .slice none 0 0, .slice none 0 0, .slice none 0 0]
  obtain ⟨V4, hV4⟩ : ∃ V, World.setRow w8 (w.heap.size + 1 + 1) #[.bool false, .slice none 0 0, .slice none 0 0, .slice none 0 0] = V := ⟨_, rfl⟩
  have o4 : ∀ r, w.heap.size + 1 + 1 + 1 + 1 < r → V4.heap[r]? = w8.heap[r]? := fun r hr => by rw [← hV4]; exact setRow_other _ _ r _ (by omega)
  rw [hV4] at h4
  rw [hV4]
  clear hV4
  simp only [List.getElem_toArray, List.getElem_cons_succ, List.getElem_cons_zero, Act.put]
  refine RegF.one 13 (by kernel_rfl) ?_
  refine RegF.opV (.pointer (some ⟨w.heap.size + 1 + 1, 2, none⟩)) rfl rfl (by go_simp) ⟨fun _ => h4.h, ?_⟩
  simp only [List.getElem_toArray, List.getElem_cons_succ, List.getElem_cons_zero, Act.put, List.setIfInBounds_toArray, List.set_cons_zero, List.set_cons_succ]
  have kc5 := h4.b.cell 2
  have kf5 := h4.b.free 2
  simp only [List.getElem?_toArray, List.getElem?_cons_zero, List.getElem?_cons_succ] at kc5
  refine RegF.one 14 (by kernel_rfl) ?_
  refine RegF.opS (w' := World.setCell V4 ⟨w.heap.size + 1 + 1, 2, none⟩ (.slice A7 (keys.length - k1) cC)) rfl rfl (by go_simp) ⟨(fun _ => (h4.setB 2 (.slice A7 (keys.length - k1) cC)).h), ?_⟩
  have h5 := h4.setB 2 (.slice A7 (keys.length - k1) cC)
  obtain ⟨V5, hV5⟩ : ∃ V, World.setCell V4 ⟨w.heap.size + 1 + 1, 2, none⟩ (.slice A7 (keys.length - k1) cC) = V := ⟨_, rfl⟩
  have o5 : ∀ r, w.heap.size + 1 + 1 + 1 + 1 < r → V5.heap[r]? = w8.heap[r]? := fun r hr => by rw [← hV5]; exact (Below.heap_setCell _ _ _ r (by show r ≠ w.heap.size + 1 + 1; omega)).trans (o4 r hr)
  rw [hV5] at h5
  rw [hV5]
  try simp only [List.setIfInBounds_toArray, List.set_cons_zero, List.set_cons_succ] at h5
  clear hV5 kc5 kf5
  simp only [List.getElem_toArray, List.getElem_cons_succ, List.getElem_cons_zero, Act.put]
  refine RegF.one 15 (by kernel_rfl) ?_
  refine RegF.opV (.pointer (some ⟨w.heap.size + 1 + 1, 3, none⟩)) rfl rfl (by go_simp) ⟨fun _ => h5.h, ?_⟩
  simp only [List.getElem_toArray, List.getElem_cons_succ, List.getElem_cons_zero, Act.put, List.setIfInBounds_toArray, List.set_cons_zero, List.set_cons_succ]
  have kc6 := h5.b.cell 3
  have kf6 := h5.b.free 3
  simp only [List.getElem?_toArray, List.getElem?_cons_zero, List.getElem?_cons_succ] at kc6
  refine RegF.one 16 (by kernel_rfl) ?_
  refine RegF.opS (w' := World.setCell V5 ⟨w.heap.size + 1 + 1, 3, none⟩ (.slice A8 (kids.length - k1) cD)) rfl rfl (by go_simp) ⟨(fun h => absurd rfl h), ?_⟩
  have h6 := h5.setB 3 (.slice A8 (kids.length - k1) cD)
  obtain ⟨V6, hV6⟩ : ∃ V, World.setCell V5 ⟨w.heap.size + 1 + 1, 3, none⟩ (.slice A8 (kids.length - k1) cD) = V := ⟨_, rfl⟩
  have o6 : ∀ r, w.heap.size + 1 + 1 + 1 + 1 < r → V6.heap[r]? = w8.heap[r]? := fun r hr => by rw [← hV6]; exact (Below.heap_setCell _ _ _ r (by show r ≠ w.heap.size + 1 + 1; omega)).trans (o5 r hr)
  rw [hV6] at h6
  rw [hV6]
  try simp only [List.setIfInBounds_toArray, List.set_cons_zero, List.set_cons_succ] at h6
  clear hV6 kc6 kf6
  simp only [List.getElem_toArray, List.getElem_cons_succ, List.getElem_cons_zero, Act.put]
  have own5 := ownG_later (w' := V6) own5 fun r hr => o6 r (ownG_ge own5 r hr)
  have own6 := ownG_later (w' := V6) own6 fun r hr => o6 r (ownG_ge own6 r hr)
  have own7 := ownG_later (w' := V6) own7 fun r hr => o6 r (ownG_ge own7 r hr)
  have own8 := ownG_later (w' := V6) own8 fun r hr => o6 r (ownG_ge own8 r hr)
  refine RegF.done (by kernel_rfl) ?_
  refine NoPanic.normal ?_
  go_wp2_with fail
  have hxd3 := h6.drew
  clear h6 o6
  refine wp_region_noPanic ?_
  refine RegF.start (fun W => Below (w.heap.size + 1) w4 W ∧ BlkIs W (w.heap.size + 1) 76 #[.bool false, .slice none 0 0, .slice A5 k cA, .slice A6 k1 cB] ∧ BlkIs W (w.heap.size + 1 + 1) 76 #[.bool false, .slice none 0 0, .slice A7 (keys.length - k1) cC, .slice A8 (kids.length - k1) cD]) 10 (by kernel_rfl) ?_
  refine RegF.take 0 (.agg #[.bool false, .slice none 0 0, .slice A5 k cA, .slice A6 k1 cB]) rfl (by kernel_rfl) (by kernel_rfl) (by kernel_rfl) (by kernel_rfl) (fun _ _ _ h => h) hxd3.sS (RegF.yld rfl (fun W hW => by exact x_loadN rowNod hW.2.1 rfl rfl rfl)) ?_
  simp only [List.getElem_toArray, List.getElem_cons_zero, Act.put, List.setIfInBounds_toArray, List.set_cons_zero, List.set_cons_succ]
  refine RegF.take 1 (.agg #[.bool false, .slice none 0 0, .slice A7 (keys.length - k1) cC, .slice A8 (kids.length - k1) cD]) rfl (by kernel_rfl) (by kernel_rfl) (by kernel_rfl) (by kernel_rfl) (fun _ _ _ h => h) hxd3.sS (RegF.yld rfl (fun W hW => by exact x_loadN rowNod hW.2.2 rfl rfl rfl)) ?_
  simp only [List.getElem_toArray, List.getElem_cons_succ, List.getElem_cons_zero, Act.put, List.setIfInBounds_toArray, List.set_cons_zero, List.set_cons_succ]
  refine RegF.take 2 (.pointer (some ⟨w.heap.size, 2, none⟩)) rfl (by kernel_rfl) (by kernel_rfl) (by kernel_rfl) (by kernel_rfl) (fun _ _ _ h => h) hxd3.sS (RegF.yld rfl (fun W hW => by go_simp)) ?_
  simp only [List.getElem_toArray, List.getElem_cons_succ, List.getElem_cons_zero, Act.put, List.setIfInBounds_toArray, List.set_cons_zero, List.set_cons_succ]
  refine RegF.take 3 (.slice (some ⟨gk, ok, none⟩) keys.length ck) rfl (by kernel_rfl) (by kernel_rfl) (by kernel_rfl) (by kernel_rfl) (fun _ _ _ h => h) hxd3.sS (RegF.yld rfl (fun W hW => by have e := HCk W hW.1; go_simp)) ?_
  simp only [List.getElem_toArray, List.getElem_cons_succ, List.getElem_cons_zero, Act.put, List.setIfInBounds_toArray, List.set_cons_zero, List.set_cons_succ]
  refine RegF.take 4 (.int .i64 (k : Int)) rfl (by kernel_rfl) (by kernel_rfl) (by kernel_rfl) (by kernel_rfl) (fun _ _ _ h => h) hxd3.sS (RegF.yld rfl (fun W hW => by go_simp)) ?_
  simp only [List.getElem_toArray, List.getElem_cons_succ, List.getElem_cons_zero, Act.put, List.setIfInBounds_toArray, List.set_cons_zero, List.set_cons_succ]
  refine RegF.take 5 (.pointer (some ⟨gk, ok + k, none⟩)) rfl (by kernel_rfl) (by kernel_rfl) (by kernel_rfl) (by kernel_rfl) (fun _ _ _ h => h) hxd3.sS (RegF.yld rfl (fun W hW => by go_simp)) ?_
  simp only [List.getElem_toArray, List.getElem_cons_succ, List.getElem_cons_zero, Act.put, List.setIfInBounds_toArray, List.set_cons_zero, List.set_cons_succ]
  refine RegF.take 6 (.string key) rfl (by kernel_rfl) (by kernel_rfl) (by kernel_rfl) (by kernel_rfl) (fun _ _ _ h => h) hxd3.sS (RegF.yld rfl (fun W hW => by have e := HKEY W hW.1; go_simp)) ?_
  simp only [List.getElem_toArray, List.getElem_cons_succ, List.getElem_cons_zero, Act.put, List.setIfInBounds_toArray, List.set_cons_zero, List.set_cons_succ]
  refine RegF.one 7 (by kernel_rfl) ?_
  refine RegF.opS rfl rfl (x_storeN (cs' := #[.bool false, .slice none 0 0, .slice A5 k cA, .slice A6 k1 cB]) 76 (.tmp 2) (.tmp 84) rfl (w.heap.size + 1) rfl rfl rowNod hxd3.a (by rfl) (by rfl) (four_one rfl rfl rfl rfl)) ⟨fun _ => (hxd3.rowA #[.bool false, .slice none 0 0, .slice A5 k cA, .slice A6 k1 cB]).sS, ?_⟩
  have h7 := hxd3.rowA #[.bool false, .slice none 0 0, .slice A5 k cA, .slice A6 k1 cB]
  obtain ⟨V7, hV7⟩ : ∃ V, World.setRow V6.drew (w.heap.size + 1) #[.bool false, .slice none 0 0, .slice A5 k cA, .slice A6 k1 cB] = V := ⟨_, rfl⟩
  have o7 : ∀ r, w.heap.size + 1 + 1 + 1 + 1 < r → V7.heap[r]? = V6.drew.heap[r]? := fun r hr => by rw [← hV7]; exact setRow_other _ _ r _ (by omega)
  rw [hV7] at h7
  rw [hV7]
  clear hV7
  simp only [List.getElem_toArray, List.getElem_cons_succ, List.getElem_cons_zero, Act.put]
  refine RegF.one 8 (by kernel_rfl) ?_
  refine RegF.opS rfl rfl (x_storeN (cs' := #[.bool false, .slice none 0 0, .slice A7 (keys.length - k1) cC, .slice A8 (kids.length - k1) cD]) 76 (.tmp 3) (.tmp 85) rfl (w.heap.size + 1 + 1) rfl rfl rowNod h7.b (by rfl) (by rfl) (four_one rfl rfl rfl rfl)) ⟨fun _ => (h7.rowB #[.bool false, .slice none 0 0, .slice A7 (keys.length - k1) cC, .slice A8 (kids.length - k1) cD]).sS, ?_⟩
  have h8 := h7.rowB #[.bool false, .slice none 0 0, .slice A7 (keys.length - k1) cC, .slice A8 (kids.length - k1) cD]
  obtain ⟨V8, hV8⟩ : ∃ V, World.setRow V7 (w.heap.size + 1 + 1) #[.bool false, .slice none 0 0, .slice A7 (keys.length - k1) cC, .slice A8 (kids.length - k1) cD] = V := ⟨_, rfl⟩
  have o8 : ∀ r, w.heap.size + 1 + 1 + 1 + 1 < r → V8.heap[r]? = V6.drew.heap[r]? := fun r hr => by rw [← hV8]; exact (setRow_other _ _ r _ (by omega)).trans (o7 r hr)
  rw [hV8] at h8
  rw [hV8]
  clear hV8
  simp only [List.getElem_toArray, List.getElem_cons_succ, List.getElem_cons_zero, Act.put]
  have kc9 := h8.s.cell 0
  have kf9 := h8.s.free 0
  simp only [List.getElem?_toArray, List.getElem?_cons_zero] at kc9
  refine RegF.one 9 (by kernel_rfl) ?_
  refine RegF.opS (w' := World.setCell V8 ⟨w.heap.size + 1 + 1 + 1, 0, none⟩ (.string key)) rfl rfl (by go_simp) ⟨(fun _ => (h8.setS (.string key)).sS), ?_⟩
  have h9 := h8.setS (.string key)
  obtain ⟨V9, hV9⟩ : ∃ V, World.setCell V8 ⟨w.heap.size + 1 + 1 + 1, 0, none⟩ (.string key) = V := ⟨_, rfl⟩
  have o9 : ∀ r, w.heap.size + 1 + 1 + 1 + 1 < r → V9.heap[r]? = V6.drew.heap[r]? := fun r hr => by rw [← hV9]; exact (Below.heap_setCell _ _ _ r (by show r ≠ w.heap.size + 1 + 1 + 1; omega)).trans (o8 r hr)
  rw [hV9] at h9
  rw [hV9]
  try simp only [List.getElem?_toArray, List.getElem?_cons_zero, List.getElem?_cons_succ, List.setIfInBounds_toArray, List.set_cons_zero, List.set_cons_succ] at h9
  clear hV9 kc9 kf9
  simp only [List.getElem_toArray, List.getElem_cons_succ, List.getElem_cons_zero, Act.put]
  have kc10 := h9.e.cell 0
  have kf10 := h9.e.free 0
  simp only [List.getElem?_toArray, List.getElem?_cons_zero] at kc10
  refine RegF.one 10 (by kernel_rfl) ?_
  refine RegF.opS (w' := World.setCell V9 ⟨w.heap.size + 1 + 1 + 1 + 1, 0, none⟩ (.int .i64 0)) rfl rfl (by go_simp) ⟨(fun h => absurd rfl h), ?_⟩
  have h10 := h9.setE (.int .i64 0)
  obtain ⟨V10, hV10⟩ : ∃ V, World.setCell V9 ⟨w.heap.size + 1 + 1 + 1 + 1, 0, none⟩ (.int .i64 0) = V := ⟨_, rfl⟩
  have o10 : ∀ r, w.heap.size + 1 + 1 + 1 + 1 < r → V10.heap[r]? = V6.drew.heap[r]? := fun r hr => by rw [← hV10]; exact (Below.heap_setCell _ _ _ r (by show r ≠ w.heap.size + 1 + 1 + 1 + 1; omega)).trans (o9 r hr)
  rw [hV10] at h10
  rw [hV10]
  try simp only [List.getElem?_toArray, List.getElem?_cons_zero, List.getElem?_cons_succ, List.setIfInBounds_toArray, List.set_cons_zero, List.set_cons_succ] at h10
  clear hV10 kc10 kf10
  simp only [List.getElem_toArray, List.getElem_cons_succ, List.getElem_cons_zero, Act.put]
  have own5 := ownG_later (w' := V10) own5 fun r hr => o10 r (ownG_ge own5 r hr)
  have own6 := ownG_later (w' := V10) own6 fun r hr => o10 r (ownG_ge own6 r hr)
  have own7 := ownG_later (w' := V10) own7 fun r hr => o10 r (ownG_ge own7 r hr)
  have own8 := ownG_later (w' := V10) own8 fun r hr => o10 r (ownG_ge own8 r hr)
  refine RegF.done (by kernel_rfl) ?_
  refine NoPanic.normal ?_
  go_wp2
  refine leaves_cons (f := 113) (args := #[.pointer (some ⟨w.heap.size + 1 + 1 + 1 + 1, 0, none⟩), .func (.func 114) #[] #[.pointer (some ⟨w.heap.size + 1, 0, none⟩), .pointer (some ⟨w.heap.size + 1 + 1, 0, none⟩), .pointer (some ⟨w.heap.size + 1 + 1 + 1, 0, none⟩)]]) (by simp) (by simp [go_sem]) ?_
  refine (caught_idle _ _ _).mono ?_
  rintro e u' wz ⟨rfl, rfl, rfl⟩
  obtain ⟨a0, a1, a2, a3⟩ := box4 h10.a
  obtain ⟨d0, d1, d2, d3⟩ := box4 h10.b
  have q3 := h10.s.boxed
  have q4 := h10.e.boxed
  have hBf := hB14.trans (h10.h.mono (by omega))
  have hBz : Below w.heap.size w wz := hB14.trans (h10.h.mono (Nat.le_succ _))
  obtain ⟨Aa, ca, ea, hin5⟩ := ownG_in own5 (skC_one _)
  obtain ⟨Ab, cb, eb, hin6⟩ := ownG_in own6 (ikC_one _)
  obtain ⟨Ad, cd, ed, hin7⟩ := ownG_in own7 (skC_one _)
  obtain ⟨Ae, ce, ee, hin8⟩ := ownG_in own8 (ikC_one _)
  injection ea with ea1 ea2 ea3
  injection eb with eb1 eb2 eb3
  injection ed with ed1 ed2 ed3
  injection ee with ee1 ee2 ee3
  subst ea1 ea3 eb1 eb3 ed1 ed3 ee1 ee3
  simp [Leaves, settle, results, Try.results52, go_sem, a0, a1, a2, a3, d0, d1, d2, d3, q3, q4]
  refine HGG.out k _ _ ⟨A5, cA, A6, cB, A7, cC, A8, cD, hHalf, ?_, ?_, ?_, ?_, ?_, hBz⟩
  · rw [← HK1.out, hlt, hrt, hlt2, hrt2, HPK2.out]
  · rw [hlt]; exact hin5
  · rw [← HK1.out, hlt2]; exact hin6
  · rw [← HK1.out, hrt]; exact hin7
  · rw [← HK1.out, hrt2]; exact hin8
end Go.Proofs.Ytlelckdcmlpmdaa
/- node.Split, of whatever node; node.Fits, of one that fits. -/
namespace Go.Proofs.Ytlelckdcmlpmdaa
open Go Go.RowKit Lou

theorem split_right (w : World) (x : Nod) (Ac : Option Addr) (cc : Nat) (Ak : Option Addr) (ck : Nat) (Ai : Option Addr) (ci : Nat) (h : NIs w w.heap.size x Ac cc Ak ck Ai ci) (hl : x.cells.length ≤ 1000) (hl2 : x.keys.length ≤ 1000) (hl3 : x.kids.length ≤ 1001) (hR : RightP x) :
    Calls Try.prog 52 #[.agg (nodC x Ac cc Ak ck Ai ci)] w fun e w' => BadOut w 2 e w' ∨ GoodOut w x e w' := by
  by_cases hs : (laidB x).length ≤ 512
  · exact (split_short w x Ac cc Ak ck Ai ci h hl hl2 hl3 hR hs).mono fun _ _ h => .inl h
  · cases hf : x.leaf with
    | true =>
      by_cases hn : manyN x < 2
      · exact (split_few1 w x Ac cc Ak ck Ai ci h hl hl2 hl3 hR hf (by omega) hn).mono fun _ _ h => .inl h
      · exact (split_leaf w x Ac cc Ak ck Ai ci h hl hl2 hl3 hR hf (by omega) (by omega)).mono fun _ _ h => .inr h
    | false =>
      by_cases hn : manyN x < 3
      · exact (split_few2 w x Ac cc Ak ck Ai ci h hl hl2 hl3 hR hf (by omega) hn).mono fun _ _ h => .inl h
      · exact (split_inner w x Ac cc Ak ck Ai ci h hl hl2 hl3 hR hf (by omega) (by omega)).mono fun _ _ h => .inr h
theorem split_wrong (w : World) (x : Nod) (Ac : Option Addr) (cc : Nat) (Ak : Option Addr) (ck : Nat) (Ai : Option Addr) (ci : Nat) (h : NIs w w.heap.size x Ac cc Ak ck Ai ci) (hl : x.cells.length ≤ 1000) (hl2 : x.keys.length ≤ 1000) (hl3 : x.kids.length ≤ 1001) (hR : ¬ RightP x) :
    Calls Try.prog 52 #[.agg (nodC x Ac cc Ak ck Ai ci)] w (BadOut w 2) :=
  split_bad w x Ac cc Ak ck Ai ci 2 fun W hW => laid_no W x Ac cc Ak ck Ai ci (h.grow hW) (by omega) (by omega) (by omega) hR
theorem bytes_wrong (w : World) (x : Nod) (Ac : Option Addr) (cc : Nat) (Ak : Option Addr) (ck : Nat) (Ai : Option Addr) (ci : Nat) (h : NIs w w.heap.size x Ac cc Ak ck Ai ci) (hl : x.cells.length ≤ 1000) (hl2 : x.keys.length ≤ 1000) (hl3 : x.kids.length ≤ 1001) (hR : ¬ RightP x) :
    Calls Try.prog 53 #[.agg (nodC x Ac cc Ak ck Ai ci)] w fun e w' => e = .returned (.tuple #[.int .i64 0, .int .i64 2]) ∧ Below w.heap.size w w' :=
  bytes_bad w x Ac cc Ak ck Ai ci h 2 fun W hW => laid_no W x Ac cc Ak ck Ai ci (h.grow hW) (by omega) (by omega) (by omega) hR
set_option maxHeartbeats 1000000 in
theorem fits_ok (w : World) (x : Nod) (Ac : Option Addr) (cc : Nat) (Ak : Option Addr) (ck : Nat) (Ai : Option Addr) (ci : Nat) (h : NIs w w.heap.size x Ac cc Ak ck Ai ci) (hl : x.cells.length ≤ 1000) (hl2 : x.keys.length ≤ 1000) (hl3 : x.kids.length ≤ 1001) (hR : RightP x) (hfit : (laidB x).length ≤ 512) :
    Calls Try.prog 55 #[.agg (nodC x Ac cc Ak ck Ai ci)] w fun e w' => e = .returned (.bool true) ∧ Below w.heap.size w w' := by
  have b0 := BlkIs.new w 76 (nodC x Ac cc Ak ck Ai ci)
  have hB : Below w.heap.size w (w.alloc (.cells (nodC x Ac cc Ak ck Ai ci) 76)) := (Below.refl _ w).alloc (Nat.le_refl _) _
  have HB := bytes_ok _ x Ac cc Ak ck Ai ci (h.grow hB) hl hl2 hl3 hR
  have hle : ((laidB x).length : Int) ≤ 512 := by omega
  generalize laidB x = lb at *
  unfold nodC at *
  go_enter Try.func55, Try.ntmps55
  go_wp2_with (first
    | (refine wp_loadW rfl 76 (.tmp 1) rfl w.heap.size rfl rowNod b0 (by rfl) ?_)
    | (go_at_call 53; refine HB.mono ?_; rintro e w2 ⟨rfl, hB2⟩))
  go_ret
  exact ⟨rfl, hB.trans (hB2.mono hB.size)⟩
end Go.Proofs.Ytlelckdcmlpmdaa
/- louperef12.Find. -/
namespace Go.Proofs.Ytlelckdcmlpmdaa
open Go Go.RowKit Lou

set_option maxRecDepth 100000 in
set_option maxHeartbeats 400000 in
theorem refFind_gives (w : World) (x : Nod) (Ac : Option Addr) (cc : Nat) (Ak : Option Addr) (ck : Nat) (Ai : Option Addr) (ci : Nat) (h : NIs w w.heap.size x Ac cc Ak ck Ai ci) (hl : x.cells.length ≤ 1000000) (hl2 : x.keys.length ≤ 1000000) (key : ByteArray) :
    Calls Try.prog 49 #[.agg (nodC x Ac cc Ak ck Ai ci), .string key] w (FindOut w x key) := by
  have b0 := BlkIs.new w 76 (nodC x Ac cc Ak ck Ai ci)
  have hB : Below w.heap.size w (w.alloc (.cells (nodC x Ac cc Ak ck Ai ci) 76)) := (Below.refl _ w).alloc (Nat.le_refl _) _
  have HK := refKeys_gives _ x Ac cc Ak ck Ai ci (h.grow hB) hl
  have hln := nkeys_len hl hl2
  unfold FindOut
  obtain ⟨leaf, cells, keys, kids⟩ := x
  generalize nkeys ⟨leaf, cells, keys, kids⟩ = ks at *
  unfold nodC at *
  clear hl hl2 h
  cases leaf with
  | false =>
    go_enter Try.func49, Try.ntmps49
    go_wp2_with (first
      | (refine wp_loadW rfl 76 (.tmp 2) rfl w.heap.size rfl rowNod b0 (by rfl) ?_)
      | (go_at_call 50; refine HK.mono ?_; rintro e w2 ⟨A, c, rfl, hin, hB2⟩; have k0 : w2.cell? ⟨w.heap.size, 0, none⟩ = some (.bool false) := (hB2.cell (p := ⟨w.heap.size, 0, none⟩) b0.lt).trans (by rw [b0.cell]; rfl)))
    have hle := hin.le
    go_loopw [7, 8] (fun v i wr => ∃ (k : Nat), k ≤ ks.length ∧ i = .int .i64 k ∧ v = .int .i64 (cntLe key (ks.take k) : Int) ∧ wr = w2) (fun _ i _ => ks.length - (intOf i).toNat)
    case atStart => exact ⟨0, by omega, rfl, rfl, rfl⟩
    case round =>
      obtain ⟨k, hkl, rfl, rfl, rfl⟩ := hrel
      by_cases hlt : k < ks.length
      · obtain ⟨g, o, rfl, hg, _⟩ := hin.lies (by omega)
        have d0 := str_at hin rfl k hlt
        have hnx := cntLe_next key ks k hlt
        have hm := cntLe_le key (ks.take k)
        have hm2 : (ks.take k).length ≤ k := List.length_take_le _ _
        generalize ks[k] = s at *
        generalize cntLe key (ks.take k) = m at *
        have HN := Lib.hid hnx
        clear hnx
        have hwk : IntKind.i64.wrap ((k : Int) + 1) = (k : Int) + 1 := wrapN _ (by omega) (by omega)
        have hwm : IntKind.i64.wrap ((m : Int) + 1) = (m : Int) + 1 := wrapN _ (by omega) (by omega)
        by_cases hs : leS s key = true
        · have hs' : Op.bytesLess s.toList key.toList = true ∨ (s.toList == key.toList) = true := by simpa [leS] using hs
          clear hm hm2
          go_wp2
          all_goals first
            | (exfalso; rename_i hx; (rcases hs' with h | h <;> simp [h] at hx); done)
            | exact ⟨⟨k + 1, by omega, by simp, by rw [HN.out, if_pos hs]; simp, by simp⟩, by simp [intOf]; omega⟩
        · have hs' : ¬ (Op.bytesLess s.toList key.toList = true ∨ (s.toList == key.toList) = true) := by simpa [leS] using hs
          clear hm hm2
          go_wp2
          exact ⟨⟨k + 1, by omega, by simp, by rw [HN.out, if_neg hs]; simp, by simp⟩, by simp [intOf]; omega⟩
      · obtain rfl : k = ks.length := by omega
        rw [List.take_length]
        go_wp2
        exact bodyPost_ret (results_tmp2 rfl _ _ _) rfl ⟨rfl, hB.trans (hB2.mono hB.size)⟩
  | true =>
    go_enter Try.func49, Try.ntmps49
    go_wp2_with (first
      | (refine wp_loadW rfl 76 (.tmp 2) rfl w.heap.size rfl rowNod b0 (by rfl) ?_)
      | (go_at_call 50; refine HK.mono ?_; rintro e w2 ⟨A, c, rfl, hin, hB2⟩; have k0 : w2.cell? ⟨w.heap.size, 0, none⟩ = some (.bool true) := (hB2.cell (p := ⟨w.heap.size, 0, none⟩) b0.lt).trans (by rw [b0.cell]; rfl)))
    have hle := hin.le
    go_loopw [7] (fun i wr => ∃ (k : Nat), k ≤ ks.length ∧ i = .int .i64 k ∧ (∀ j, (h : j < ks.length) → j < k → ltS ks[j] key = true) ∧ wr = w2) (fun i _ => ks.length - (intOf i).toNat)
    case atStart => exact ⟨0, by omega, rfl, fun j _ h => by omega, rfl⟩
    case round =>
      obtain ⟨k, hkl, rfl, hall, rfl⟩ := hrel
      by_cases hlt : k < ks.length
      · obtain ⟨g, o, rfl, hg, _⟩ := hin.lies (by omega)
        have d0 := str_at hin rfl k hlt
        have hnx : ltS ks[k] key = true → ∀ j, (h : j < ks.length) → j < k + 1 → ltS ks[j] key = true := fun h1 j hj hjk => by
          by_cases e : j = k
          · subst e; exact h1
          · exact hall j hj (by omega)
        have hend : ltS ks[k] key = false → frontLt key ks = k := fun h1 => frontLt_at key ks k hkl hall (fun _ => h1)
        have hget : ks[k]? = some ks[k] := List.getElem?_eq_getElem hlt
        generalize ks[k] = s at *
        have hwk : IntKind.i64.wrap ((k : Int) + 1) = (k : Int) + 1 := wrapN _ (by omega) (by omega)
        cases hs : ltS s key with
        | true =>
          have hs' : Op.bytesLess s.toList key.toList = true := hs
          have HX := Lib.hid (hnx hs)
          clear hnx hend hall hget hs
          go_wp2
          exact ⟨⟨k + 1, by omega, by simp, HX.out, by simp⟩, by simp [intOf]; omega⟩
        | false =>
          have hs' : Op.bytesLess s.toList key.toList = false := hs
          have HX := Lib.hid (hend hs)
          have HG := Lib.hid hget
          clear hnx hend hall hget hs
          go_wp2
          go_region
          go_wp2
          have e1 : findAt true ks key = k := HX.out
          have e2 : findIs true ks key = (s.toList == key.toList) := by
            unfold findIs
            rw [HX.out, HG.out]
            rfl
          exact bodyPost_ret (results_tmp2 rfl _ _ _) rfl ⟨by rw [e1, e2]; rfl, hB.trans (hB2.drew.mono hB.size)⟩
      · obtain rfl : k = ks.length := by omega
        have HX := Lib.hid (frontLt_at key ks ks.length hkl hall (fun h => absurd h hlt))
        clear hall
        go_wp2
        go_region
        go_wp2
        have e1 : findAt true ks key = ks.length := HX.out
        have e2 : findIs true ks key = false := by
          unfold findIs
          rw [HX.out, List.getElem?_eq_none (Nat.le_refl _)]
          rfl
        exact bodyPost_ret (results_tmp2 rfl _ _ _) rfl ⟨by rw [e1, e2]; rfl, hB.trans (hB2.drew.mono hB.size)⟩
end Go.Proofs.Ytlelckdcmlpmdaa
