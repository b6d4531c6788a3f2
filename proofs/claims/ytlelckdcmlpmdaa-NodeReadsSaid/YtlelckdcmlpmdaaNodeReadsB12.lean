/- Texts that the proof of NodeReads leans on, part 12. -/
import Derived.Deep.DeepCutAuto
import Derived.Deep.CutBlock
import Derived.OrdersHeld
import Derived.Test.YtlelckdcmlpmdaaNodeReadsB11
/- node.Decode. -/
namespace Go.Proofs.Ytlelckdcmlpmdaa
open Go Go.RowKit Lou
attribute [local go_sem] as_errno

theorem rdMany_fst {l0 l : List UInt8} {k : Nat} {cs : List Cel} (h : rdMany rdCel k l0 = some (cs, l)) : cs.length ≤ l0.length := by have := rdMany_less (f := rdCel) (fun _ _ _ h => rdCel_less h) k l0 cs l h; omega
theorem rdMany_snd {l0 l : List UInt8} {k : Nat} {cs : List (ByteArray × Int)} (h : rdMany rdKey k l0 = some (cs, l)) : cs.length ≤ l0.length := by have := rdMany_less (f := rdKey) (fun _ _ _ h => rdKey_less h) k l0 cs l h; omega
/-- Nodes that are read of bytes are small. -/
theorem rdRest_small {lf : Bool} {r : List UInt8} {x : Nod} (h : rdRest lf r = some x) : x.leaf = lf ∧ x.cells.length ≤ r.length ∧ x.keys.length ≤ r.length ∧ x.kids.length ≤ r.length + 1 := by
  unfold rdRest at h
  cases e2 : rdN12 r with
  | none => rw [e2] at h; cases h
  | some z =>
    obtain ⟨many, r1⟩ := z
    have b2 := (rdN12_less e2).1
    rw [e2] at h
    simp only at h
    cases lf with
    | true =>
      simp only [if_true] at h
      cases e3 : rdMany rdCel many r1 with
      | none => rw [e3] at h; cases h
      | some u =>
        obtain ⟨cs, r2⟩ := u
        rw [e3] at h
        simp only [Option.some.injEq] at h
        subst h
        have := rdMany_fst e3
        exact ⟨rfl, by show cs.length ≤ _; omega, by show 0 ≤ _; omega, by show 0 ≤ _; omega⟩
    | false =>
      simp only [Bool.false_eq_true, if_false] at h
      cases e3 : rdN12 r1 with
      | none => rw [e3] at h; cases h
      | some v =>
        obtain ⟨kid, r2⟩ := v
        have b3 := (rdN12_less e3).1
        rw [e3] at h
        simp only at h
        cases e4 : rdMany rdKey many r2 with
        | none => rw [e4] at h; cases h
        | some u =>
          obtain ⟨cs, r3⟩ := u
          rw [e4] at h
          simp only [Option.some.injEq] at h
          subst h
          have := rdMany_snd e4
          exact ⟨rfl, by show 0 ≤ _; omega, by show (cs.map _).length ≤ _; rw [List.length_map]; omega, by show (_ :: cs.map _).length ≤ _; rw [List.length_cons, List.length_map]; omega⟩
theorem rdNod_small {b : List UInt8} {x : Nod} (h : rdNod b = some x) : x.cells.length ≤ b.length ∧ x.keys.length ≤ b.length ∧ x.kids.length ≤ b.length + 1 := by
  unfold rdNod at h
  cases e1 : rdN12 b with
  | none => rw [e1] at h; cases h
  | some y =>
    obtain ⟨f, r⟩ := y
    have b1 := (rdN12_less e1).1
    rw [e1] at h
    simp only at h
    split at h
    · have := rdRest_small h; omega
    · split at h
      · have := rdRest_small h; omega
      · cases h
/-- Rows that lie from n on, kept by what changes no block from n on. -/
theorem InG.keepAt {w w' : World} {B B' sz n c : Nat} {A : Option Addr} {cs : List Value} (h : InG w B sz A n c cs) (hB : B ≤ B') (hk : ∀ g o, A = some ⟨g, o, none⟩ → w'.heap[g]? = w.heap[g]?) : InG w' B' sz A n c cs := by
  refine ⟨h.le, h.max, h.nil, h.len, h.one, fun h0 => ?_⟩
  obtain ⟨g, o, e, hg, hr⟩ := h.lies h0
  refine ⟨g, o, e, by omega, fun j v hj => ?_⟩
  rw [← hr j v hj]
  exact World.cell?_of_block (w := w) (hk g o e)
theorem NIs.keepAt {w w' : World} {x : Nod} {n : Nat} {Ac Ak Ai : Option Addr} {cc ck ci : Nat} (h : NIs w w.heap.size x Ac cc Ak ck Ai ci) (hf : RowsFrom n Ac Ak Ai) (hs : w.heap.size ≤ w'.heap.size) (hk : ∀ r, n ≤ r → w'.heap[r]? = w.heap[r]?) : NIs w' w'.heap.size x Ac cc Ak ck Ai ci :=
  ⟨h.c.keepAt hs fun g o e => hk g (hf g o (.inl e)), h.k.keepAt hs fun g o e => hk g (hf g o (.inr (.inl e))), h.i.keepAt hs fun g o e => hk g (hf g o (.inr (.inr e)))⟩
set_option maxRecDepth 100000 in
set_option maxHeartbeats 1000000 in
theorem decode1_gives (w : World) (p : Nat) (cs : Array Value) (hb : BlkIs w p 76 cs) (h4 : cs.size = 4) : Calls Try.prog 127 #[.pointer (some ⟨p, 0, none⟩)] w fun e w' => (∃ v, e = .returned v) ∧ w' = w.setRow p zeroN := by
  go_enter Try.func127, Try.ntmps127
  go_wp2_with (first
    | (refine wp_storeW rfl 76 (.tmp 0) (.tmp 1) rfl p rfl rfl rowNod hb h4 (by rw [h4]; rfl) zeroN_one ?_))
  go_end0
  exact ⟨⟨_, rfl⟩, rfl⟩
set_option maxRecDepth 100000 in
set_option maxHeartbeats 1000000 in
theorem caught_decode (w : World) (p pe : Nat) (k e : Int) (cs : Array Value) (hp : BlkIs w pe 27 #[.int .i64 k]) (hb : BlkIs w p 76 cs) (h4 : cs.size = 4) (hne : p ≠ pe) :
    CallsD Try.prog 113 #[.pointer (some ⟨pe, 0, none⟩), .func (.func 127) #[] #[.pointer (some ⟨p, 0, none⟩)]] (.panicking [gave e false]) w fun e' u' w' => e' = .returned (.tuple #[]) ∧ u' = .panicking [gave e true] ∧
      w' = (w.setCell ⟨pe, 0, none⟩ (.int .i64 e)).setRow p zeroN := by
  refine callsD_of_wpS Try.func113 rfl fun c₀ cs hu => ?_
  unfold gave at hu
  apply wpS_seq
  apply wpS_region
  simp [wpOpsS, go_sem, recoverD, hu, Try.ntmps113, Exit.thenS]
  refine wpS_of_wp ?_
  simp only [Array.replicate_succ, Array.replicate_zero, List.push_toArray, List.nil_append, List.cons_append]
  have c1 := hp.boxed
  have f1 := hp.free 0
  have hb2 := hb.other (p := ⟨pe, 0, none⟩) (by simpa using hne) (.int .i64 e)
  go_wp2_with (go_at_call 127; refine (decode1_gives _ p _ hb2 h4).mono ?_; rintro e1 w1 ⟨⟨v1, rfl⟩, rfl⟩)
  refine ⟨rfl, _, rfl, _, results_none rfl _ _ _, rfl, rfl, rfl⟩
end Go.Proofs.Ytlelckdcmlpmdaa
/- node.Decode: the walk. -/
namespace Go.Proofs.Ytlelckdcmlpmdaa
open Go Go.RowKit Lou

/-- The world in which Decode has its boxes. -/
def decW (w : World) : World := (w.alloc (.cells #[.bool false, .slice none 0 0, .slice none 0 0, .slice none 0 0] 76)).alloc (.cells #[.int .i64 0] 27)
theorem decW_is (w : World) : BlkIs (decW w) w.heap.size 76 zeroN ∧ BlkIs (decW w) (w.heap.size + 1) 27 #[.int .i64 0] ∧ Below w.heap.size w (decW w) ∧ (decW w).heap.size = w.heap.size + 1 + 1 := by
  have b0 := BlkIs.new w 76 zeroN
  have b2 := BlkIs.new (w.alloc (.cells zeroN 76)) 27 #[.int .i64 0]
  rw [World.size_alloc] at b2
  exact ⟨b0.alloc _, b2, ((Below.refl _ w).alloc (Nat.le_refl _) _).alloc (by simp) _, by unfold decW; rw [World.size_alloc, World.size_alloc]⟩
/-- Decode gives up; it gives a node. -/
def DecNo (w : World) (e : Ending) (w' : World) : Prop := e = .returned (.tuple #[.agg zeroN, .int .i64 220]) ∧ Below w.heap.size w w'
def DecYes (w : World) (x : Nod) (e : Ending) (w' : World) : Prop := ∃ Ac cc Ak ck Ai ci, e = .returned (.tuple #[.agg (nodC x Ac cc Ak ck Ai ci), .int .i64 0]) ∧ NIs w' w'.heap.size x Ac cc Ak ck Ai ci ∧ Below w.heap.size w w'
set_option maxRecDepth 100000 in
set_option maxHeartbeats 4000000 in
theorem dec_len (w : World) (A : Option Addr) (c : Nat) (b : List UInt8) (h : InB w w.heap.size A c b) (hl : ¬ b.length = 512) :
    Calls Try.prog 66 #[.slice A b.length c] w (DecNo w) := by
  have hmf : ∀ (fn : Fn) (first cap : Array Value) (w : World), (Instr.makeFunc fn first cap).run Try.prog w = .ok (.func fn first cap) w := fun _ _ _ _ => rfl
  obtain ⟨z1, z2, zB, _⟩ := decW_is w
  unfold decW at z1 z2 zB
  obtain ⟨b1, b2, hB1, hs1⟩ := decW_is w
  obtain ⟨W1, hW1⟩ : ∃ W1, W1 = decW w := ⟨_, rfl⟩
  rw [← hW1] at b1 b2 hB1 hs1
  unfold decW at hW1
  have b0r := BlkIs.new W1 224 #[.slice A b.length c]
  have hB12 : Below W1.heap.size W1 (W1.alloc (.cells #[.slice A b.length c] 224)) := (Below.refl _ W1).alloc (Nat.le_refl _) _
  have hR : RdIs (W1.alloc (.cells #[.slice A b.length c] 224)) (w.heap.size + 1 + 1) w.heap.size b := by
    rw [← hs1]
    exact ⟨A, c, b0r, h.below (hB1.trans (hB12.mono hB1.size))⟩
  have HNd := rnode_gives _ _ _ b hR (by omega)
  unfold RNodOut at HNd
  have hB02 := hB1.trans (hB12.mono hB1.size)
  have b12 := b1.below hB12 b1.lt
  have b22 := b2.below hB12 b2.lt
  have hs2 : (W1.alloc (.cells #[.slice A b.length c] 224)).heap.size = w.heap.size + 1 + 1 + 1 := by rw [World.size_alloc, hs1]
  obtain ⟨W2, hW2⟩ : ∃ W2, W2 = W1.alloc (.cells #[.slice A b.length c] 224) := ⟨_, rfl⟩
  rw [← hW2] at HNd hB02 b12 b22 hs2
  rw [hW1] at hW2
  have HW2 := Lib.hid hW2
  have HS2 := Lib.hid hs2
  clear hW1 hW2 hR b0r hB12 hs1 hs2
  have hlen : ¬ (b.length : Int) = 512 := by omega
  clear hl HNd b12 b22 hB02 HW2 HS2 hB1 b1 b2
  unfold DecNo
  go_enter_defers Try.func66, Try.ntmps66
  go_wp2_with (go_at_call 115; refine (must_gives _ _ _).mono ?_; rintro e w7 ⟨rfl, h7⟩; obtain rfl := h7.2 (by simp [hlen]))
  refine leaves_cons (f := 113) (args := #[.pointer (some ⟨w.heap.size + 1, 0, none⟩), .func (.func 127) #[] #[.pointer (some ⟨w.heap.size, 0, none⟩)]]) (by simp) (by simp [go_sem]) ?_
  refine (caught_decode _ _ _ _ 220 _ z2 z1 rfl (by omega)).mono ?_
  rintro e u' wz ⟨rfl, rfl, hwz⟩
  have y1 := (z1.other (p := ⟨w.heap.size + 1, 0, none⟩) (by simp) (.int .i64 220)).setRow zeroN
  have y2 := (z2.set 0 (.int .i64 220)).setRow_ne (k := w.heap.size) (by omega) zeroN
  have hBf := below_setRow ((zB).setCell (p := ⟨w.heap.size + 1, 0, none⟩) (by simp) (.int .i64 220)) (Nat.le_refl w.heap.size) zeroN
  rw [← hwz] at y1 y2 hBf
  clear hwz
  unfold zeroN at y1
  obtain ⟨a0, a1, a2, a3⟩ := box4 y1
  have q3 : wz.cell? ⟨w.heap.size + 1, 0, none⟩ = some (.int .i64 220) := y2.boxed
  simp [Leaves, settle, gave, results, Try.results66, go_sem, a0, a1, a2, a3, q3, zeroN]
  exact hBf
set_option maxRecDepth 100000 in
set_option maxHeartbeats 4000000 in
theorem dec_none (w : World) (A : Option Addr) (c : Nat) (b : List UInt8) (h : InB w w.heap.size A c b) (hl : b.length = 512) (hr : rdNod b = none) :
    Calls Try.prog 66 #[.slice A b.length c] w (DecNo w) := by
  have hmf : ∀ (fn : Fn) (first cap : Array Value) (w : World), (Instr.makeFunc fn first cap).run Try.prog w = .ok (.func fn first cap) w := fun _ _ _ _ => rfl
  obtain ⟨b1, b2, hB1, hs1⟩ := decW_is w
  obtain ⟨W1, hW1⟩ : ∃ W1, W1 = decW w := ⟨_, rfl⟩
  rw [← hW1] at b1 b2 hB1 hs1
  unfold decW at hW1
  have b0r := BlkIs.new W1 224 #[.slice A b.length c]
  have hB12 : Below W1.heap.size W1 (W1.alloc (.cells #[.slice A b.length c] 224)) := (Below.refl _ W1).alloc (Nat.le_refl _) _
  have hR : RdIs (W1.alloc (.cells #[.slice A b.length c] 224)) (w.heap.size + 1 + 1) w.heap.size b := by
    rw [← hs1]
    exact ⟨A, c, b0r, h.below (hB1.trans (hB12.mono hB1.size))⟩
  have HNd := rnode_gives _ _ _ b hR (by omega)
  unfold RNodOut at HNd
  have hB02 := hB1.trans (hB12.mono hB1.size)
  have b12 := b1.below hB12 b1.lt
  have b22 := b2.below hB12 b2.lt
  have hs2 : (W1.alloc (.cells #[.slice A b.length c] 224)).heap.size = w.heap.size + 1 + 1 + 1 := by rw [World.size_alloc, hs1]
  obtain ⟨W2, hW2⟩ : ∃ W2, W2 = W1.alloc (.cells #[.slice A b.length c] 224) := ⟨_, rfl⟩
  rw [← hW2] at HNd hB02 b12 b22 hs2
  rw [hW1] at hW2
  have HW2 := Lib.hid hW2
  have HS2 := Lib.hid hs2
  clear hW1 hW2 hR b0r hB12 hs1 hs2
  have hlen : (b.length : Int) = 512 := by omega
  rw [hr] at HNd
  simp only at HNd
  clear hl hr
  unfold DecNo
  go_enter_defers Try.func66, Try.ntmps66
  go_wp2_with (first
    | (go_at_call 115; refine (must_gives _ _ _).mono ?_; rintro e w7 ⟨rfl, h7⟩; obtain ⟨v7, rfl⟩ := h7.1 rfl)
    | (go_at_call 128; rw [← HW2.out]; refine HNd.mono ?_; rintro e w3 ⟨hg3, rfl⟩))
  have b13 := b12.grown hg3 (fun e => by injection e; omega)
  have b23 := b22.grown hg3 (fun e => by injection e; omega)
  have hB03 : Below w.heap.size w w3 := hB02.grown hg3 (by have := HS2.out; omega) (fun k e => by injection e; omega)
  refine leaves_cons (f := 113) (args := #[.pointer (some ⟨w.heap.size + 1, 0, none⟩), .func (.func 127) #[] #[.pointer (some ⟨w.heap.size, 0, none⟩)]]) (by simp) (by simp [go_sem]) ?_
  refine (caught_decode _ _ _ _ 220 _ b23 b13 rfl (by omega)).mono ?_
  rintro e u' wz ⟨rfl, rfl, hwz⟩
  have y1 := (b13.other (p := ⟨w.heap.size + 1, 0, none⟩) (by simp) (.int .i64 220)).setRow zeroN
  have y2 := (b23.set 0 (.int .i64 220)).setRow_ne (k := w.heap.size) (by omega) zeroN
  have hBf := below_setRow ((hB03).setCell (p := ⟨w.heap.size + 1, 0, none⟩) (by simp) (.int .i64 220)) (Nat.le_refl w.heap.size) zeroN
  rw [← hwz] at y1 y2 hBf
  clear hwz
  unfold zeroN at y1
  obtain ⟨a0, a1, a2, a3⟩ := box4 y1
  have q3 : wz.cell? ⟨w.heap.size + 1, 0, none⟩ = some (.int .i64 220) := y2.boxed
  simp [Leaves, settle, gave, results, Try.results66, go_sem, a0, a1, a2, a3, q3, zeroN]
  exact hBf
set_option maxRecDepth 100000 in
set_option maxHeartbeats 4000000 in
theorem dec_bad (w : World) (A : Option Addr) (c : Nat) (b : List UInt8) (h : InB w w.heap.size A c b) (hl : b.length = 512) (x : Nod) (hr : rdNod b = some x) (e0 : Int) (he : ¬ e0 = 0) (HE : ∀ W Ac cc Ak ck Ai ci, NIs W W.heap.size x Ac cc Ak ck Ai ci → Calls Try.prog 109 #[.agg (nodC x Ac cc Ak ck Ai ci)] W (EncNo W e0)) :
    Calls Try.prog 66 #[.slice A b.length c] w (DecNo w) := by
  have hmf : ∀ (fn : Fn) (first cap : Array Value) (w : World), (Instr.makeFunc fn first cap).run Try.prog w = .ok (.func fn first cap) w := fun _ _ _ _ => rfl
  obtain ⟨b1, b2, hB1, hs1⟩ := decW_is w
  obtain ⟨W1, hW1⟩ : ∃ W1, W1 = decW w := ⟨_, rfl⟩
  rw [← hW1] at b1 b2 hB1 hs1
  unfold decW at hW1
  have b0r := BlkIs.new W1 224 #[.slice A b.length c]
  have hB12 : Below W1.heap.size W1 (W1.alloc (.cells #[.slice A b.length c] 224)) := (Below.refl _ W1).alloc (Nat.le_refl _) _
  have hR : RdIs (W1.alloc (.cells #[.slice A b.length c] 224)) (w.heap.size + 1 + 1) w.heap.size b := by
    rw [← hs1]
    exact ⟨A, c, b0r, h.below (hB1.trans (hB12.mono hB1.size))⟩
  have HNd := rnode_gives _ _ _ b hR (by omega)
  unfold RNodOut at HNd
  have hB02 := hB1.trans (hB12.mono hB1.size)
  have b12 := b1.below hB12 b1.lt
  have b22 := b2.below hB12 b2.lt
  have hs2 : (W1.alloc (.cells #[.slice A b.length c] 224)).heap.size = w.heap.size + 1 + 1 + 1 := by rw [World.size_alloc, hs1]
  obtain ⟨W2, hW2⟩ : ∃ W2, W2 = W1.alloc (.cells #[.slice A b.length c] 224) := ⟨_, rfl⟩
  rw [← hW2] at HNd hB02 b12 b22 hs2
  rw [hW1] at hW2
  have HW2 := Lib.hid hW2
  have HS2 := Lib.hid hs2
  clear hW1 hW2 hR b0r hB12 hs1 hs2
  have hlen : (b.length : Int) = 512 := by omega
  rw [hr] at HNd
  simp only at HNd
  unfold EncNo at HE
  clear hl hr
  unfold DecNo
  go_enter_defers Try.func66, Try.ntmps66
  go_wp2_with (first
    | (go_at_call 115; refine (must_gives _ _ _).mono ?_; rintro e w7 ⟨rfl, h7⟩; obtain ⟨v7, rfl⟩ := h7.1 rfl)
    | (go_at_call 128; rw [← HW2.out]; refine HNd.mono ?_; rintro e w3 ⟨hg3, Ac, cc, Ak, ck, Ai, ci, rfl, n3, hf⟩; have hs2 := HS2.out; have b13 := b12.grown hg3 (fun e => by injection e; omega); have b23 := b22.grown hg3 (fun e => by injection e; omega); have hB03 : Below w.heap.size w w3 := hB02.grown hg3 (by omega) (fun k e => by injection e; omega); clear hs2)
    | (unfold nodC; refine wp_storeW rfl 76 (.tmp 2) (.tmp 17) rfl w.heap.size rfl rfl rowNod b13 rfl rfl (four_oneC rfl rfl rfl rfl) ?_; have n4 := n3.keepAt (w' := w3.setRow w.heap.size (nodC x Ac cc Ak ck Ai ci)) hf (by simp [World.setRow]) (fun r hr => setRow_other _ _ r _ (by have := HS2.out; omega)); have b14 := b13.setRow (nodC x Ac cc Ak ck Ai ci); have b24 := b23.setRow_ne (k := w.heap.size) (by omega) (nodC x Ac cc Ak ck Ai ci); have hB04 := below_setRow hB03 (Nat.le_refl w.heap.size) (nodC x Ac cc Ak ck Ai ci); obtain ⟨W4, hW4⟩ : ∃ W, w3.setRow w.heap.size (nodC x Ac cc Ak ck Ai ci) = W := ⟨_, rfl⟩; rw [hW4] at n4 b14 b24 hB04; unfold nodC at hW4 b14; rw [hW4]; clear hW4)
    | (refine wp_loadW rfl 76 (.tmp 2) rfl w.heap.size rfl rowNod b14 rfl ?_)
    | (go_at_call 109; refine (HE _ _ _ _ _ _ _ n4).mono ?_; rintro e w5 ⟨rfl, hB5⟩)
    | (go_at_call 115; refine (must_gives _ _ _).mono ?_; rintro e w7 ⟨rfl, h7⟩; obtain rfl := h7.2 (by simp [he])))
  have b15 := b14.below hB5 b14.lt
  have b25 := b24.below hB5 b24.lt
  have hB05 := hB04.trans (hB5.mono hB04.size)
  refine leaves_cons (f := 113) (args := #[.pointer (some ⟨w.heap.size + 1, 0, none⟩), .func (.func 127) #[] #[.pointer (some ⟨w.heap.size, 0, none⟩)]]) (by simp) (by simp [go_sem]) ?_
  refine (caught_decode _ _ _ _ 220 _ b25 b15 rfl (by omega)).mono ?_
  rintro e u' wz ⟨rfl, rfl, hwz⟩
  have y1 := (b15.other (p := ⟨w.heap.size + 1, 0, none⟩) (by simp) (.int .i64 220)).setRow zeroN
  have y2 := (b25.set 0 (.int .i64 220)).setRow_ne (k := w.heap.size) (by omega) zeroN
  have hBf := below_setRow ((hB05).setCell (p := ⟨w.heap.size + 1, 0, none⟩) (by simp) (.int .i64 220)) (Nat.le_refl w.heap.size) zeroN
  rw [← hwz] at y1 y2 hBf
  clear hwz
  unfold zeroN at y1
  obtain ⟨a0, a1, a2, a3⟩ := box4 y1
  have q3 : wz.cell? ⟨w.heap.size + 1, 0, none⟩ = some (.int .i64 220) := y2.boxed
  simp [Leaves, settle, gave, results, Try.results66, go_sem, a0, a1, a2, a3, q3, zeroN]
  exact hBf
set_option maxRecDepth 100000 in
set_option maxHeartbeats 4000000 in
theorem dec_diff (w : World) (A : Option Addr) (c : Nat) (b : List UInt8) (h : InB w w.heap.size A c b) (hl : b.length = 512) (x : Nod) (hr : rdNod b = some x) (lb : List UInt8) (hfl : (lb ++ List.replicate (512 - lb.length) (0 : UInt8)).length = 512) (HE : ∀ W Ac cc Ak ck Ai ci, NIs W W.heap.size x Ac cc Ak ck Ai ci → Calls Try.prog 109 #[.agg (nodC x Ac cc Ak ck Ai ci)] W (EncOut W lb)) (hne : ¬ lb ++ List.replicate (512 - lb.length) (0 : UInt8) = b) :
    Calls Try.prog 66 #[.slice A b.length c] w (DecNo w) := by
  have hmf : ∀ (fn : Fn) (first cap : Array Value) (w : World), (Instr.makeFunc fn first cap).run Try.prog w = .ok (.func fn first cap) w := fun _ _ _ _ => rfl
  obtain ⟨b1, b2, hB1, hs1⟩ := decW_is w
  obtain ⟨W1, hW1⟩ : ∃ W1, W1 = decW w := ⟨_, rfl⟩
  rw [← hW1] at b1 b2 hB1 hs1
  unfold decW at hW1
  have b0r := BlkIs.new W1 224 #[.slice A b.length c]
  have hB12 : Below W1.heap.size W1 (W1.alloc (.cells #[.slice A b.length c] 224)) := (Below.refl _ W1).alloc (Nat.le_refl _) _
  have hR : RdIs (W1.alloc (.cells #[.slice A b.length c] 224)) (w.heap.size + 1 + 1) w.heap.size b := by
    rw [← hs1]
    exact ⟨A, c, b0r, h.below (hB1.trans (hB12.mono hB1.size))⟩
  have HNd := rnode_gives _ _ _ b hR (by omega)
  unfold RNodOut at HNd
  have hB02 := hB1.trans (hB12.mono hB1.size)
  have b12 := b1.below hB12 b1.lt
  have b22 := b2.below hB12 b2.lt
  have hs2 : (W1.alloc (.cells #[.slice A b.length c] 224)).heap.size = w.heap.size + 1 + 1 + 1 := by rw [World.size_alloc, hs1]
  obtain ⟨W2, hW2⟩ : ∃ W2, W2 = W1.alloc (.cells #[.slice A b.length c] 224) := ⟨_, rfl⟩
  rw [← hW2] at HNd hB02 b12 b22 hs2
  rw [hW1] at hW2
  have HW2 := Lib.hid hW2
  have HS2 := Lib.hid hs2
  clear hW1 hW2 hR b0r hB12 hs1 hs2
  have hlen : (b.length : Int) = 512 := by omega
  rw [hr] at HNd
  simp only at HNd
  unfold EncOut at HE
  generalize lb ++ List.replicate (512 - lb.length) (0 : UInt8) = full at *
  have EQ : ∀ W A5 c5, InB W W.heap.size A5 c5 full → InB W W.heap.size A c b → Calls Try.prog 129 #[.slice A5 512 c5, .slice A b.length c] W fun e w' => e = .returned (.bool (decide (full = b))) ∧ Below W.heap.size W w' := fun W A5 c5 h1 h2 => by
    have := eqB_gives W A5 A c5 c full b h1 h2
    rw [hfl] at this
    exact this
  clear hfl
  clear hl hr
  unfold DecNo
  go_enter_defers Try.func66, Try.ntmps66
  go_wp2_with (first
    | (go_at_call 115; refine (must_gives _ _ _).mono ?_; rintro e w7 ⟨rfl, h7⟩; obtain ⟨v7, rfl⟩ := h7.1 rfl)
    | (go_at_call 128; rw [← HW2.out]; refine HNd.mono ?_; rintro e w3 ⟨hg3, Ac, cc, Ak, ck, Ai, ci, rfl, n3, hf⟩; have hs2 := HS2.out; have b13 := b12.grown hg3 (fun e => by injection e; omega); have b23 := b22.grown hg3 (fun e => by injection e; omega); have hB03 : Below w.heap.size w w3 := hB02.grown hg3 (by omega) (fun k e => by injection e; omega); clear hs2)
    | (unfold nodC; refine wp_storeW rfl 76 (.tmp 2) (.tmp 17) rfl w.heap.size rfl rfl rowNod b13 rfl rfl (four_oneC rfl rfl rfl rfl) ?_; have n4 := n3.keepAt (w' := w3.setRow w.heap.size (nodC x Ac cc Ak ck Ai ci)) hf (by simp [World.setRow]) (fun r hr => setRow_other _ _ r _ (by have := HS2.out; omega)); have b14 := b13.setRow (nodC x Ac cc Ak ck Ai ci); have b24 := b23.setRow_ne (k := w.heap.size) (by omega) (nodC x Ac cc Ak ck Ai ci); have hB04 := below_setRow hB03 (Nat.le_refl w.heap.size) (nodC x Ac cc Ak ck Ai ci); obtain ⟨W4, hW4⟩ : ∃ W, w3.setRow w.heap.size (nodC x Ac cc Ak ck Ai ci) = W := ⟨_, rfl⟩; rw [hW4] at n4 b14 b24 hB04; unfold nodC at hW4 b14; rw [hW4]; clear hW4)
    | (refine wp_loadW rfl 76 (.tmp 2) rfl w.heap.size rfl rowNod b14 rfl ?_)
    | (go_at_call 109; refine (HE _ _ _ _ _ _ _ n4).mono ?_; rintro e w5 ⟨A5, c5, rfl, in5, hB5⟩; have inb5 : InB w5 w5.heap.size A c b := (h.below (hB04.trans (hB5.mono hB04.size))).more (by have := hB04.size; have := hB5.size; omega))
    | (go_at_call 129; refine (EQ _ _ _ in5 inb5).mono ?_; rintro e w6 ⟨rfl, hB6⟩; have b16 := (b14.below hB5 b14.lt).below hB6 (Nat.lt_of_lt_of_le b14.lt hB5.size); have b26 := (b24.below hB5 b24.lt).below hB6 (Nat.lt_of_lt_of_le b24.lt hB5.size); have hB05 := hB04.trans (hB5.mono hB04.size); have hB06 := hB05.trans (hB6.mono hB05.size); have n6 := (n4.grow hB5).grow hB6)
    | (go_at_call 115; refine (must_gives _ _ _).mono ?_; rintro e w7 ⟨rfl, h7⟩; obtain rfl := h7.2 (by simp [hne])))
  refine leaves_cons (f := 113) (args := #[.pointer (some ⟨w.heap.size + 1, 0, none⟩), .func (.func 127) #[] #[.pointer (some ⟨w.heap.size, 0, none⟩)]]) (by simp) (by simp [go_sem]) ?_
  refine (caught_decode _ _ _ _ 220 _ b26 b16 rfl (by omega)).mono ?_
  rintro e u' wz ⟨rfl, rfl, hwz⟩
  have y1 := (b16.other (p := ⟨w.heap.size + 1, 0, none⟩) (by simp) (.int .i64 220)).setRow zeroN
  have y2 := (b26.set 0 (.int .i64 220)).setRow_ne (k := w.heap.size) (by omega) zeroN
  have hBf := below_setRow ((hB06).setCell (p := ⟨w.heap.size + 1, 0, none⟩) (by simp) (.int .i64 220)) (Nat.le_refl w.heap.size) zeroN
  rw [← hwz] at y1 y2 hBf
  clear hwz
  unfold zeroN at y1
  obtain ⟨a0, a1, a2, a3⟩ := box4 y1
  have q3 : wz.cell? ⟨w.heap.size + 1, 0, none⟩ = some (.int .i64 220) := y2.boxed
  simp [Leaves, settle, gave, results, Try.results66, go_sem, a0, a1, a2, a3, q3, zeroN]
  exact hBf
set_option maxRecDepth 100000 in
set_option maxHeartbeats 4000000 in
theorem dec_ok (w : World) (A : Option Addr) (c : Nat) (b : List UInt8) (h : InB w w.heap.size A c b) (hl : b.length = 512) (x : Nod) (hr : rdNod b = some x) (lb : List UInt8) (hfl : (lb ++ List.replicate (512 - lb.length) (0 : UInt8)).length = 512) (HE : ∀ W Ac cc Ak ck Ai ci, NIs W W.heap.size x Ac cc Ak ck Ai ci → Calls Try.prog 109 #[.agg (nodC x Ac cc Ak ck Ai ci)] W (EncOut W lb)) (he : lb ++ List.replicate (512 - lb.length) (0 : UInt8) = b) :
    Calls Try.prog 66 #[.slice A b.length c] w (DecYes w x) := by
  have hmf : ∀ (fn : Fn) (first cap : Array Value) (w : World), (Instr.makeFunc fn first cap).run Try.prog w = .ok (.func fn first cap) w := fun _ _ _ _ => rfl
  obtain ⟨b1, b2, hB1, hs1⟩ := decW_is w
  obtain ⟨W1, hW1⟩ : ∃ W1, W1 = decW w := ⟨_, rfl⟩
  rw [← hW1] at b1 b2 hB1 hs1
  unfold decW at hW1
  have b0r := BlkIs.new W1 224 #[.slice A b.length c]
  have hB12 : Below W1.heap.size W1 (W1.alloc (.cells #[.slice A b.length c] 224)) := (Below.refl _ W1).alloc (Nat.le_refl _) _
  have hR : RdIs (W1.alloc (.cells #[.slice A b.length c] 224)) (w.heap.size + 1 + 1) w.heap.size b := by
    rw [← hs1]
    exact ⟨A, c, b0r, h.below (hB1.trans (hB12.mono hB1.size))⟩
  have HNd := rnode_gives _ _ _ b hR (by omega)
  unfold RNodOut at HNd
  have hB02 := hB1.trans (hB12.mono hB1.size)
  have b12 := b1.below hB12 b1.lt
  have b22 := b2.below hB12 b2.lt
  have hs2 : (W1.alloc (.cells #[.slice A b.length c] 224)).heap.size = w.heap.size + 1 + 1 + 1 := by rw [World.size_alloc, hs1]
  obtain ⟨W2, hW2⟩ : ∃ W2, W2 = W1.alloc (.cells #[.slice A b.length c] 224) := ⟨_, rfl⟩
  rw [← hW2] at HNd hB02 b12 b22 hs2
  rw [hW1] at hW2
  have HW2 := Lib.hid hW2
  have HS2 := Lib.hid hs2
  clear hW1 hW2 hR b0r hB12 hs1 hs2
  have hlen : (b.length : Int) = 512 := by omega
  rw [hr] at HNd
  simp only at HNd
  unfold EncOut at HE
  generalize lb ++ List.replicate (512 - lb.length) (0 : UInt8) = full at *
  have EQ : ∀ W A5 c5, InB W W.heap.size A5 c5 full → InB W W.heap.size A c b → Calls Try.prog 129 #[.slice A5 512 c5, .slice A b.length c] W fun e w' => e = .returned (.bool (decide (full = b))) ∧ Below W.heap.size W w' := fun W A5 c5 h1 h2 => by
    have := eqB_gives W A5 A c5 c full b h1 h2
    rw [hfl] at this
    exact this
  clear hfl
  have HEQ := Lib.hid he
  clear he
  clear hl hr
  unfold DecYes
  go_enter_defers Try.func66, Try.ntmps66
  go_wp2_with (first
    | (go_at_call 115; refine (must_gives _ _ _).mono ?_; rintro e w7 ⟨rfl, h7⟩; obtain ⟨v7, rfl⟩ := h7.1 rfl)
    | (go_at_call 128; rw [← HW2.out]; refine HNd.mono ?_; rintro e w3 ⟨hg3, Ac, cc, Ak, ck, Ai, ci, rfl, n3, hf⟩; have hs2 := HS2.out; have b13 := b12.grown hg3 (fun e => by injection e; omega); have b23 := b22.grown hg3 (fun e => by injection e; omega); have hB03 : Below w.heap.size w w3 := hB02.grown hg3 (by omega) (fun k e => by injection e; omega); clear hs2)
    | (unfold nodC; refine wp_storeW rfl 76 (.tmp 2) (.tmp 17) rfl w.heap.size rfl rfl rowNod b13 rfl rfl (four_oneC rfl rfl rfl rfl) ?_; have n4 := n3.keepAt (w' := w3.setRow w.heap.size (nodC x Ac cc Ak ck Ai ci)) hf (by simp [World.setRow]) (fun r hr => setRow_other _ _ r _ (by have := HS2.out; omega)); have b14 := b13.setRow (nodC x Ac cc Ak ck Ai ci); have b24 := b23.setRow_ne (k := w.heap.size) (by omega) (nodC x Ac cc Ak ck Ai ci); have hB04 := below_setRow hB03 (Nat.le_refl w.heap.size) (nodC x Ac cc Ak ck Ai ci); obtain ⟨W4, hW4⟩ : ∃ W, w3.setRow w.heap.size (nodC x Ac cc Ak ck Ai ci) = W := ⟨_, rfl⟩; rw [hW4] at n4 b14 b24 hB04; unfold nodC at hW4 b14; rw [hW4]; clear hW4)
    | (refine wp_loadW rfl 76 (.tmp 2) rfl w.heap.size rfl rowNod b14 rfl ?_)
    | (go_at_call 109; refine (HE _ _ _ _ _ _ _ n4).mono ?_; rintro e w5 ⟨A5, c5, rfl, in5, hB5⟩; have inb5 : InB w5 w5.heap.size A c b := (h.below (hB04.trans (hB5.mono hB04.size))).more (by have := hB04.size; have := hB5.size; omega))
    | (go_at_call 129; refine (EQ _ _ _ in5 inb5).mono ?_; rintro e w6 ⟨rfl, hB6⟩; have b16 := (b14.below hB5 b14.lt).below hB6 (Nat.lt_of_lt_of_le b14.lt hB5.size); have b26 := (b24.below hB5 b24.lt).below hB6 (Nat.lt_of_lt_of_le b24.lt hB5.size); have hB05 := hB04.trans (hB5.mono hB04.size); have hB06 := hB05.trans (hB6.mono hB05.size); have n6 := (n4.grow hB5).grow hB6)
    | (go_at_call 115; refine (must_gives _ _ _).mono ?_; rintro e w7 ⟨rfl, h7⟩; obtain ⟨v7, rfl⟩ := h7.1 (decide_eq_true HEQ.out))
    | (refine wp_loadW rfl 76 (.tmp 2) rfl w.heap.size rfl rowNod b16 rfl ?_)
    | (refine wp_storeW rfl 76 (.tmp 2) (.tmp 31) rfl w.heap.size rfl rfl rowNod b16 rfl rfl (four_oneC rfl rfl rfl rfl) ?_; have n7 := n6.keepAt (w' := w6.setRow w.heap.size (nodC x Ac cc Ak ck Ai ci)) hf (by simp [World.setRow]) (fun r hr => setRow_other _ _ r _ (by have := HS2.out; omega)); have b17 := b16.setRow (nodC x Ac cc Ak ck Ai ci); have b27 := b26.setRow_ne (k := w.heap.size) (by omega) (nodC x Ac cc Ak ck Ai ci); have hB07 := below_setRow hB06 (Nat.le_refl w.heap.size) (nodC x Ac cc Ak ck Ai ci); obtain ⟨W7, hW7⟩ : ∃ W, w6.setRow w.heap.size (nodC x Ac cc Ak ck Ai ci) = W := ⟨_, rfl⟩; rw [hW7] at n7 b17 b27 hB07; unfold nodC at hW7 b17; rw [hW7]; clear hW7; have k7 := b27.boxed; have f7 := b27.free 0))
  refine leaves_cons (f := 113) (args := #[.pointer (some ⟨w.heap.size + 1, 0, none⟩), .func (.func 127) #[] #[.pointer (some ⟨w.heap.size, 0, none⟩)]]) (by simp) (by simp [go_sem]) ?_
  refine (caught_idle _ _ _).mono ?_
  rintro e u' wz ⟨rfl, rfl, hwz⟩
  have y1 := b17.other (p := ⟨w.heap.size + 1, 0, none⟩) (by simp) (.int .i64 0)
  have y2 := b27.set 0 (.int .i64 0)
  have hBf := hB07.setCell (p := ⟨w.heap.size + 1, 0, none⟩) (by simp) (.int .i64 0)
  have n8 := n7.keepAt (w' := W7.setCell ⟨w.heap.size + 1, 0, none⟩ (.int .i64 0)) hf (by simp [World.setCell]) (fun r hr => Below.heap_setCell W7 ⟨w.heap.size + 1, 0, none⟩ _ r (by have := HS2.out; show r ≠ w.heap.size + 1; omega))
  rw [← hwz] at y1 y2 hBf n8
  clear hwz
  obtain ⟨a0, a1, a2, a3⟩ := box4 y1
  have q3 : wz.cell? ⟨w.heap.size + 1, 0, none⟩ = some (.int .i64 0) := y2.boxed
  simp [Leaves, settle, results, Try.results66, go_sem, a0, a1, a2, a3, q3]
  exact ⟨Ac, cc, Ak, ck, Ai, ci, rfl, n8, hBf⟩
theorem fits_length {x : Nod} {b : List UInt8} (h : FitsIn x b) : b.length = 512 := by
  have h1 := h.2.1
  rw [← h.2.2, List.length_append, List.length_replicate]
  omega
/-- node.Decode, whatever bytes. -/
theorem decode_gives (w : World) (A : Option Addr) (c : Nat) (b : List UInt8) (h : InB w w.heap.size A c b) :
    Calls Try.prog 66 #[.slice A b.length c] w fun e w' => (∃ x, rdNod b = some x ∧ FitsIn x b ∧ DecYes w x e w') ∨ ((∀ x, rdNod b = some x → ¬ FitsIn x b) ∧ DecNo w e w') := by
  by_cases hl : b.length = 512
  · cases hr : rdNod b with
    | none => exact (dec_none w A c b h hl hr).mono fun e w' h => .inr ⟨(fun x e => by cases e), h⟩
    | some x =>
      obtain ⟨s1, s2, s3⟩ := rdNod_small hr
      by_cases hR : RightP x
      · by_cases hf : (laidB x).length ≤ 512
        · have hfl : (laidB x ++ List.replicate (512 - (laidB x).length) (0 : UInt8)).length = 512 := by rw [List.length_append, List.length_replicate]; omega
          have HE := fun W Ac cc Ak ck Ai ci (hn : NIs W W.heap.size x Ac cc Ak ck Ai ci) => encode_ok W x Ac cc Ak ck Ai ci hn (by omega) (by omega) (by omega) hR hf
          by_cases he : laidB x ++ List.replicate (512 - (laidB x).length) (0 : UInt8) = b
          · exact (dec_ok w A c b h hl x hr (laidB x) hfl HE he).mono fun e w' h => .inl ⟨x, rfl, ⟨hR, hf, he⟩, h⟩
          · exact (dec_diff w A c b h hl x hr (laidB x) hfl HE he).mono fun e w' h => .inr ⟨(fun y e hF => by injection e with e; subst e; exact he hF.2.2), h⟩
        · exact (dec_bad w A c b h hl x hr 3 (by decide) fun W Ac cc Ak ck Ai ci hn => encode_long W x Ac cc Ak ck Ai ci (laidB x) (by omega) fun W' hW => laid_gives W' x Ac cc Ak ck Ai ci (hn.grow hW) (by omega) (by omega) (by omega) hR).mono fun e w' h => .inr ⟨(fun y e hF => by injection e with e; subst e; exact hf hF.2.1), h⟩
      · exact (dec_bad w A c b h hl x hr 2 (by decide) fun W Ac cc Ak ck Ai ci hn => encode_bad W x Ac cc Ak ck Ai ci 2 fun W' hW => laid_no W' x Ac cc Ak ck Ai ci (hn.grow hW) (by omega) (by omega) (by omega) hR).mono fun e w' h => .inr ⟨(fun y e hF => by injection e with e; subst e; exact hR hF.1), h⟩
  · exact (dec_len w A c b h hl).mono fun e w' h => .inr ⟨fun x _ hF => hl (fits_length hF), h⟩
end Go.Proofs.Ytlelckdcmlpmdaa
/- louperef12: Decode: bytes that begin no node. -/
namespace Go.Proofs.Ytlelckdcmlpmdaa
open Go Go.RowKit Lou

/-- What both Decodes answer. -/
def DecSpec (w : World) (b : List UInt8) (e : Ending) (w' : World) : Prop := (∃ x, rdNod b = some x ∧ FitsIn x b ∧ DecYes w x e w') ∨ ((∀ x, rdNod b = some x → ¬ FitsIn x b) ∧ DecNo w e w')
theorem DecSpec.no {w w' : World} {b : List UInt8} (h : ∀ x, rdNod b = some x → ¬ FitsIn x b) (hB : Below w.heap.size w w') : DecSpec w b (.returned (.tuple #[.agg #[.bool false, .slice none 0 0, .slice none 0 0, .slice none 0 0], .int .i64 220])) w' := .inr ⟨h, rfl, hB⟩
/-- The world in which Decode has its boxes. -/
def rdW (w : World) : World := (w.alloc (.cells zeroN 76)).alloc (.cells zeroN 76)
theorem rdW_is (w : World) : BlkIs (w.alloc (.cells zeroN 76)) w.heap.size 76 zeroN ∧ Below w.heap.size w (w.alloc (.cells zeroN 76)) ∧ NSR (w.alloc (.cells zeroN 76)) (rdW w) (w.heap.size + 1) zeroN [] none 0 [] none 0 [] none 0 := by
  have b0 := BlkIs.new w 76 zeroN
  have n := NSR.start (w.alloc (.cells zeroN 76)) zeroN
  rw [World.size_alloc] at n
  exact ⟨b0, (Below.refl _ w).alloc (Nat.le_refl _) _, n⟩
theorem fits_head {x : Nod} {b : List UInt8} (h : FitsIn x b) : b.head? = some 1 ∨ b.head? = some 2 := by
  have := h.head
  cases hx : x.leaf <;> rw [hx] at this
  · exact .inr this
  · exact .inl this
def HeadIs (b : List UInt8) (lf : Bool) : Prop := b.head? = some (if lf then 1 else 2)
theorem fits_leaf {x : Nod} {b : List UInt8} {lf : Bool} (h : FitsIn x b) (hb : HeadIs b lf) : x.leaf = lf := by
  have := h.head
  unfold HeadIs at hb
  rw [hb] at this
  cases hx : x.leaf <;> cases lf <;> rw [hx] at this <;> first | rfl | (exfalso; simp at this)
/-- No node by the document's reading: no node. -/
theorem no_rest {b : List UInt8} {lf : Bool} (hb : HeadIs b lf) (hr : rdRest lf (b.drop 1) = none) : ∀ x, rdNod b = some x → ¬ FitsIn x b := fun x hx hf => by
  rw [rdNod_head hf, fits_leaf hf hb, hr] at hx
  cases hx
theorem no_diff {b : List UInt8} {lf : Bool} {x : Nod} (hb : HeadIs b lf) (hr : rdRest lf (b.drop 1) = some x) (hn : ¬ FitsIn x b) : ∀ y, rdNod b = some y → ¬ FitsIn y b := fun y hy hf => by
  rw [rdNod_head hf, fits_leaf hf hb, hr] at hy
  injection hy with hy
  subst hy
  exact hn hf
theorem yes_rest {b : List UInt8} {lf : Bool} {x : Nod} (hr : rdRest lf (b.drop 1) = some x) (hl : x.leaf = lf) (hf : FitsIn x b) : rdNod b = some x := by
  rw [rdNod_head hf, hl, hr]
theorem head_at {w : World} {B g o c : Nat} {b : List UInt8} {x : UInt8} (h : InB w B (some ⟨g, o, none⟩) c b) (hb : b.head? = some x) : w.cell? ⟨g, o, none⟩ = some (.int .u8 (x.toNat : Int)) := by
  cases b with
  | nil => cases hb
  | cons y t =>
    simp only [List.head?_cons, Option.some.injEq] at hb
    subst hb
    obtain ⟨g', o', e, _, hc⟩ := h.lies (by simp)
    injection e with e
    injection e with e1 e2
    subst e1 e2
    have := hc 0 (by simp)
    simpa using this
set_option maxRecDepth 100000 in
set_option maxHeartbeats 2000000 in
theorem rdec_len (w : World) (A : Option Addr) (c : Nat) (b : List UInt8) (hl : ¬ b.length = 512) :
    Calls Try.prog 67 #[.slice A b.length c] w (DecSpec w b) := by
  have HNo := fun w' hB => DecSpec.no (w := w) (w' := w') (b := b) (fun x _ hF => hl (fits_length hF)) hB
  generalize DecSpec w b = PO at *
  obtain ⟨b0, hB0, n0⟩ := rdW_is w
  have hlen : ¬ (b.length : Int) = 512 := by omega
  have hz := b0.below n0.g (by omega)
  have hB1 := hB0.trans (n0.g.mono (by omega))
  have nb := n0.b
  unfold zeroN at hz nb
  obtain ⟨W1, hW1⟩ : ∃ W, W = rdW w := ⟨_, rfl⟩
  rw [← hW1] at hz hB1 nb
  unfold rdW zeroN at hW1
  have HW1 := Lib.hid hW1
  clear hl hW1
  go_enter Try.func67, Try.ntmps67
  go_wp2_with (first
    | (rw [← HW1.out]; refine wp_loadW rfl 76 (.tmp 4) rfl (w.heap.size + 1) rfl rowNod nb (by rfl) ?_)
    | (refine wp_storeW rfl 76 (.tmp 2) (.tmp 29) rfl w.heap.size rfl rfl rowNod hz (by rfl) (by rfl) (four_oneC rfl rfl rfl rfl) ?_))
  exact bodyPost_ret (results_cellW_tmp 2 3 rfl rfl rfl rowNod (hz.setRow _) (by rfl)) rfl (HNo _ (below_setRow hB1 (Nat.le_refl _) _))
set_option maxRecDepth 100000 in
set_option maxHeartbeats 2000000 in
theorem rdec_head (w : World) (g o c : Nat) (b : List UInt8) (h : InB w w.heap.size (some ⟨g, o, none⟩) c b) (hl : b.length = 512) (u : UInt8) (hb : b.head? = some u) (h1 : ¬ u = 1) (h2 : ¬ u = 2) :
    Calls Try.prog 67 #[.slice (some ⟨g, o, none⟩) b.length c] w (DecSpec w b) := by
  have HNo := fun w' hB => DecSpec.no (w := w) (w' := w') (b := b) (fun x _ hF => by
    rcases fits_head hF with e | e <;> rw [hb] at e <;> injection e with e
    · exact h1 e
    · exact h2 e) hB
  generalize DecSpec w b = PO at *
  obtain ⟨b0, hB0, n0⟩ := rdW_is w
  have hlen : (b.length : Int) = 512 := by omega
  have hz := b0.below n0.g (by omega)
  have hB1 := hB0.trans (n0.g.mono (by omega))
  have nb := n0.b
  unfold zeroN at hz nb
  obtain ⟨W1, hW1⟩ : ∃ W, W = rdW w := ⟨_, rfl⟩
  rw [← hW1] at hz hB1 nb
  have d0 := head_at (h.below hB1) hb
  have u1 : ¬ (u.toNat : Int) = 1 := fun e => h1 (UInt8.toNat_inj.1 (by have : (1 : UInt8).toNat = 1 := rfl; omega))
  have u2 : ¬ (u.toNat : Int) = 2 := fun e => h2 (UInt8.toNat_inj.1 (by have : (2 : UInt8).toNat = 2 := rfl; omega))
  generalize (u.toNat : Int) = k at *
  have u3 : (k != 1) = true := by simpa using u1
  have u4 : (k != 2) = true := by simpa using u2
  unfold rdW zeroN at hW1
  have HW1 := Lib.hid hW1
  clear hl hW1 h hb h1 h2
  go_enter Try.func67, Try.ntmps67
  go_upto_region 2 with fail
  rw [← HW1.out]
  clear HW1
  go_wp2_with (first
    | (refine wp_loadW rfl 76 (.tmp 4) rfl (w.heap.size + 1) rfl rowNod nb (by rfl) ?_)
    | (refine wp_storeW rfl 76 (.tmp 2) (.tmp 29) rfl w.heap.size rfl rfl rowNod hz (by rfl) (by rfl) (four_oneC rfl rfl rfl rfl) ?_))
  exact bodyPost_ret (results_cellW_tmp 2 3 rfl rfl rfl rowNod (hz.setRow _) (by rfl)) rfl (HNo _ (below_setRow hB1 (Nat.le_refl _) _))
end Go.Proofs.Ytlelckdcmlpmdaa
/- louperef12: Decode, of a leaf. -/
namespace Go.Proofs.Ytlelckdcmlpmdaa
open Go Go.RowKit Lou

set_option maxRecDepth 100000 in
set_option maxHeartbeats 8000000 in
theorem rdec_leaf (w : World) (g o c : Nat) (b : List UInt8) (h : InB w w.heap.size (some ⟨g, o, none⟩) c b) (hl : b.length = 512) (hb : b.head? = some 1) :
    Calls Try.prog 67 #[.slice (some ⟨g, o, none⟩) b.length c] w (DecSpec w b) := by
  have HNo := fun (hx : ∀ x, rdNod b = some x → ¬ FitsIn x b) w' hB => DecSpec.no (w := w) (w' := w') (b := b) hx hB
  have HYes : ∀ x, rdNod b = some x → FitsIn x b → ∀ e w', DecYes w x e w' → DecSpec w b e w' := fun x h1 h2 e w' h3 => .inl ⟨x, h1, h2, h3⟩
  generalize DecSpec w b = PO at *
  obtain ⟨b0, hB0, n0⟩ := rdW_is w
  have hp0 : w.heap.size < w.heap.size + 1 := by omega
  have hz := b0.below n0.g hp0
  have hB1 := hB0.trans (n0.g.mono (by omega))
  have hH : HeadIs b true := hb
  obtain ⟨w0, hw0⟩ : ∃ W, W = w.alloc (.cells zeroN 76) := ⟨_, rfl⟩
  obtain ⟨W1, hW1⟩ : ∃ W, W = rdW w := ⟨_, rfl⟩
  rw [← hw0] at b0 hB0 n0
  rw [← hW1] at hz hB1 n0
  have d0 := head_at (h.below hB1) hb
  replace d0 : W1.cell? ⟨g, o, none⟩ = some (.int .u8 1) := d0
  have a0 : W1.cell? ⟨w.heap.size + 1, 0, none⟩ = some (.bool false) := by rw [n0.b.cell]; rfl
  have f0 := n0.b.free 0
  have HRd : ∀ W, Below w.heap.size w W → ∀ q, EndO b q → Calls Try.prog 130 #[.slice (some ⟨g, o, none⟩) b.length c, .int .i64 (posO b.length q)] W fun e w' => e = .returned (.tuple #[.int .i64 ((nxtN q).1 : Int), .int .i64 (posO b.length (nxtN q).2)]) ∧ W = w' := fun W hW q hq => rread_u W g o c b ((h.below hW).more hW.size) q hq
  have HTx : ∀ W, Below w.heap.size w W → ∀ q, EndO b q → Calls Try.prog 131 #[.slice (some ⟨g, o, none⟩) b.length c, .int .i64 (posO b.length q)] W fun e w' => e = .returned (.tuple #[.string (nxtT q).1, .int .i64 (posO b.length (nxtT q).2)]) ∧ W = w' := fun W hW q hq => rtext_u W g o c b ((h.below hW).more hW.size) q hq
  have hlen : (b.length : Int) = 512 := by omega
  have hp1 : posO b.length (some (b.drop 1)) = 1 := by show ((b.length - (b.drop 1).length : Nat) : Int) = 1; rw [List.length_drop]; omega
  have hE1 : EndO b (some (b.drop 1)) := EndO.one (by omega)
  have HR1 := fun W hW => HRd W hW _ hE1
  rw [hp1] at HR1
  have hEa := hE1.n
  have n1 := n0.store 0 (.bool true)
  have hB2 : Below w.heap.size w (W1.setCell ⟨w.heap.size + 1, 0, none⟩ (.bool true)) := hB1.setCell (by simp) _
  obtain ⟨W2, hW2⟩ : ∃ W, W = W1.setCell ⟨w.heap.size + 1, 0, none⟩ (.bool true) := ⟨_, rfl⟩
  rw [← hW2] at n1 hB2
  have hhd : zeroN.setIfInBounds 0 (.bool true) = #[.bool true, .slice none 0 0, .slice none 0 0, .slice none 0 0] := rfl
  rw [hhd] at n1
  have k1 : W2.cell? ⟨w.heap.size + 1, 0, none⟩ = some (.bool true) := by rw [n1.b.cell]; rfl
  have HR1 := HR1 _ hB2
  unfold rdW zeroN at hW1
  have HW1 := Lib.hid hW1
  have HW2 := Lib.hid hW2
  have HH := Lib.hid hH
  have HNo := Lib.hid HNo
  have HYes := Lib.hid HYes
  have HLB := Lib.hid hl
  have hV0 := InvL.start b
  have hmany := nxtN_le (some (b.drop 1))
  obtain ⟨many, hmn⟩ : ∃ m, m = (nxtN (some (b.drop 1))).1 := ⟨_, rfl⟩
  obtain ⟨q0, hq0⟩ : ∃ m, m = (nxtN (some (b.drop 1))).2 := ⟨_, rfl⟩
  rw [← hmn, ← hq0] at hV0
  rw [← hmn] at hmany
  rw [← hq0] at hEa
  rw [← hmn, ← hq0] at HR1
  obtain ⟨a00, ha00⟩ : ∃ x, x = posO b.length q0 := ⟨_, rfl⟩
  rw [← ha00] at HR1
  have HA0 := Lib.hid ha00
  have HV0 := Lib.hid hV0
  have HE0 := Lib.hid hEa
  clear hmn hq0 ha00 hV0 hEa
  clear hW1 hW2 hb hp1 hw0 hz hH hhd n0 hl
  go_enter Try.func67, Try.ntmps67
  go_upto_region 2 with fail
  rw [← HW1.out]
  clear HW1
  go_upto_region 5 with fail
  rw [← HW2.out]
  clear HW2 a0 f0 d0 hB1
  go_wp2_with (go_at_call 130; refine HR1.mono ?_; rintro e W9 ⟨rfl, rfl⟩)
  go_loopw [8, 6] (fun i at_ wr => ∃ (k : Nat) (a : Int) (cs : List Cel) (q : Option (List UInt8)) (Ac : Option Addr) (cc : Nat), k ≤ many ∧ i = .int .i64 k ∧ at_ = .int .i64 a ∧ Hid (a = posO b.length q) ∧ Hid (EndO b q) ∧ Hid (InvL b many k cs q) ∧ Hid (cs.length = k) ∧ NSR w0 wr (w.heap.size + 1) #[.bool true, .slice Ac cs.length cc, .slice none 0 0, .slice none 0 0] cs Ac cc [] none 0 [] none 0) (fun i _ _ => many - (intOf i).toNat)
  case atStart => exact ⟨0, a00, [], q0, none, 0, by omega, rfl, rfl, HA0, HE0, HV0, Lib.hid rfl, n1⟩
  case round =>
    obtain ⟨k, a, cs, q, Ac, cc, hk, rfl, rfl, HA, HE, HV, HCL, nr⟩ := hrel
    have hcs : cs.length ≤ 100000 := by have := HCL.out; omega
    have hz := b0.below nr.g hp0
    have hBw : Below w.heap.size w wr := hB0.trans (nr.g.mono (by omega))
    clear HA0 HV0 HE0 n1 HR1 k1 hB2
    have c0 : wr.cell? ⟨w.heap.size + 1, 0, none⟩ = some (.bool true) := by rw [nr.b.cell]; rfl
    by_cases hlt : k < many
    · have hlt' : (k : Int) < (many : Int) := by omega
      have hwk : IntKind.i64.wrap ((k : Int) + 1) = (k : Int) + 1 := wrapN _ (by omega) (by omega)
      cases q with
      | none =>
        obtain rfl : a = -1 := HA.out
        go_wp2_with (refine wp_storeW rfl 76 (.tmp 2) (.tmp 125) rfl w.heap.size rfl rfl rowNod hz (by rfl) (by rfl) (four_oneC rfl rfl rfl rfl) ?_)
        exact bodyPost_ret (results_cellW_tmp 2 3 rfl rfl rfl rowNod (hz.setRow _) (by rfl)) rfl (HNo.out (no_rest HH.out HV.out) _ (below_setRow hBw (Nat.le_refl _) _))
      | some lk =>
          have hal : 0 ≤ a := by rw [HA.out]; exact posO_some ⟨lk, rfl⟩
          have hal' : ¬ a < 0 := by omega
          rcases hT : nxtT (some lk) with ⟨s, o1⟩
          rcases hN : nxtN o1 with ⟨p, o2⟩
          have hE1 : EndO b o1 := by have := HE.out.t; rw [hT] at this; exact this
          have hE2 : EndO b o2 := by have := hE1.n; rw [hN] at this; exact this
          have C1 := fun W hW => HTx W hW (some lk) HE.out
          have C2 := fun W hW => HRd W hW o1 hE1
          have C3 := fun W hW => HTx W hW o2 hE2
          have C4 := fun W hW => HRd W hW o2 hE2
          rw [← HA.out, hT] at C1
          rw [hN] at C2
          simp only at C1 C2
          generalize posO b.length o1 = a1 at *
          generalize posO b.length o2 = a2 at *
          have n3 := BlkIs.new wr 205 #[.string { data := #[] }, .string { data := #[] }, .int .i64 0, .int .i64 0]
          obtain ⟨W4, hW4, n4, hB4⟩ := cell_box wr #[.string s, .string { data := #[] }, .int .i64 0, .int .i64 0]
          have hBw4 := hBw.trans (hB4.mono hBw.size)
          have g42 : W4.cell? ⟨wr.heap.size, 2, none⟩ = some (.int .i64 0) := by rw [n4.cell]; rfl
          have f42 := n4.free 2
          have D1 := C1 wr hBw
          have D2 := C2 W4 hBw4
          have n5 := n4.set 2 (.int .i64 (p : Int))
          have hB5 := hB4.setCell (p := ⟨wr.heap.size, 2, none⟩) (by simp) (.int .i64 (p : Int))
          have e5 : (#[.string s, .string { data := #[] }, .int .i64 0, .int .i64 0] : Array Value).setIfInBounds 2 (.int .i64 (p : Int)) = #[.string s, .string { data := #[] }, .int .i64 (p : Int), .int .i64 0] := rfl
          rw [e5] at n5
          obtain ⟨W5, hW5⟩ : ∃ W, W = W4.setCell ⟨wr.heap.size, 2, none⟩ (.int .i64 (p : Int)) := ⟨_, rfl⟩
          rw [← hW5] at n5 hB5
          have HW5 := Lib.hid hW5
          have HW4 := Lib.hid hW4
          have hT' := Lib.hid hT
          have hN' := Lib.hid hN
          clear hW5 hW4 e5 C1 C2 hT hN
          have hBw5 := hBw.trans (hB5.mono hBw.size)
          have g52 : W5.cell? ⟨wr.heap.size, 2, none⟩ = some (.int .i64 (p : Int)) := by rw [n5.cell]; rfl
          have g51 : W5.cell? ⟨wr.heap.size, 1, none⟩ = some (.string { data := #[] }) := by rw [n5.cell]; rfl
          have g53 : W5.cell? ⟨wr.heap.size, 3, none⟩ = some (.int .i64 0) := by rw [n5.cell]; rfl
          have f51 := n5.free 1
          have f53 := n5.free 3
          go_upto_region 20 with (first
            | (go_at_call 131; refine D1.mono ?_; rintro e W9 ⟨rfl, rfl⟩)
            | (refine wp_storeW rfl 205 (.tmp 11) (.tmp 92) rfl wr.heap.size rfl rfl rowCel n3 rfl rfl (four_oneC rfl rfl rfl rfl) ?_; rw [HW4.out]))
          go_upto_region 21 with (go_at_call 130; refine D2.mono ?_; rintro e W9 ⟨rfl, rfl⟩)
          rw [← HW5.out]
          clear HW5 HW4 D1 D2 n3 n4 hB4 hBw4 g42 f42
          by_cases hp : p = 0
          · subst hp
            rcases h3 : nxtT o2 with ⟨v, o3⟩
            have hE3 : Hid (EndO b o3) := Lib.hid (by have := hE2.t; rw [h3] at this; exact this)
            rw [h3] at C3
            simp only at C3
            have h3' := Lib.hid h3
            obtain ⟨a3, ha3⟩ : ∃ x, x = posO b.length o3 := ⟨_, rfl⟩
            rw [← ha3] at C3
            have HA3 := Lib.hid ha3
            clear h3 ha3
            have D3 := C3 W5 hBw5
            have n6 := n5.set 1 (.string v)
            have hB6 := hB5.setCell (p := ⟨wr.heap.size, 1, none⟩) (by simp) (.string v)
            have e6 : (#[.string s, .string { data := #[] }, .int .i64 ((0 : Nat) : Int), .int .i64 0] : Array Value).setIfInBounds 1 (.string v) = #[.string s, .string v, .int .i64 0, .int .i64 0] := rfl
            rw [e6] at n6
            obtain ⟨W6, hW6⟩ : ∃ W, W = W5.setCell ⟨wr.heap.size, 1, none⟩ (.string v) := ⟨_, rfl⟩
            rw [← hW6] at n6 hB6
            have HW6 := Lib.hid hW6
            clear hW6 e6 C3 C4
            have HVn := Lib.hid (HV.out.val hlt hT'.out hN'.out h3'.out)
            have nr6 := nr.past hB6
            have c61 : W6.cell? ⟨w.heap.size + 1, 1, none⟩ = some (.slice Ac cs.length cc) := by rw [nr6.b.cell]; rfl
            have hBa : Below W6.heap.size W6 (W6.alloc (.cells #[.string s, .string v, .int .i64 0, .int .i64 0] 205)) := (Below.refl _ W6).alloc (Nat.le_refl _) _
            have nr7 := nr6.past hBa
            have hp7 : w.heap.size + 1 + 1 ≤ (W6.alloc (.cells #[.string s, .string v, .int .i64 0, .int .i64 0] 205)).heap.size := nr7.b.lt
            go_upto_region 24 with (go_at_call 131; refine D3.mono ?_; rintro e W9 ⟨rfl, rfl⟩)
            rw [← HW6.out]
            clear HW6 D3
            go_wp2_with (first
              | (refine wp_loadW rfl 205 (.tmp 11) rfl wr.heap.size rfl rowCel n6 (by rfl) ?_)
              | (refine wp_execN rfl (x_sliceCel (⟨s, v, 0, 0⟩ : Cel) rfl rfl) ?_)
              | (at_builtin; refine wp_appG rfl elCelC (.tmp 118) (.tmp 120) rfl (w.heap.size + 1 + 1) (.slice Ac cs.length cc) cs.length (clC cs) rfl nr7.c _ _ 1 1 (celC (⟨s, v, 0, 0⟩ : Cel)) rfl (row_lit1 W6 205 4 (celC (⟨s, v, 0, 0⟩ : Cel)) rfl (celC_one _)) (by unfold maxLen; omega) (by omega) hp7 ?_; intro v8 w8 own8 hg8; obtain ⟨A8, c8, rfl, _⟩ := ownG_in own8 (fun v hv => by rcases List.mem_append.1 hv with h | h; exact clC_one _ v h; exact celC_one _ v h); have nr8 := nr7.growC own8 hg8; have c81 : w8.cell? ⟨w.heap.size + 1, 1, none⟩ = some (.slice Ac cs.length cc) := (by rw [nr8.b.cell]; rfl); have f81 := nr8.b.free 1))
            have nr9 := nr8.store 1 (.slice A8 (cs.length + 1) c8)
            have hcl : (cs ++ [(⟨s, v, 0, 0⟩ : Cel)]).length = cs.length + 1 := by simp
            have e9 : (#[.bool true, .slice Ac cs.length cc, .slice none 0 0, .slice none 0 0] : Array Value).setIfInBounds 1 (.slice A8 (cs.length + 1) c8) = #[.bool true, .slice A8 (cs ++ [(⟨s, v, 0, 0⟩ : Cel)]).length c8, .slice none 0 0, .slice none 0 0] := by rw [hcl]; rfl
            rw [e9] at nr9
            exact ⟨⟨k + 1, a3, cs ++ [(⟨s, v, 0, 0⟩ : Cel)], o3, A8, c8, by omega, by simp, rfl, HA3, hE3, HVn, Lib.hid (by rw [hcl, HCL.out]), nr9⟩, by simp [intOf]; omega⟩
          · have hpi : ¬ (p : Int) = 0 := by omega
            rcases h3 : nxtN o2 with ⟨z, o3⟩
            have hE3 : Hid (EndO b o3) := Lib.hid (by have := hE2.n; rw [h3] at this; exact this)
            rw [h3] at C4
            simp only at C4
            have h3' := Lib.hid h3
            obtain ⟨a3, ha3⟩ : ∃ x, x = posO b.length o3 := ⟨_, rfl⟩
            rw [← ha3] at C4
            have HA3 := Lib.hid ha3
            clear h3 ha3
            have D3 := C4 W5 hBw5
            have n6 := n5.set 3 (.int .i64 (z : Int))
            have hB6 := hB5.setCell (p := ⟨wr.heap.size, 3, none⟩) (by simp) (.int .i64 (z : Int))
            have e6 : (#[.string s, .string { data := #[] }, .int .i64 (p : Int), .int .i64 0] : Array Value).setIfInBounds 3 (.int .i64 (z : Int)) = #[.string s, .string { data := #[] }, .int .i64 (p : Int), .int .i64 (z : Int)] := rfl
            rw [e6] at n6
            obtain ⟨W6, hW6⟩ : ∃ W, W = W5.setCell ⟨wr.heap.size, 3, none⟩ (.int .i64 (z : Int)) := ⟨_, rfl⟩
            rw [← hW6] at n6 hB6
            have HW6 := Lib.hid hW6
            clear hW6 e6 C3 C4
            have HVn := Lib.hid (HV.out.size hlt hT'.out hN'.out hp h3'.out)
            have nr6 := nr.past hB6
            have c61 : W6.cell? ⟨w.heap.size + 1, 1, none⟩ = some (.slice Ac cs.length cc) := by rw [nr6.b.cell]; rfl
            have hBa : Below W6.heap.size W6 (W6.alloc (.cells #[.string s, .string { data := #[] }, .int .i64 (p : Int), .int .i64 (z : Int)] 205)) := (Below.refl _ W6).alloc (Nat.le_refl _) _
            have nr7 := nr6.past hBa
            have hp7 : w.heap.size + 1 + 1 ≤ (W6.alloc (.cells #[.string s, .string { data := #[] }, .int .i64 (p : Int), .int .i64 (z : Int)] 205)).heap.size := nr7.b.lt
            go_upto_region 24 with (go_at_call 130; refine D3.mono ?_; rintro e W9 ⟨rfl, rfl⟩)
            rw [← HW6.out]
            clear HW6 D3
            go_wp2_with (first
              | (refine wp_loadW rfl 205 (.tmp 11) rfl wr.heap.size rfl rowCel n6 (by rfl) ?_)
              | (refine wp_execN rfl (x_sliceCel (⟨s, ByteArray.empty, p, z⟩ : Cel) rfl rfl) ?_)
              | (at_builtin; refine wp_appG rfl elCelC (.tmp 118) (.tmp 120) rfl (w.heap.size + 1 + 1) (.slice Ac cs.length cc) cs.length (clC cs) rfl nr7.c _ _ 1 1 (celC (⟨s, ByteArray.empty, p, z⟩ : Cel)) rfl (row_lit1 W6 205 4 (celC (⟨s, ByteArray.empty, p, z⟩ : Cel)) rfl (celC_one _)) (by unfold maxLen; omega) (by omega) hp7 ?_; intro v8 w8 own8 hg8; obtain ⟨A8, c8, rfl, _⟩ := ownG_in own8 (fun v hv => by rcases List.mem_append.1 hv with h | h; exact clC_one _ v h; exact celC_one _ v h); have nr8 := nr7.growC own8 hg8; have c81 : w8.cell? ⟨w.heap.size + 1, 1, none⟩ = some (.slice Ac cs.length cc) := (by rw [nr8.b.cell]; rfl); have f81 := nr8.b.free 1))
            have nr9 := nr8.store 1 (.slice A8 (cs.length + 1) c8)
            have hcl : (cs ++ [(⟨s, ByteArray.empty, p, z⟩ : Cel)]).length = cs.length + 1 := by simp
            have e9 : (#[.bool true, .slice Ac cs.length cc, .slice none 0 0, .slice none 0 0] : Array Value).setIfInBounds 1 (.slice A8 (cs.length + 1) c8) = #[.bool true, .slice A8 (cs ++ [(⟨s, ByteArray.empty, p, z⟩ : Cel)]).length c8, .slice none 0 0, .slice none 0 0] := by rw [hcl]; rfl
            rw [e9] at nr9
            exact ⟨⟨k + 1, a3, cs ++ [(⟨s, ByteArray.empty, p, z⟩ : Cel)], o3, A8, c8, by omega, by simp, rfl, HA3, hE3, HVn, Lib.hid (by rw [hcl, HCL.out]), nr9⟩, by simp [intOf]; omega⟩
    · obtain rfl : k = many := by omega
      cases q with
      | none =>
        obtain rfl : a = -1 := HA.out
        go_wp2_with (refine wp_storeW rfl 76 (.tmp 2) (.tmp 125) rfl w.heap.size rfl rfl rowNod hz (by rfl) (by rfl) (four_oneC rfl rfl rfl rfl) ?_)
        exact bodyPost_ret (results_cellW_tmp 2 3 rfl rfl rfl rowNod (hz.setRow _) (by rfl)) rfl (HNo.out (no_rest HH.out HV.out) _ (below_setRow hBw (Nat.le_refl _) _))
      | some lk =>
        have hal : 0 ≤ a := by rw [HA.out]; exact posO_some ⟨lk, rfl⟩
        have hal' : ¬ a < 0 := by omega
        have hrest := HV.out.fin
        have hn := nr.nis true
        have hsm : cs.length ≤ 512 := by have h1 := (rdRest_small hrest).2.1; have h2 := HLB.out; rw [List.length_drop] at h1; simp only at h1; omega
        by_cases hR : RightP (⟨true, cs, [], []⟩ : Nod)
        · by_cases hf : (laidB (⟨true, cs, [], []⟩ : Nod)).length ≤ 512
          · have HE := renc_ok wr (⟨true, cs, [], []⟩ : Nod) Ac cc none 0 none 0 hn (by show cs.length ≤ _; omega) (by show 0 ≤ _; omega) (by show 0 ≤ _; omega) hR hf
            have hfl : (laidB (⟨true, cs, [], []⟩ : Nod) ++ List.replicate (512 - (laidB (⟨true, cs, [], []⟩ : Nod)).length) (0 : UInt8)).length = 512 := by rw [List.length_append, List.length_replicate]; omega
            have HFit : laidB (⟨true, cs, [], []⟩ : Nod) ++ List.replicate (512 - (laidB (⟨true, cs, [], []⟩ : Nod)).length) (0 : UInt8) = b → Hid (FitsIn (⟨true, cs, [], []⟩ : Nod) b) := fun e => Lib.hid ⟨hR, hf, e⟩
            have HNof : ¬ laidB (⟨true, cs, [], []⟩ : Nod) ++ List.replicate (512 - (laidB (⟨true, cs, [], []⟩ : Nod)).length) (0 : UInt8) = b → Hid (∀ y, rdNod b = some y → ¬ FitsIn y b) := fun e => Lib.hid (no_diff HH.out hrest fun hF => e hF.2.2)
            unfold EncOut nodC at HE
            simp only at HE
            generalize laidB (⟨true, cs, [], []⟩ : Nod) ++ List.replicate (512 - (laidB (⟨true, cs, [], []⟩ : Nod)).length) (0 : UInt8) = full at *
            have HREST := Lib.hid hrest
            have HFL := Lib.hid hfl
            clear hrest hR hf hfl
            go_upto_region 28 with (first
              | (refine wp_loadW rfl 76 (.tmp 4) rfl (w.heap.size + 1) rfl rowNod nr.b (by rfl) ?_)
              | (go_at_call 132; refine HE.mono ?_; rintro e w5 ⟨A5, c5, rfl, in5, hB5⟩))
            have b5 := nr.b.below hB5 nr.b.lt
            have z5 := hz.below hB5 hz.lt
            have n5 := nr.past hB5
            have hBw5 := hBw.trans (hB5.mono hBw.size)
            have s5 := in5.string
            rw [HFL.out] at s5
            have sb := ((h.below hBw5).more hBw5.size).string
            by_cases he : full = b
            · have HF := HFit he
              subst he
              generalize str full = st at *
              clear HFit HNof in5 HE
              go_wp2_with (first
                | (refine wp_loadW rfl 76 (.tmp 4) rfl (w.heap.size + 1) rfl rowNod b5 (by rfl) ?_)
                | (refine wp_storeW rfl 76 (.tmp 2) (.tmp 141) rfl w.heap.size rfl rfl rowNod z5 (by rfl) (by rfl) (four_oneC rfl rfl rfl rfl) ?_))
              have hn5 := (n5.nis true).keepAt (w' := w5.setRow w.heap.size #[.bool true, .slice Ac cs.length cc, .slice none 0 0, .slice none 0 0]) n5.rows (by simp [World.setRow]) (fun r hr => setRow_other _ _ r _ (by omega))
              exact bodyPost_ret (results_cellW_tmp 2 3 rfl rfl rfl rowNod (z5.setRow _) (by rfl)) rfl (HYes.out _ (yes_rest HREST.out rfl HF.out) HF.out _ _ ⟨Ac, cc, none, 0, none, 0, rfl, hn5, below_setRow hBw5 (Nat.le_refl _) _⟩)
            · have HNF := HNof he
              have hse2 : ((str full).toList == (str b).toList) = false := by rw [ByteArray.toList_eq, ByteArray.toList_eq, str_data, str_data]; simpa using he
              have hse : ¬ (str full).toList = (str b).toList := by simpa using hse2
              generalize str full = st1 at *
              generalize str b = st2 at *
              clear HFit HNof in5 HE he
              go_wp2_with (refine wp_storeW rfl 76 (.tmp 2) (.tmp 140) rfl w.heap.size rfl rfl rowNod z5 (by rfl) (by rfl) (four_oneC rfl rfl rfl rfl) ?_)
              exact bodyPost_ret (results_cellW_tmp 2 3 rfl rfl rfl rowNod (z5.setRow _) (by rfl)) rfl (HNo.out (HNF.out) _ (below_setRow hBw5 (Nat.le_refl _) _))
          · have HE := renc_long wr (⟨true, cs, [], []⟩ : Nod) Ac cc none 0 none 0 hn (by show cs.length ≤ _; omega) (by show 0 ≤ _; omega) (by show 0 ≤ _; omega) hR (by omega)
            have HNF := Lib.hid (no_diff HH.out hrest fun hF => hf hF.2.1)
            unfold EncNo nodC at HE
            simp only at HE
            clear hrest hR hf
            go_wp2_with (first
              | (refine wp_loadW rfl 76 (.tmp 4) rfl (w.heap.size + 1) rfl rowNod nr.b (by rfl) ?_)
              | (go_at_call 132; refine HE.mono ?_; rintro e w5 ⟨rfl, hB5⟩; have z5 := hz.below hB5 hz.lt; have hBw5 := hBw.trans (hB5.mono hBw.size))
              | (refine wp_storeW rfl 76 (.tmp 2) (.tmp 140) rfl w.heap.size rfl rfl rowNod z5 (by rfl) (by rfl) (four_oneC rfl rfl rfl rfl) ?_))
            exact bodyPost_ret (results_cellW_tmp 2 3 rfl rfl rfl rowNod (z5.setRow _) (by rfl)) rfl (HNo.out (HNF.out) _ (below_setRow hBw5 (Nat.le_refl _) _))
        · have HE := renc_bad wr (⟨true, cs, [], []⟩ : Nod) Ac cc none 0 none 0 hn (by show cs.length ≤ _; omega) (by show 0 ≤ _; omega) (by show 0 ≤ _; omega) hR
          have HNF := Lib.hid (no_diff HH.out hrest fun hF => hR hF.1)
          unfold EncNo nodC at HE
          simp only at HE
          clear hrest hR
          go_wp2_with (first
            | (refine wp_loadW rfl 76 (.tmp 4) rfl (w.heap.size + 1) rfl rowNod nr.b (by rfl) ?_)
            | (go_at_call 132; refine HE.mono ?_; rintro e w5 ⟨rfl, hB5⟩; have z5 := hz.below hB5 hz.lt; have hBw5 := hBw.trans (hB5.mono hBw.size))
            | (refine wp_storeW rfl 76 (.tmp 2) (.tmp 140) rfl w.heap.size rfl rfl rowNod z5 (by rfl) (by rfl) (four_oneC rfl rfl rfl rfl) ?_))
          exact bodyPost_ret (results_cellW_tmp 2 3 rfl rfl rfl rowNod (z5.setRow _) (by rfl)) rfl (HNo.out (HNF.out) _ (below_setRow hBw5 (Nat.le_refl _) _))
end Go.Proofs.Ytlelckdcmlpmdaa
/- Regions that draw their order, walked by hand, as RegF, but several operations may write what loads taken ahead have read: each fact on a cell holds as long as the operation that writes it is not listed. -/
namespace Go.Proofs.Ytlelckdcmlpmdaa
open Go Go.RowKit Lou
namespace RegL
/-- Cells, each with the operation that writes it. -/
def SL (fs : List (Nat × Addr × Value)) (l : Array Bool) (w : World) : Prop := ∀ x ∈ fs, l.getD x.1 true = false → w.cell? x.2.1 = some x.2.2
theorem SL.two {l : Array Bool} {w : World} {k m : Nat} {p q : Addr} {u v : Value} (h1 : l.getD k true = false → w.cell? p = some u) (h2 : l.getD m true = false → w.cell? q = some v) : SL [(k, p, u), (m, q, v)] l w := by
  intro x hx
  rcases List.mem_cons.1 hx with rfl | hx
  · exact h1
  · obtain rfl := List.mem_singleton.1 hx
    exact h2
theorem getD_set_ne' {l : Array Bool} {i k : Nat} (h : i ≠ k) : (l.setIfInBounds i true).getD k true = l.getD k true := getD_set_ne true h
theorem SL.set {fs : List (Nat × Addr × Value)} {l : Array Bool} {w : World} {i : Nat} (hi : (fs.all fun x => x.1 != i) = true) : SL fs (l.setIfInBounds i true) w ↔ SL fs l w := by
  have h : ∀ x ∈ fs, (l.setIfInBounds i true).getD x.1 true = l.getD x.1 true := fun x hx => getD_set_ne' (fun e => by
    have := List.all_eq_true.1 hi x hx
    simp [e] at this)
  exact ⟨fun hs x hx hl => hs x hx ((h x hx).trans hl), fun hs x hx hl => hs x hx ((h x hx).symm.trans hl)⟩
section
variable {P : Program} {ops : Array Oper} {Q : Exit → Act → World → Prop} {md : Region.Mode} {fs : List (Nat × Addr × Value)}

def wpAnyL (P : Program) (md : Region.Mode) (ops : Array Oper) (Q : Exit → Act → World → Prop) (fs : List (Nat × Addr × Value)) : Nat → Array Bool → Act → World → Prop
  | 0, listed, a, w => Region.ready md ops listed = [] ∧ Q .normal a w
  | fuel + 1, listed, a, w =>
    (Region.ready md ops listed = [] → Q .normal a w) ∧
    ∀ i ∈ Region.ready md ops listed, wpOp P ops Q i (fun a' w' => SL fs (listed.setIfInBounds i true) w' ∧ wpAnyL P md ops Q fs fuel (listed.setIfInBounds i true) a' w') a w
theorem to_any : ∀ (fuel : Nat) (listed : Array Bool) (a : Act) (w : World), wpAnyL P md ops Q fs fuel listed a w → wpAny P md ops Q fuel listed a w
  | 0, _, _, _, h => h
  | fuel + 1, _, _, _, h => ⟨h.1, fun i hi => wpOp_mono (fun a' w' h' => to_any fuel _ a' w' h'.2) (h.2 i hi)⟩
theorem first {T : World → Prop} {ks : List Nat} {i : Nat} {oi : Oper} {v : Value} (hi : ops[i]? = some oi) (hsel : ∀ (j : Nat) (o : Oper) cs b, ops[j]? = some o → o.op ≠ .select cs b)
    (hQ : ∀ c a w, Q (.panic c) (a.put oi.dst v) w → Q (.panic c) a w) (hk : (ks.all fun k => RegF.waitsFor md ops k i) = true) (hfi : (fs.all fun x => x.1 != i) = true)
    (hT : ∀ (l : Array Bool) w, SL fs l w → (∀ k ∈ ks, l.getD k true = false) → T w) :
    ∀ (fuel : Nat) (listed : Array Bool) (a : Act) (w : World),
      (∀ j oj, ops[j]? = some oj → j ≠ i → listed.getD j true = false → (∀ e ∈ oj.after, Region.binds md e = true → e.on ≠ i) → oi.apart ops oj = true) →
      i ∈ Region.ready md ops listed → YieldsIf P ops T oi v a → SL fs listed w → (∀ k ∈ ks, listed.getD k true = false) →
      wpAnyL P md ops Q fs fuel (listed.setIfInBounds i true) (a.put oi.dst v) w → wpAnyL P md ops Q fs (fuel + 1) listed a w := by
  intro fuel
  induction fuel with
  | zero =>
    intro listed a w _ hr hy hS hks H
    refine ⟨fun h => (by rw [h] at hr; cases hr), fun j hj => ?_⟩
    by_cases hji : j = i
    · subst hji; exact hy.wpOp hi (hT _ _ hS hks) ⟨(SL.set hfi).2 hS, H⟩
    · have := ready_mono hj hji
      rw [H.1] at this
      cases this
  | succ fuel ih =>
    intro listed a w hfree hr hy hS hks H
    refine ⟨fun h => (by rw [h] at hr; cases hr), fun j hj => ?_⟩
    by_cases hji : j = i
    · subst hji; exact hy.wpOp hi (hT _ _ hS hks) ⟨(SL.set hfi).2 hS, H⟩
    · have h1 := H.2 j (ready_mono hj hji)
      obtain ⟨hjun, oj, hoj, hall⟩ := mem_ready.1 hj
      have hnot : ∀ e ∈ oj.after, Region.binds md e = true → e.on ≠ i := fun e he hb heq => by
        have h1 := hall e he hb
        have h0 := (mem_ready.1 hr).1
        rw [heq] at h1
        rcases Nat.lt_or_ge i listed.size with h' | h'
        · simp [h'] at h0 h1; rw [h0] at h1; cases h1
        · simp [Array.getElem?_eq_none h'] at h1
      have hks' : ∀ k ∈ ks, (listed.setIfInBounds j true).getD k true = false := fun k hk' => by
        have hjk : j ≠ k := fun e => by
          subst e
          obtain ⟨e, he, hb, hon⟩ := RegF.waits_spec (List.all_eq_true.1 hk j hk') hoj
          exact hnot e he hb hon
        rw [getD_set_ne' hjk]
        exact hks k hk'
      have h2 := wpOp_putIf hoj (hfree j oj hoj hji hjun hnot) (fun cs b => hsel i oi cs b hi) (fun cs b => hsel j oj cs b hoj) hQ hy h1
      have hfree' : ∀ k ok, ops[k]? = some ok → k ≠ i → (listed.setIfInBounds j true).getD k true = false →
          (∀ e ∈ ok.after, Region.binds md e = true → e.on ≠ i) → oi.apart ops ok = true := fun k ok hk hki hun hno => by
        refine hfree k ok hk hki ?_ hno
        by_cases hjk : j = k
        · subst hjk; exact hjun
        · rw [getD_set_ne true hjk] at hun; exact hun
      refine wpOp_mono (fun a' w' h3 => ?_) h2
      have h4 := h3.2.1
      rw [Array.setIfInBounds_comm _ _ (Ne.symm hji), SL.set hfi] at h4
      refine ⟨h4, ih (listed.setIfInBounds j true) a' w' hfree' (ready_mono hr (Ne.symm hji)) h3.1 h4 hks' ?_⟩
      rw [Array.setIfInBounds_comm _ _ hji]
      exact h3.2.2
/-- An operation that only counts, taken first. -/
theorem takeP {fuel : Nat} {listed : Array Bool} {a : Act} {w : World} (i : Nat) {oi : Oper} (v : Value) (hi : ops[i]? = some oi)
    (hs : Region.noSelect ops = true) (hf : Region.free md ops listed i = true) (hr : (Region.ready md ops listed).contains i = true) (hfi : (fs.all fun x => x.1 != i) = true)
    (hQ : ∀ c a w, Q (.panic c) (a.put oi.dst v) w → Q (.panic c) a w) (hS : SL fs listed w) (hg : oi.guard = none) (hy : ∀ w, (execOp a.eval oi).run P w = .ok (.value v) w)
    (h : wpAnyL P md ops Q fs fuel (listed.setIfInBounds i true) (a.put oi.dst v) w) : wpAnyL P md ops Q fs (fuel + 1) listed a w :=
  first (T := fun _ => True) (ks := []) hi (Region.noSelect_spec hs) hQ rfl hfi (fun _ _ _ _ => trivial) fuel listed a w (Region.free_spec hi hf) (by simpa using hr) (.inl ⟨by simp [Region.wanted, hg], fun w _ => hy w⟩) hS (fun k hk => by cases hk) h
/-- A load of a cell that operation k writes, taken first. -/
theorem takeL {fuel : Nat} {listed : Array Bool} {a : Act} {w : World} (i k : Nat) (p : Addr) {oi : Oper} (u v : Value) (hi : ops[i]? = some oi)
    (hs : Region.noSelect ops = true) (hf : Region.free md ops listed i = true) (hr : (Region.ready md ops listed).contains i = true) (hfi : (fs.all fun x => x.1 != i) = true)
    (hk : RegF.waitsFor md ops k i = true) (hl : listed.getD k true = false) (hm : (k, p, u) ∈ fs)
    (hQ : ∀ c a w, Q (.panic c) (a.put oi.dst v) w → Q (.panic c) a w) (hS : SL fs listed w) (hg : oi.guard = none) (hy : ∀ w : World, w.cell? p = some u → (execOp a.eval oi).run P w = .ok (.value v) w)
    (h : wpAnyL P md ops Q fs fuel (listed.setIfInBounds i true) (a.put oi.dst v) w) : wpAnyL P md ops Q fs (fuel + 1) listed a w :=
  first (T := fun w => w.cell? p = some u) (ks := [k]) hi (Region.noSelect_spec hs) hQ (by simp [hk]) hfi (fun l w hs hl => hs _ hm (hl k (by simp))) fuel listed a w (Region.free_spec hi hf) (by simpa using hr) (.inl ⟨by simp [Region.wanted, hg], fun w hw => hy w hw⟩) hS (fun m hm => by obtain rfl := List.mem_singleton.1 hm; exact hl) h
theorem one {fuel : Nat} {listed : Array Bool} {a : Act} {w : World} (i : Nat) (hr : Region.ready md ops listed = [i])
    (h : wpOp P ops Q i (fun a' w' => SL fs (listed.setIfInBounds i true) w' ∧ wpAnyL P md ops Q fs fuel (listed.setIfInBounds i true) a' w') a w) : wpAnyL P md ops Q fs (fuel + 1) listed a w :=
  ⟨fun h0 => (by rw [hr] at h0; cases h0), fun j hj => by
    rw [hr] at hj
    obtain rfl : j = i := by simpa using hj
    exact h⟩
theorem two {fuel : Nat} {listed : Array Bool} {a : Act} {w : World} (i j : Nat) (hr : Region.ready md ops listed = [i, j])
    (h1 : wpOp P ops Q i (fun a' w' => SL fs (listed.setIfInBounds i true) w' ∧ wpAnyL P md ops Q fs fuel (listed.setIfInBounds i true) a' w') a w)
    (h2 : wpOp P ops Q j (fun a' w' => SL fs (listed.setIfInBounds j true) w' ∧ wpAnyL P md ops Q fs fuel (listed.setIfInBounds j true) a' w') a w) : wpAnyL P md ops Q fs (fuel + 1) listed a w :=
  ⟨fun h0 => (by rw [hr] at h0; cases h0), fun k hk => by
    rw [hr] at hk
    rcases List.mem_cons.1 hk with rfl | hk
    · exact h1
    · obtain rfl : k = j := by simpa using hk
      exact h2⟩
theorem done {fuel : Nat} {listed : Array Bool} {a : Act} {w : World} (hr : Region.ready md ops listed = []) (h : Q .normal a w) : wpAnyL P md ops Q fs fuel listed a w := by
  cases fuel with
  | zero => exact ⟨hr, h⟩
  | succ n => exact ⟨fun _ => h, by rw [hr]; simp⟩
theorem start {id : Nat} {a : Act} {w : World} (fs : List (Nat × Addr × Value)) (hm : P.follows .mixedOrders = true) (h : wpAnyL P .any ops Q fs ops.size (Array.replicate ops.size false) a w.drew) : (Code.region id ops true).wp P Q a w :=
  wp_region_any hm (to_any _ _ _ _ h)
end
end RegL
end Go.Proofs.Ytlelckdcmlpmdaa
