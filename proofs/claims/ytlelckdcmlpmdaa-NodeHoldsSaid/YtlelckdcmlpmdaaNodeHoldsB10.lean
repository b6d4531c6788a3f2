/- Texts that the proof of NodeHolds leans on, part 10. -/
import Derived.Deep.DeepCutAuto
import Derived.Deep.CutBlock
import Derived.Deep.Slices
import Derived.Deep.Grids
import Derived.Test.YtlelckdcmlpmdaaNodeHoldsB9
/- loupelaw12: works. -/
namespace Go.Proofs.Ytlelckdcmlpmdaa
open Go Go.RowKit Lou

theorem num12_gives (w : World) (n : Int) : Calls Try.prog 54 #[.int .i64 n] w fun e w' => e = .returned (.int .i64 n) ∧ w = w' := by
  go_enter Try.func54, Try.ntmps54
  go_wp2
  go_ret
  exact ⟨rfl, rfl⟩
def ndA : Nod := ⟨true, [⟨str [97], str [120], 0, 0⟩], [], []⟩
def ndB : Nod := ⟨false, [], [str [98]], [3, 4]⟩
theorem row_lit (w : World) (T : TypeId) (n sz : Nat) (cs : List Value) (hn : cs.length = n * sz) (hm : n ≤ 9223372036854775807) (h1 : ∀ v ∈ cs, v.oneCell' = true) : InG (w.alloc (.cells cs.toArray T)) (w.alloc (.cells cs.toArray T)).heap.size sz (some ⟨w.heap.size, 0, none⟩) n n cs :=
  ⟨Nat.le_refl _, hm, (fun e => by cases e), hn, h1, fun _ => ⟨w.heap.size, 0, rfl, by simp, fun j v hj => by
    rw [(BlkIs.new w T cs.toArray).cell, Nat.zero_add]
    simpa using hj⟩⟩
theorem ndA_is (w : World) : NIs (w.alloc (.cells #[.string (str [97]), .string (str [120]), .int .i64 0, .int .i64 0] 205)) (w.alloc (.cells #[.string (str [97]), .string (str [120]), .int .i64 0, .int .i64 0] 205)).heap.size ndA (some ⟨w.heap.size, 0, none⟩) 1 none 0 none 0 :=
  ⟨row_lit w 205 1 4 (clC ndA.cells) rfl (by decide) (clC_one _), InG.mt _ _ _, InG.mt _ _ _⟩
theorem ndB_is (w : World) : NIs ((w.alloc (.cells #[.string (str [98])] 9)).alloc (.cells #[.int .i64 3, .int .i64 4] 3)) ((w.alloc (.cells #[.string (str [98])] 9)).alloc (.cells #[.int .i64 3, .int .i64 4] 3)).heap.size ndB none 0 (some ⟨w.heap.size, 0, none⟩) 1 (some ⟨w.heap.size + 1, 0, none⟩) 2 :=
  ⟨InG.mt _ _ _, (row_lit w 9 1 1 (skC ndB.keys) rfl (by decide) (skC_one _)).grow ((Below.refl _ _).alloc (Nat.le_refl _) _), by
    have := row_lit (w.alloc (.cells #[.string (str [98])] 9)) 3 2 1 (ikC ndB.kids) rfl (by decide) (ikC_one _)
    have e := World.size_alloc w (.cells #[.string (str [98])] 9)
    rw [e] at this
    exact this⟩
theorem ndA_right : RightP ndA := by
  refine ⟨fun j h => ?_, fun j h => ?_, fun s hs => ?_, fun _ => ⟨rfl, rfl, fun c hc => ?_⟩, fun h => by cases h⟩
  · simp [nkeys, ndA] at h
  · simp [nkeys, ndA] at h
  · simp [nkeys, ndA] at hs
    subst hs
    decide +kernel
  · simp [ndA] at hc
    subst hc
    decide +kernel
theorem ndB_right : RightP ndB := by
  refine ⟨fun j h => ?_, fun j h => ?_, fun s hs => ?_, (fun h => by cases h), fun _ => ⟨rfl, by decide, by decide, fun i hi => ?_⟩⟩
  · simp [nkeys, ndB] at h
  · simp [nkeys, ndB] at h
  · simp [nkeys, ndB] at hs
    subst hs
    decide +kernel
  · simp [ndB] at hi
    rcases hi with rfl | rfl <;> decide +kernel
theorem ndA_laid : laidB ndA = [1, 1, 1, 97, 0, 1, 120] := by decide +kernel
theorem ndB_laid : laidB ndB = [2, 1, 3, 1, 98, 4] := by decide +kernel
set_option maxRecDepth 100000 in
set_option maxHeartbeats 4000000 in
theorem works12_gives (w : World) : Calls Try.prog 47 #[] w fun e w' => e = .returned (.bool true) ∧ Below w.heap.size w w' := by
  go_enter Try.func47, Try.ntmps47
  go_wp2_with fail
  refine (encode_ok _ ndA (some ⟨w.heap.size, 0, none⟩) 1 none 0 none 0 (ndA_is w) (by decide) (by decide) (by decide) ndA_right (by rw [ndA_laid]; decide)).mono ?_
  rintro x W1 ⟨A1, c1, rfl, hin1, hB1⟩
  have hB01 := ((Below.refl _ w).alloc (Nat.le_refl _) _).trans (hB1.mono (by rw [World.size_alloc]; omega))
  go_wp2_with fail
  refine (bytes_ok _ ndA (some ⟨W1.heap.size, 0, none⟩) 1 none 0 none 0 (ndA_is W1) (by decide) (by decide) (by decide) ndA_right).mono ?_
  rintro x W2 ⟨rfl, hB2⟩
  have hB12 : Below W1.heap.size W1 W2 := ((Below.refl _ W1).alloc (Nat.le_refl _) _).trans (hB2.mono (by rw [World.size_alloc]; omega))
  go_wp2_with fail
  have b0 := BlkIs.new ((W2.alloc (.cells #[.string (str [98])] 9)).alloc (.cells #[.int .i64 3, .int .i64 4] 3)) 76 (nodC ndB none 0 (some ⟨W2.heap.size, 0, none⟩) 1 (some ⟨W2.heap.size + 1, 0, none⟩) 2)
  rw [World.size_alloc, World.size_alloc] at b0
  have n3 := (ndB_is W2).grow ((Below.refl _ _).alloc (Nat.le_refl _) (.cells (nodC ndB none 0 (some ⟨W2.heap.size, 0, none⟩) 1 (some ⟨W2.heap.size + 1, 0, none⟩) 2) 76))
  have hB23 : Below W2.heap.size W2 (((W2.alloc (.cells #[.string (str [98])] 9)).alloc (.cells #[.int .i64 3, .int .i64 4] 3)).alloc (.cells (nodC ndB none 0 (some ⟨W2.heap.size, 0, none⟩) 1 (some ⟨W2.heap.size + 1, 0, none⟩) 2) 76)) := (((Below.refl _ W2).alloc (Nat.le_refl _) _).alloc (by simp) _).alloc (by simp; omega) _
  refine (encode_ok _ ndB none 0 (some ⟨W2.heap.size, 0, none⟩) 1 (some ⟨W2.heap.size + 1, 0, none⟩) 2 n3 (by decide) (by decide) (by decide) ndB_right (by rw [ndB_laid]; decide)).mono ?_
  rintro x W4 ⟨A4, c4, rfl, hin4, hB4⟩
  have b4 := b0.below hB4 b0.lt
  have n4 := n3.grow hB4
  have hB24 := hB23.trans (hB4.mono hB23.size)
  go_wp2_with (refine wp_loadW rfl 76 (.tmp 5) rfl (W2.heap.size + 1 + 1) rfl rowNod b4 (by rfl) ?_)
  refine (find_gives _ ndB none 0 (some ⟨W2.heap.size, 0, none⟩) 1 (some ⟨W2.heap.size + 1, 0, none⟩) 2 n4 (by decide) (by decide) (str [98])).mono ?_
  rintro x W5 ⟨rfl, hB5⟩
  have b5 := b4.below hB5 b4.lt
  have n5 := n4.grow hB5
  have hB25 := hB24.trans (hB5.mono hB24.size)
  go_wp2_with (refine wp_loadW rfl 76 (.tmp 5) rfl (W2.heap.size + 1 + 1) rfl rowNod b5 (by rfl) ?_)
  refine (find_gives _ ndB none 0 (some ⟨W2.heap.size, 0, none⟩) 1 (some ⟨W2.heap.size + 1, 0, none⟩) 2 n5 (by decide) (by decide) (str [97])).mono ?_
  rintro x W6 ⟨rfl, hB6⟩
  have hB26 := hB25.trans (hB6.mono hB25.size)
  have hB16 := hB12.trans (hB26.mono hB12.size)
  have hB46 := hB5.trans (hB6.mono hB5.size)
  have hB06 := hB01.trans (hB16.mono hB01.size)
  have e1 : findAt ndB.leaf (nkeys ndB) (str [98]) = 1 := by decide +kernel
  have e2 : findAt ndB.leaf (nkeys ndB) (str [97]) = 0 := by decide +kernel
  have t1 : (laidB ndA ++ List.replicate (512 - (laidB ndA).length) 0).take 7 = [1, 1, 1, 97, 0, 1, 120] := by decide +kernel
  have t4 : (laidB ndB ++ List.replicate (512 - (laidB ndB).length) 0).take 6 = [2, 1, 3, 1, 98, 4] := by decide +kernel
  have hle1 := hin1.le
  have hle4 := hin4.le
  have hl1 : (laidB ndA ++ List.replicate (512 - (laidB ndA).length) (0 : UInt8)).length = 512 := by decide +kernel
  have hl4 : (laidB ndB ++ List.replicate (512 - (laidB ndB).length) (0 : UInt8)).length = 512 := by decide +kernel
  rw [hl1] at hle1
  rw [hl4] at hle4
  have m1 := ((hin1.below hB16).take 7 c1 (by omega) (by omega) (Nat.le_refl _)).string
  have m4 := ((hin4.below hB46).take 6 c4 (by omega) (by omega) (Nat.le_refl _)).string
  rw [t1] at m1
  rw [t4] at m4
  have e3 : ((laidB ndA).length : Int) = 7 := by rw [ndA_laid]; rfl
  rw [e1, e2, e3]
  have g1 : (7 : Int) ≤ (c1 : Int) := by omega
  have g4 : (6 : Int) ≤ (c4 : Int) := by omega
  replace m1 : (convert 30 9 (.slice A1 7 c1)).run Try.prog W6 = .ok (.string (str [1, 1, 1, 97, 0, 1, 120])) W6 := m1
  replace m4 : (convert 30 9 (.slice A4 6 c4)).run Try.prog W6 = .ok (.string (str [2, 1, 3, 1, 98, 4])) W6 := m4
  clear hl1 hl4 t1 t4 e1 e2 e3
  have s1 : (str [1, 1, 1, 97, 0, 1, 120]).toList = [1, 1, 1, 97, 0, 1, 120] := by decide +kernel
  have s4 : (str [2, 1, 3, 1, 98, 4]).toList = [2, 1, 3, 1, 98, 4] := by decide +kernel
  go_wp2_with (go_at_call 54; refine (num12_gives _ _).mono ?_; rintro x W ⟨rfl, rfl⟩)
  go_ret
  exact ⟨rfl, hB06⟩
end Go.Proofs.Ytlelckdcmlpmdaa
/- loupelaw12.NodeHolds where the node isn't split. -/
namespace Go.Proofs.Ytlelckdcmlpmdaa
open Go Go.RowKit Lou

theorem nod_one (x : Nod) (Ac : Option Addr) (cc : Nat) (Ak : Option Addr) (ck : Nat) (Ai : Option Addr) (ci : Nat) : ∀ v ∈ (nodC x Ac cc Ak ck Ai ci).toList, v.oneCell' = true := four_one rfl rfl rfl rfl
set_option maxRecDepth 100000 in
set_option maxHeartbeats 4000000 in
theorem lawNH_few (w : World) (x : Nod) (Ac : Option Addr) (cc : Nat) (Ak : Option Addr) (ck : Nat) (Ai : Option Addr) (ci : Nat) (h : NIs w w.heap.size x Ac cc Ak ck Ai ci) (hno : ¬ FewP x) :
    Calls Try.prog 9 #[.agg (nodC x Ac cc Ak ck Ai ci)] w fun e w' => e = .returned (.bool true) ∧ Below w.heap.size w w' := by
  have b0 := BlkIs.new w 76 (nodC x Ac cc Ak ck Ai ci)
  have hB : Below w.heap.size w (w.alloc (.cells (nodC x Ac cc Ak ck Ai ci) 76)) := (Below.refl _ w).alloc (Nat.le_refl _) _
  have HF := few_gives _ x Ac cc Ak ck Ai ci (h.grow hB)
  unfold FewOut at HF
  unfold nodC at *
  go_enter Try.func9, Try.ntmps9
  go_wp2_with (first | (refine wp_loadW rfl 76 (.tmp 1) rfl w.heap.size rfl rowNod b0 (by rfl) ?_))
  refine HF.mono ?_
  rintro e W2 ⟨b, rfl, hB2, hfp⟩
  cases b with
  | true => exact absurd (hfp rfl) hno
  | false =>
    clear hfp
    go_wp2_with (go_at_call 47; refine (works12_gives _).mono ?_; rintro e W3 ⟨rfl, hB3⟩)
    go_ret
    exact ⟨rfl, hB.trans ((hB2.trans (hB3.mono hB2.size)).mono hB.size)⟩
set_option maxRecDepth 100000 in
set_option maxHeartbeats 4000000 in
theorem lawNH_bad (w : World) (x : Nod) (Ac : Option Addr) (cc : Nat) (Ak : Option Addr) (ck : Nat) (Ai : Option Addr) (ci : Nat) (h : NIs w w.heap.size x Ac cc Ak ck Ai ci) (m f : Int) (hf : f = 0 ∨ f = 2)
    (HS : ∀ W, Below w.heap.size w W → Calls Try.prog 52 #[.agg (nodC x Ac cc Ak ck Ai ci)] W (BadOut W 2))
    (HY : ∀ W, Below w.heap.size w W → Calls Try.prog 53 #[.agg (nodC x Ac cc Ak ck Ai ci)] W fun e w' => e = .returned (.tuple #[.int .i64 m, .int .i64 f]) ∧ Below W.heap.size W w') :
    Calls Try.prog 9 #[.agg (nodC x Ac cc Ak ck Ai ci)] w fun e w' => e = .returned (.bool true) ∧ Below w.heap.size w w' := by
  by_cases hno : FewP x
  case neg => exact lawNH_few w x Ac cc Ak ck Ai ci h hno
  have b0 := BlkIs.new w 76 (nodC x Ac cc Ak ck Ai ci)
  have hB : Below w.heap.size w (w.alloc (.cells (nodC x Ac cc Ak ck Ai ci) 76)) := (Below.refl _ w).alloc (Nat.le_refl _) _
  have HF := few_gives _ x Ac cc Ak ck Ai ci (h.grow hB)
  have hwf : IntKind.i64.wrap (2 + f) = 2 + f := wrapN _ (by omega) (by omega)
  have hne : ¬ 2 + f = 0 := by omega
  unfold FewOut at HF
  unfold BadOut zeroN at HS
  unfold nodC at *
  clear hno hf
  go_enter Try.func9, Try.ntmps9
  go_wp2_with (first | (refine wp_loadW rfl 76 (.tmp 1) rfl w.heap.size rfl rowNod b0 (by rfl) ?_))
  refine HF.mono ?_
  rintro e W2 ⟨b, rfl, hB2, hfp⟩
  have hB02 := hB.trans (hB2.mono hB.size)
  have b2 := b0.below hB2 b0.lt
  cases b with
  | false =>
    go_wp2_with (go_at_call 47; refine (works12_gives _).mono ?_; rintro e W3 ⟨rfl, hB3⟩)
    go_ret
    exact ⟨rfl, hB02.trans (hB3.mono hB02.size)⟩
  | true =>
    clear hfp
    go_wp2_with (first
      | (refine wp_loadW rfl 76 (.tmp 1) rfl w.heap.size rfl rowNod b2 (by rfl) ?_)
      | (go_at_call 52; refine (HS _ hB02).mono ?_; rintro e W3 ⟨rfl, hB3⟩; have z3 := (BlkIs.new W3 76 #[.bool false, .slice none 0 0, .slice none 0 0, .slice none 0 0]).alloc (.cells #[.bool false, .slice none 0 0, .slice none 0 0, .slice none 0 0] 76); have z4 := BlkIs.new (W3.alloc (.cells #[.bool false, .slice none 0 0, .slice none 0 0, .slice none 0 0] 76)) 76 #[.bool false, .slice none 0 0, .slice none 0 0, .slice none 0 0]; rw [World.size_alloc] at z4)
      | (refine wp_storeW rfl 76 (.tmp 3) (.tmp 26) rfl W3.heap.size rfl rfl rowNod z3 rfl rfl (four_one rfl rfl rfl rfl) ?_)
      | (refine wp_storeW rfl 76 (.tmp 4) (.tmp 27) rfl (W3.heap.size + 1) rfl rfl rowNod (z4.setRow_ne (by omega) _) rfl rfl (four_one rfl rfl rfl rfl) ?_; have hB34 := below_setRow (below_setRow (((Below.refl W3.heap.size W3).alloc (Nat.le_refl _) (.cells #[.bool false, .slice none 0 0, .slice none 0 0, .slice none 0 0] 76)).alloc (by simp) (.cells #[.bool false, .slice none 0 0, .slice none 0 0, .slice none 0 0] 76)) (Nat.le_refl W3.heap.size) #[.bool false, .slice none 0 0, .slice none 0 0, .slice none 0 0]) (Nat.le_succ W3.heap.size) #[.bool false, .slice none 0 0, .slice none 0 0, .slice none 0 0]; obtain ⟨W4, hW4⟩ : ∃ W, ((((W3.alloc (.cells #[.bool false, .slice none 0 0, .slice none 0 0, .slice none 0 0] 76)).alloc (.cells #[.bool false, .slice none 0 0, .slice none 0 0, .slice none 0 0] 76)).setRow W3.heap.size #[.bool false, .slice none 0 0, .slice none 0 0, .slice none 0 0]).setRow (W3.heap.size + 1) #[.bool false, .slice none 0 0, .slice none 0 0, .slice none 0 0]) = W := ⟨_, rfl⟩; rw [hW4] at hB34; rw [hW4]; clear hW4; have hB04 := hB02.trans ((hB3.trans (hB34.mono hB3.size)).mono hB02.size); have b4 := b2.below (hB3.trans (hB34.mono hB3.size)) b2.lt)
      | (refine wp_loadW rfl 76 (.tmp 1) rfl w.heap.size rfl rowNod b4 (by rfl) ?_)
      | (go_at_call 53; refine (HY _ hB04).mono ?_; rintro e W5 ⟨rfl, hB5⟩)
      | (go_at_call 54; refine (num12_gives _ _).mono ?_; rintro e W6 ⟨rfl, rfl⟩)
      | (go_at_call 47; refine (works12_gives _).mono ?_; rintro e W7 ⟨rfl, hB7⟩))
    go_ret
    have hB05 := hB04.trans (hB5.mono hB04.size)
    exact ⟨rfl, hB05.trans (hB7.mono hB05.size)⟩
end Go.Proofs.Ytlelckdcmlpmdaa
/- loupelaw12.NodeHolds, of a node that is split: the walk. -/
namespace Go.Proofs.Ytlelckdcmlpmdaa
open Go Go.RowKit Lou

def oneN (c : Cel) : Nod := ⟨true, [c], [], []⟩
/-- The first so many cells are small. -/
def SmallTo (cells : List Cel) (i : Nat) : Prop := ∀ j, (h : j < cells.length) → j < i → (laidB (oneN cells[j])).length ≤ 146
/-- What the law's loop over cells keeps. -/
def AllIs (L : Nat) (cells : List Cel) (i : Nat) (a : Int) : Prop := a = 9999 ∨ (a = (L : Int) ∧ SmallTo cells i)
theorem one_right {x : Nod} (hR : RightP x) (j : Nat) (hj : j < x.cells.length) : RightP (oneN x.cells[j]) := by
  have hlf : x.leaf = true := by
    cases e : x.leaf with
    | true => rfl
    | false =>
      have := (hR.inner e).1
      rw [this] at hj
      cases hj
  refine ⟨fun i h => ?_, fun i h => ?_, fun s hs => ?_, fun _ => ⟨rfl, rfl, fun c hc => ?_⟩, (fun e => by cases e)⟩
  · simp [nkeys, oneN] at h
  · simp [nkeys, oneN] at h
  · refine hR.short s ?_
    unfold nkeys at hs ⊢
    rw [hlf]
    simp [oneN] at hs
    rw [hs]
    simp only [if_true]
    exact List.mem_map.2 ⟨_, List.getElem_mem hj, rfl⟩
  · simp [oneN] at hc
    rw [hc]
    exact (hR.leaf hlf).2.2 _ (List.getElem_mem hj)
theorem one_gives (w : World) (x : Nod) (g o cc : Nat) (h : InG w w.heap.size 4 (some ⟨g, o, none⟩) x.cells.length cc (clC x.cells)) (hR : RightP x) (j : Nat) (hj : j < x.cells.length) :
    Calls Try.prog 53 #[.agg #[.bool true, .slice (some ⟨g, o + j * 4, none⟩) 1 (cc - j), .slice none 0 0, .slice none 0 0]] w fun e w' => e = .returned (.tuple #[.int .i64 ((laidB (oneN x.cells[j])).length : Int), .int .i64 0]) ∧ Below w.heap.size w w' := by
  have hle := h.le
  have h1 := (h.drop j (by omega)).take 1 (cc - j) (by omega) (by omega) (Nat.le_refl _)
  have e : ((clC x.cells).drop (j * 4)).take (1 * 4) = clC (oneN x.cells[j]).cells := by
    rw [clC_drop, clC_take]
    have : (x.cells.drop j).take 1 = [x.cells[j]] := by
      rw [List.drop_eq_getElem_cons hj]
      rfl
    rw [this]
    rfl
  rw [e] at h1
  exact bytes_ok w (oneN x.cells[j]) (some ⟨g, o + j * 4, none⟩) (cc - j) none 0 none 0 ⟨h1, InG.mt _ _ _, InG.mt _ _ _⟩ (by show 1 ≤ _; omega) (by show 0 ≤ _; omega) (by show 0 ≤ _; omega) (one_right hR j hj)
theorem split_good (w : World) (x : Nod) (Ac : Option Addr) (cc : Nat) (Ak : Option Addr) (ck : Nat) (Ai : Option Addr) (ci : Nat) (h : NIs w w.heap.size x Ac cc Ak ck Ai ci) (hl : x.cells.length ≤ 1000) (hl2 : x.keys.length ≤ 1000) (hl3 : x.kids.length ≤ 1001) (hR : RightP x) (hs : 512 < (laidB x).length) (hn : leastN x ≤ manyN x) :
    Calls Try.prog 52 #[.agg (nodC x Ac cc Ak ck Ai ci)] w (GoodOut w x) := by
  cases hf : x.leaf with
  | true => exact split_leaf w x Ac cc Ak ck Ai ci h hl hl2 hl3 hR hf hs (by unfold leastN at hn; rw [hf] at hn; exact hn)
  | false => exact split_inner w x Ac cc Ak ck Ai ci h hl hl2 hl3 hR hf hs (by unfold leastN at hn; rw [hf] at hn; exact hn)
theorem split_no (w : World) (x : Nod) (Ac : Option Addr) (cc : Nat) (Ak : Option Addr) (ck : Nat) (Ai : Option Addr) (ci : Nat) (h : NIs w w.heap.size x Ac cc Ak ck Ai ci) (hl : x.cells.length ≤ 1000) (hl2 : x.keys.length ≤ 1000) (hl3 : x.kids.length ≤ 1001) (hR : RightP x) (hs : ¬ (512 < (laidB x).length ∧ leastN x ≤ manyN x)) :
    Calls Try.prog 52 #[.agg (nodC x Ac cc Ak ck Ai ci)] w (BadOut w 2) := by
  by_cases h1 : (laidB x).length ≤ 512
  · exact split_short w x Ac cc Ak ck Ai ci h hl hl2 hl3 hR h1
  · have hn : ¬ leastN x ≤ manyN x := fun h2 => hs ⟨by omega, h2⟩
    unfold leastN at hn
    cases hf : x.leaf with
    | true => exact split_few1 w x Ac cc Ak ck Ai ci h hl hl2 hl3 hR hf (by omega) (by rw [hf] at hn; simp at hn; omega)
    | false => exact split_few2 w x Ac cc Ak ck Ai ci h hl hl2 hl3 hR hf (by omega) (by rw [hf] at hn; simp at hn; omega)
/-- What is known of both parts. -/
structure Parts (x L R : Nod) (pt : ByteArray) : Prop where
  l : RightP L
  r : RightP R
  lc : L.cells.length ≤ 1000
  lk : L.keys.length ≤ 1000
  li : L.kids.length ≤ 1001
  rc : R.cells.length ≤ 1000
  rk : R.keys.length ≤ 1000
  ri : R.kids.length ≤ 1001
  join : nkeys L ++ ((if x.leaf then [] else [pt]) ++ nkeys R) = nkeys x
  less : ∀ i, (h : i < (nkeys L).length) → ltS (nkeys L)[i] pt = true
  more : ∀ i, (h : i < (nkeys R).length) → ltS (nkeys R)[i] pt = false
  cells : L.cells.length + R.cells.length = x.cells.length
  kids : L.kids.length + R.kids.length = x.kids.length
  fits : (laidB x).length ≤ 656 → SmallTo x.cells x.cells.length → (laidB L).length ≤ 512 ∧ (laidB R).length ≤ 512
theorem parts_of {x : Nod} (hR : RightP x) (hl : x.cells.length ≤ 60) (hl2 : x.keys.length ≤ 60) (hl3 : x.kids.length ≤ 61) (k : Nat) (hh : HalfAt (lotsB x) (lastN x) k) (hm : leastN x ≤ manyN x) : Parts x (leftN x k) (rightN x k) (partN x k) := by
  have hlast : 0 < lastN x ∧ lastN x < manyN x := by
    unfold lastN leastN manyN at *
    cases hx : x.leaf <;> simp [hx] at hm ⊢ <;> omega
  have hk0 := hh.pos hlast.1
  have hkm : k < manyN x := by have := hh.le; omega
  obtain ⟨j1, j2⟩ := many_join hR hkm
  have q1 : (leftN x k).keys.length ≤ x.keys.length := by unfold leftN; split <;> simp <;> omega
  have q2 : (rightN x k).keys.length ≤ x.keys.length := by unfold rightN; split <;> simp
  refine ⟨left_right hR hk0 hkm, right_right hR hh.le hm, by omega, by omega, by omega, by omega, by omega, by omega, keys_join hkm, fun i h => left_less hR hkm i h, fun i h => right_more hR hkm i h, j1, j2, fun h1 h2 => ?_⟩
  refine half_fits hR hh hm h1 fun _ c hc => ?_
  obtain ⟨j, hj, rfl⟩ := List.getElem_of_mem hc
  exact h2 j hj hj
end Go.Proofs.Ytlelckdcmlpmdaa
/- loupelaw12.NodeHolds, of a node that is split: the walk. -/
namespace Go.Proofs.Ytlelckdcmlpmdaa
open Go Go.RowKit Lou

theorem wp_loadWg {P : Program} {w : World} {ops : Array Oper} {rest : List Oper} {o : Oper} {a : Act} {Q : Exit → Act → World → Prop} (hw : Region.wanted o (yielded ops a.tmps) = true) (T : TypeId) (x : Operand) (ho : o.op = .load T x) (g : Nat) {t : TypeId} {cs : Array Value} (hx : a.eval x = .pointer (some ⟨g, 0, none⟩)) {n : Nat} (hT : RowTy P T n) (hb : BlkIs w g t cs) (hn : cs.size = n)
    (h : wpList P ops Q rest (a.put o.dst (.agg cs)) w) : wpList P ops Q (o :: rest) a w :=
  wpList_step fun K hK => by rw [if_pos hw]; exact oper_loadW T x ho g hx hT hb hn (hK _ _ h)
set_option maxRecDepth 100000 in
set_option maxHeartbeats 16000000 in
theorem lawNH_good (w : World) (x : Nod) (Ac : Option Addr) (cc : Nat) (Ak : Option Addr) (ck : Nat) (Ai : Option Addr) (ci : Nat) (h : NIs w w.heap.size x Ac cc Ak ck Ai ci) (hR : RightP x) (hs : 512 < (laidB x).length) (hn : leastN x ≤ manyN x) :
    Calls Try.prog 9 #[.agg (nodC x Ac cc Ak ck Ai ci)] w fun e w' => e = .returned (.bool true) ∧ Below w.heap.size w w' := by
  by_cases hno : FewP x
  case neg => exact lawNH_few w x Ac cc Ak ck Ai ci h hno
  have hcl := hno.cl
  have hkl := hno.kl
  have hil := hno.il
  have HS : ∀ W, Below w.heap.size w W → Calls Try.prog 52 #[.agg (nodC x Ac cc Ak ck Ai ci)] W (GoodOut W x) := fun W hW => split_good W x Ac cc Ak ck Ai ci (h.grow hW) (by omega) (by omega) (by omega) hR hs hn
  have HY : ∀ W, Below w.heap.size w W → Calls Try.prog 53 #[.agg (nodC x Ac cc Ak ck Ai ci)] W fun e w' => e = .returned (.tuple #[.int .i64 ((laidB x).length : Int), .int .i64 0]) ∧ Below W.heap.size W w' := fun W hW => bytes_ok W x Ac cc Ak ck Ai ci (h.grow hW) (by omega) (by omega) (by omega) hR
  have HKx : ∀ W, Below w.heap.size w W → Calls Try.prog 50 #[.agg (nodC x Ac cc Ak ck Ai ci)] W (StrsOut W (nkeys x)) := fun W hW => refKeys_gives W x Ac cc Ak ck Ai ci (h.grow hW) (by omega)
  have hcel := h.c
  have hmx := nkeys_many x
  have hm60 : manyN x ≤ 60 := by unfold manyN; split <;> omega
  have HP := fun k hh => parts_of hR hcl hkl hil k hh hn
  have H1 : ∀ W g o, Below w.heap.size w W → Ac = some ⟨g, o, none⟩ → ∀ j, (hj : j < x.cells.length) → Calls Try.prog 53 #[.agg #[.bool true, .slice (some ⟨g, o + j * 4, none⟩) 1 (cc - j), .slice none 0 0, .slice none 0 0]] W fun e w' => e = .returned (.tuple #[.int .i64 ((laidB (oneN x.cells[j])).length : Int), .int .i64 0]) ∧ Below W.heap.size W w' := by
    intro W g o hW e j hj
    subst e
    exact one_gives W x g o cc ((h.grow hW).c) hR j hj
  have b0 := BlkIs.new w 76 (nodC x Ac cc Ak ck Ai ci)
  have hB : Below w.heap.size w (w.alloc (.cells (nodC x Ac cc Ak ck Ai ci) 76)) := (Below.refl _ w).alloc (Nat.le_refl _) _
  have HF := few_gives _ x Ac cc Ak ck Ai ci (h.grow hB)
  unfold FewOut at HF
  unfold GoodOut at HS
  generalize hlx : (laidB x).length = lx at *
  have hlxs : lx ≤ 1000000 := by
    have h1 := laid_length x
    have h2 := flat_bound (lotsB x) 200 (lots_each hR)
    have h3 := lots_many hR
    omega
  have HLX := Lib.hid hlx
  clear hlx hno hn hs h hR
  have HN : Hid ((nkeys x).length ≤ 60) := Lib.hid (by omega)
  clear hmx hm60 hkl hil
  go_enter Try.func9, Try.ntmps9
  go_wp2_with (first | (unfold nodC at *; refine wp_loadW rfl 76 (.tmp 1) rfl w.heap.size rfl rowNod b0 (by rfl) ?_))
  refine HF.mono ?_
  rintro e W2 ⟨b, rfl, hB2, hfp⟩
  have hB02 := hB.trans (hB2.mono hB.size)
  have b2 := b0.below hB2 b0.lt
  clear hfp HF
  cases b with
  | false =>
    go_wp2_with (go_at_call 47; refine (works12_gives _).mono ?_; rintro e W3 ⟨rfl, hB3⟩)
    go_ret
    exact ⟨rfl, hB02.trans (hB3.mono hB02.size)⟩
  | true =>
    go_wp2_with (first | (refine wp_loadW rfl 76 (.tmp 1) rfl w.heap.size rfl rowNod b2 (by rfl) ?_))
    refine (HS _ hB02).mono ?_
    rintro e W3 ⟨k, LA, lac, LK, lkc, LI, lic, RA, rac, RK, rkc, RI, ric, hHalf, hmin, rfl, nl, nr, hB3⟩
    have hP := HP k hHalf
    clear HP hHalf hmin HS
    generalize leftN x k = L at *
    generalize rightN x k = R at *
    generalize partN x k = pt at *
    have HPA := Lib.hid hP
    have z3 := (BlkIs.new W3 76 #[.bool false, .slice none 0 0, .slice none 0 0, .slice none 0 0]).alloc (.cells #[.bool false, .slice none 0 0, .slice none 0 0, .slice none 0 0] 76)
    have z4 := BlkIs.new (W3.alloc (.cells #[.bool false, .slice none 0 0, .slice none 0 0, .slice none 0 0] 76)) 76 #[.bool false, .slice none 0 0, .slice none 0 0, .slice none 0 0]
    rw [World.size_alloc] at z4
    have hZ := ((Below.refl W3.heap.size W3).alloc (Nat.le_refl _) (.cells #[.bool false, .slice none 0 0, .slice none 0 0, .slice none 0 0] 76)).alloc (by simp) (.cells #[.bool false, .slice none 0 0, .slice none 0 0, .slice none 0 0] 76)
    obtain ⟨g3, hg3⟩ : ∃ g, g = W3.heap.size := ⟨_, rfl⟩
    unfold nodC at *
    obtain ⟨CL, hCL⟩ : ∃ C : Array Value, C = #[.bool L.leaf, .slice LA L.cells.length lac, .slice LK L.keys.length lkc, .slice LI L.kids.length lic] := ⟨_, rfl⟩
    obtain ⟨CR, hCR⟩ : ∃ C : Array Value, C = #[.bool R.leaf, .slice RA R.cells.length rac, .slice RK R.keys.length rkc, .slice RI R.kids.length ric] := ⟨_, rfl⟩
    have hcl4 : CL.size = 4 := by rw [hCL]; rfl
    have hcr4 : CR.size = 4 := by rw [hCR]; rfl
    have hcl1 : ∀ v ∈ CL.toList, v.oneCell' = true := by rw [hCL]; exact four_one rfl rfl rfl rfl
    have hcr1 : ∀ v ∈ CR.toList, v.oneCell' = true := by rw [hCR]; exact four_one rfl rfl rfl rfl
    rw [← hCL, ← hCR]
    have HCL := Lib.hid hCL
    have HCR := Lib.hid hCR
    clear hCL hCR hP
    go_upto_block 0 with (first
      | (refine wp_storeW rfl 76 (.tmp 3) (.tmp 26) rfl W3.heap.size rfl rfl rowNod z3 rfl hcl4 hcl1 ?_)
      | (refine wp_storeW rfl 76 (.tmp 4) (.tmp 27) rfl (W3.heap.size + 1) rfl rfl rowNod (z4.setRow_ne (by omega) _) rfl hcr4 hcr1 ?_; have y3 := (z3.setRow CL).setRow_ne (k := W3.heap.size + 1) (by omega) CR; have y4 := (z4.setRow_ne (k := W3.heap.size) (by omega) CL).setRow CR; have hB34 := below_setRow (below_setRow hZ (Nat.le_refl W3.heap.size) CL) (Nat.le_succ W3.heap.size) CR; obtain ⟨W4, hW4⟩ : ∃ W, ((((W3.alloc (.cells #[.bool false, .slice none 0 0, .slice none 0 0, .slice none 0 0] 76)).alloc (.cells #[.bool false, .slice none 0 0, .slice none 0 0, .slice none 0 0] 76)).setRow W3.heap.size CL).setRow (W3.heap.size + 1) CR) = W := ⟨_, rfl⟩; rw [hW4] at hB34 y3 y4; rw [hW4]; clear hW4 z3 z4 hZ; have hB24 := hB3.trans (hB34.mono hB3.size); have hB04 := hB02.trans (hB24.mono hB02.size); have b4 := b2.below hB24 b2.lt)
      | (refine wp_loadW rfl 76 (.tmp 1) rfl w.heap.size rfl rowNod b4 (by rfl) ?_)
      | (go_at_call 53; refine (HY _ hB04).mono ?_; rintro e W5 ⟨rfl, hB5⟩)
      | (go_at_call 54; refine (num12_gives _ _).mono ?_; rintro e W6 ⟨rfl, rfl⟩))
    have b5 := b4.below hB5 b4.lt
    have l5 := y3.below hB5 y3.lt
    have r5 := y4.below hB5 y4.lt
    have hB05 := hB04.trans (hB5.mono hB04.size)
    have hB35 := hB34.trans (hB5.mono hB34.size)
    have nl5 := nl.grow hB35
    have nr5 := nr.grow hB35
    clear hB35 nl nr hB5 hB34 y3 y4 b4 b2 hB24 hB04 hB3 hB02 hB2 hB b0 HY
    rw [← hg3] at l5 r5 ⊢
    clear hg3
    go_cut [7] (fun s7 wx => ∃ a : Int, s7 = .int .i64 a ∧ Below W5.heap.size W5 wx ∧ Hid (a ≤ 656 → lx ≤ 656 ∧ SmallTo x.cells x.cells.length))
    case first =>
      go_wp2_with fail
      go_loopw [7, 9] (fun v i wr => ∃ (a : Int) (k : Nat), k ≤ x.cells.length ∧ i = .int .i64 k ∧ v = .int .i64 a ∧ AllIs lx x.cells k a ∧ Below W5.heap.size W5 wr) (fun _ i _ => x.cells.length - (intOf i).toNat)
      case atStart => exact ⟨lx, 0, by omega, rfl, rfl, .inr ⟨rfl, fun j _ h => by omega⟩, Below.refl _ _⟩
      case round =>
        obtain ⟨a, k, hk, rfl, rfl, ha, hBr⟩ := hrel
        have br := b5.below hBr b5.lt
        have c1 : wr.cell? ⟨w.heap.size, 1, none⟩ = some (.slice Ac x.cells.length cc) := by rw [br.cell]; rfl
        have hlec := hcel.le
        have hmaxc := hcel.max
        by_cases hlt : k < x.cells.length
        · obtain ⟨g, o, hA, hg, _⟩ := hcel.lies (by omega)
          have H1k := H1 wr g o (hB05.trans (hBr.mono hB05.size)) hA k hlt
          rw [hA] at c1
          have hnx : (laidB (oneN x.cells[k])).length ≤ 146 → AllIs lx x.cells (k + 1) a := fun h1 => by
            rcases ha with ha | ⟨ha, hs⟩
            · exact .inl ha
            · refine .inr ⟨ha, fun j hj hjk => ?_⟩
              by_cases e : j = k
              · subst e; exact h1
              · exact hs j hj (by omega)
          generalize (laidB (oneN x.cells[k])).length = m at *
          obtain ⟨k1, hk1⟩ : ∃ k1, k1 = k + 1 := ⟨_, rfl⟩
          rw [← hk1] at hnx
          have hwk : IntKind.i64.wrap ((k : Int) + 1) = (k1 : Int) := by rw [wrapN _ (by omega) (by omega)]; omega
          have j1 : (0 : Int) ≤ (k : Int) := by omega
          have j2 : (k : Int) ≤ (k1 : Int) := by omega
          have j3 : (k1 : Int) ≤ (cc : Int) := by omega
          have j4 : ((k1 : Int) - (k : Int)).toNat = 1 := by omega
          have j5 : ((cc : Int) - (k : Int)).toNat = cc - k := by omega
          have j6 : ¬ cc = k := by omega
          have j7 : k ≤ k1 := by omega
          have j8 : k1 ≤ cc := by omega
          have j9 : k1 - k = 1 := by omega
          have j10 : (k : Int) < (x.cells.length : Int) := by omega
          have HK1 := Lib.hid hk1
          have HNX := Lib.hid hnx
          have HHA := Lib.hid hA
          clear hk1 hnx ha hA br
          by_cases hm : m ≤ 146
          · have hm' : ¬ (146 : Int) < (m : Int) := by omega
            go_wp2_with (first
              | (go_at_call 53; refine H1k.mono ?_; rintro e W6 ⟨rfl, hB6⟩)
              | (go_at_call 54; refine (num12_gives _ _).mono ?_; rintro e W7 ⟨rfl, rfl⟩))
            have hk1 := HK1.out
            exact ⟨⟨a, k1, by omega, by simp, by simp, HNX.out hm, hBr.trans (hB6.mono hBr.size)⟩, by simp [intOf]; omega⟩
          · have hm' : (146 : Int) < (m : Int) := by omega
            go_wp2_with (first
              | (go_at_call 53; refine H1k.mono ?_; rintro e W6 ⟨rfl, hB6⟩)
              | (go_at_call 54; refine (num12_gives _ _).mono ?_; rintro e W7 ⟨rfl, rfl⟩))
            have hk1 := HK1.out
            exact ⟨⟨9999, k1, by omega, by simp, by simp, .inl rfl, hBr.trans (hB6.mono hBr.size)⟩, by simp [intOf]; omega⟩
        · obtain rfl : k = x.cells.length := by omega
          have HA := Lib.hid ha
          clear ha
          go_wp2_with fail
          go_meet
          refine ⟨a, rfl, hBr, Lib.hid fun h1 => ?_⟩
          rcases HA.out with e | ⟨e, h2⟩
          · omega
          · exact ⟨by omega, h2⟩
    case rest =>
      obtain ⟨W6, rfl⟩ : ∃ W, W = wc := ⟨_, rfl⟩
      obtain ⟨a, rfl, hB6, hfit⟩ := hcut
      have b6 := b5.below hB6 b5.lt
      have l6 := l5.below hB6 l5.lt
      have r6 := r5.below hB6 r5.lt
      have nl6 := nl5.grow hB6
      have nr6 := nr5.grow hB6
      have hB06 := hB05.trans (hB6.mono hB05.size)
      clear b5 l5 r5 nl5 nr5 hB05 hB6 H1
      go_upto_region 15 with fail
      go_cut [76] (fun s76 wx => s76 = .bool false ∧ Below W6.heap.size W6 wx)
      case first =>
        by_cases ha : a ≤ 656
        · obtain ⟨f1, f2⟩ := hfit.out ha
          obtain ⟨f3, f4⟩ := HPA.out.fits (by rw [HLX.out]; exact f1) f2
          have HFL := fun W (hW : Below W6.heap.size W6 W) => fits_ok W L LA lac LK lkc LI lic (nl6.grow hW) HPA.out.lc HPA.out.lk HPA.out.li HPA.out.l f3
          have HFR := fun W (hW : Below W6.heap.size W6 W) => fits_ok W R RA rac RK rkc RI ric (nr6.grow hW) HPA.out.rc HPA.out.rk HPA.out.ri HPA.out.r f4
          unfold nodC at HFL HFR
          rw [← HCL.out] at HFL
          rw [← HCR.out] at HFR
          have HFB : ∀ C W, (C = CL ∨ C = CR) → Below W6.heap.size W6 W → Calls Try.prog 55 #[.agg C] W fun e w' => e = .returned (.bool true) ∧ Below W.heap.size W w' := by
            rintro C W (rfl | rfl) hW
            · exact HFL W hW
            · exact HFR W hW
          have hcur := Below.refl W6.heap.size W6
          clear f1 f2 f3 f4 HFL HFR
          go_wp2_with (first
            | (refine wp_loadWg (by simp [Region.wanted, yielded]) 76 (.tmp 3) rfl g3 rfl rowNod l6 hcl4 ?_)
            | (go_at_call 55; refine (HFB _ _ (by first | exact .inl rfl | exact .inr rfl) hcur).mono ?_; rintro e W7 ⟨rfl, hB7⟩; replace hcur := hcur.trans (hB7.mono hcur.size); have r7 := r6.below hcur r6.lt)
            | (refine wp_loadWg (by simp [Region.wanted, yielded]) 76 (.tmp 4) rfl (g3 + 1) rfl rowNod r7 hcr4 ?_))
          go_meet
          exact ⟨rfl, hcur⟩
        · go_wp2_with fail
          go_meet
          exact ⟨by simp [ha], Below.refl _ _⟩
      case rest =>
        obtain ⟨W7, rfl⟩ : ∃ W, W = wc := ⟨_, rfl⟩
        obtain ⟨rfl, hB7⟩ := hcut
        have b7 := b6.below hB7 b6.lt
        have l7 := l6.below hB7 l6.lt
        have r7 := r6.below hB7 r6.lt
        have nl7 := nl6.grow hB7
        have nr7 := nr6.grow hB7
        have hB07 := hB06.trans (hB7.mono hB06.size)
        clear b6 l6 r6 nl6 nr6 hB06 hB7 hfit
        have hJ := HPA.out.join
        have hLe := HPA.out.less
        have hMo := HPA.out.more
        have hCe : IntKind.i64.wrap ((L.cells.length : Int) + (R.cells.length : Int)) = (x.cells.length : Int) := by have := HPA.out.cells; have := HPA.out.lc; have := HPA.out.rc; rw [wrapN _ (by omega) (by omega)]; omega
        have hKi : IntKind.i64.wrap ((L.kids.length : Int) + (R.kids.length : Int)) = (x.kids.length : Int) := by have := HPA.out.kids; have := HPA.out.li; have := HPA.out.ri; rw [wrapN _ (by omega) (by omega)]; omega
        have HKl : ∀ W, Below W7.heap.size W7 W → Calls Try.prog 50 #[.agg CL] W (StrsOut W (nkeys L)) := fun W hW => by
          have := refKeys_gives W L LA lac LK lkc LI lic (nl7.grow hW) (by have := HPA.out.lc; omega)
          unfold nodC at this
          rw [← HCL.out] at this
          exact this
        have HKr : ∀ W, Below W7.heap.size W7 W → Calls Try.prog 50 #[.agg CR] W (StrsOut W (nkeys R)) := fun W hW => by
          have := refKeys_gives W R RA rac RK rkc RI ric (nr7.grow hW) (by have := HPA.out.rc; omega)
          unfold nodC at this
          rw [← HCR.out] at this
          exact this
        have hn60 := HN.out
        generalize x.leaf = lf at *
        obtain ⟨mid, hmid⟩ : ∃ m : List ByteArray, m = if lf then [] else [pt] := ⟨_, rfl⟩
        rw [← hmid] at hJ
        unfold StrsOut at HKl HKr HKx
        generalize nkeys L = kl at *
        generalize nkeys R = kr at *
        generalize nkeys x = ks at *
        obtain ⟨km, hkm⟩ : ∃ m : List ByteArray, m = kl ++ mid := ⟨_, rfl⟩
        have hkk : km ++ kr = ks := by rw [hkm, List.append_assoc]; exact hJ
        have hlen : km.length + kr.length = ks.length := by rw [← hkk, List.length_append]
        have hlen2 : kl.length + mid.length = km.length := by rw [hkm, List.length_append]
        have HLE := Lib.hid hLe
        have HMO := Lib.hid hMo
        have HKM := Lib.hid hkm
        have HKK := Lib.hid hkk
        have HLN := Lib.hid hlen
        have HMID := Lib.hid hmid
        have hkm60 : km.length ≤ 60 := by omega
        have hkr60 : kr.length ≤ 60 := by omega
        have hkl60 : kl.length ≤ 60 := by omega
        clear hJ hLe hMo hmid hkm hkk hlen hlen2 nl7 nr7
        have hBd : Below W7.heap.size W7 W7.drew := (Below.refl _ W7).drew
        go_upto_region 17 with fail
        refine RegF.start (fun W => Below W7.heap.size W7 W) 5 (by kernel_rfl) ?_
        refine RegF.take 0 (.agg CL) rfl (by kernel_rfl) (by kernel_rfl) (by kernel_rfl) (by kernel_rfl) (fun _ _ _ h => h) hBd (RegF.yld rfl (fun W hW => by exact x_loadN rowNod (l7.below hW l7.lt) hcl4 rfl rfl)) ?_
        simp only [List.getElem_toArray, List.getElem_cons_succ, List.getElem_cons_zero, Act.put, List.setIfInBounds_toArray, List.set_cons_zero, List.set_cons_succ]
        refine RegF.take 2 (.agg CR) rfl (by kernel_rfl) (by kernel_rfl) (by kernel_rfl) (by kernel_rfl) (fun _ _ _ h => h) hBd (RegF.yld rfl (fun W hW => by exact x_loadN rowNod (r7.below hW r7.lt) hcr4 rfl rfl)) ?_
        simp only [List.getElem_toArray, List.getElem_cons_succ, List.getElem_cons_zero, Act.put, List.setIfInBounds_toArray, List.set_cons_zero, List.set_cons_succ]
        refine RegF.one 1 (by kernel_rfl) ?_
        refine RegF.opC 50 #[.tmp 77] #[76] rfl rfl rfl (enters_of Try.func50 (by kernel_rfl) rfl) #[.agg CL] (by simp only [List.map_toArray, List.map_cons, List.map_nil]; rfl) ((HKl _ hBd).mono ?_)
        rintro e W8 ⟨A12, c12, rfl, in12, hB8⟩
        have hB78 : Below W7.heap.size W7 W8 := hBd.trans hB8
        refine ⟨_, rfl, fun _ => hB78, ?_⟩
        simp only [List.getElem_toArray, List.getElem_cons_succ, List.getElem_cons_zero, Act.put, List.setIfInBounds_toArray, List.set_cons_zero, List.set_cons_succ]
        refine RegF.one 3 (by kernel_rfl) ?_
        refine RegF.opC 50 #[.tmp 79] #[76] rfl rfl rfl (enters_of Try.func50 (by kernel_rfl) rfl) #[.agg CR] (by simp only [List.map_toArray, List.map_cons, List.map_nil]; rfl) ((HKr _ hB78).mono ?_)
        rintro e W9 ⟨A13, c13, rfl, in13, hB9⟩
        have hB79 : Below W7.heap.size W7 W9 := hB78.trans (hB9.mono hB78.size)
        have in12 := in12.grow hB9
        refine ⟨_, rfl, fun _ => hB79, ?_⟩
        simp only [List.getElem_toArray, List.getElem_cons_succ, List.getElem_cons_zero, Act.put, List.setIfInBounds_toArray, List.set_cons_zero, List.set_cons_succ]
        refine RegF.one 4 (by kernel_rfl) ?_
        refine RegF.opV (.slice A12 kl.length c12) rfl rfl (by go_simp) ⟨fun _ => hB79, ?_⟩
        simp only [List.getElem_toArray, List.getElem_cons_succ, List.getElem_cons_zero, Act.put, List.setIfInBounds_toArray, List.set_cons_zero, List.set_cons_succ]
        refine RegF.one 5 (by kernel_rfl) ?_
        refine RegF.opV (w' := W9) (.slice A13 kr.length c13) rfl rfl (by go_simp) ⟨fun h => absurd rfl h, ?_⟩
        simp only [List.getElem_toArray, List.getElem_cons_succ, List.getElem_cons_zero, Act.put, List.setIfInBounds_toArray, List.set_cons_zero, List.set_cons_succ]
        refine RegF.done (by kernel_rfl) ?_
        have b9 := b7.below hB79 b7.lt
        have l9 := l7.below hB79 l7.lt
        have r9 := r7.below hB79 r7.lt
        have hB09 := hB07.trans (hB79.mono hB07.size)
        clear b7 l7 r7 hB07 hB79 hB78 hB8 hB9 hBd HKl HKr
        have e0 : (W9.alloc (.cells #[] 9)).ownsRow W9.heap.size 9 1 (.slice (some ⟨W9.heap.size, 0, none⟩) 0 0) 0 [] := World.ownsRow_lit W9 #[] 0 (Nat.le_refl _) (by unfold maxLen; omega) rfl
        have hBe : Below W9.heap.size W9 (W9.alloc (.cells #[] 9)) := (Below.refl _ W9).alloc (Nat.le_refl _) _
        have lle := in12.le
        have rle := in13.le
        go_upto_if 86 with (at_builtin; refine wp_appG rfl elStr (.tmp 81) (.tmp 82) rfl W9.heap.size (.slice (some ⟨W9.heap.size, 0, none⟩) 0 0) 0 [] rfl e0 _ A12 kl.length c12 (skC kl) rfl (in12.below hBe) (by unfold maxLen; omega) (by omega) hBe.size ?_; intro v10 W10 own10 hg10; rw [Nat.zero_add, List.nil_append] at own10; obtain ⟨A10, c10, rfl, in10⟩ := ownG_in own10 (skC_one _); have hB90 := hBe.trans (grown_below hg10 hBe.size (ownG_ge e0)); have b10 := b9.below hB90 b9.lt; have k10 : W10.cell? ⟨w.heap.size, 0, none⟩ = some (.bool lf) := (by rw [b10.cell]; rfl))
        go_cut [14] (fun s14 wx => ∃ A c, s14 = .slice A km.length c ∧ wx.ownsRow W9.heap.size 9 1 (.slice A km.length c) km.length (skC km) ∧ Below W9.heap.size W9 wx)
        case first =>
          cases lf
          case true =>
            have hk : kl = km := by rw [HKM.out, HMID.out]; simp
            subst hk
            go_wp2_with fail
            go_meet
            exact ⟨A10, c10, rfl, own10, hB90⟩
          case false =>
            have hk : km = kl ++ [pt] := by rw [HKM.out, HMID.out]; simp
            have hlen : kl.length + 1 = km.length := by rw [hk, List.length_append, List.length_singleton]
            have hsk : skC kl ++ [.string pt] = skC km := by rw [hk]; unfold skC; rw [List.map_append]; rfl
            have HSK := Lib.hid hsk
            have HLN2 := Lib.hid hlen
            have hBa : Below W10.heap.size W10 (W10.alloc (.cells #[.string pt] 9)) := (Below.refl _ W10).alloc (Nat.le_refl _) _
            have owna := ownG_grow own10 hBa
            have hba : W9.heap.size ≤ (W10.alloc (.cells #[.string pt] 9)).heap.size := Nat.le_trans hB90.size hBa.size
            clear hk hlen hsk
            go_wp2_with (at_builtin; refine wp_appG rfl elStr (.tmp 87) (.tmp 89) rfl W9.heap.size (.slice A10 kl.length c10) kl.length (skC kl) rfl owna _ _ 1 1 [.string pt] rfl (row_one W10 9 (.string pt) rfl) (by unfold maxLen; omega) (by omega) hba ?_; intro v11 W11 own11 hg11; rw [HLN2.out, HSK.out] at own11; obtain ⟨A11, c11, rfl, in11⟩ := ownG_in own11 (skC_one _))
            go_meet
            exact ⟨A11, c11, rfl, own11, (hB90.trans (hBa.mono hB90.size)).trans (grown_below hg11 hba (ownG_ge owna))⟩
        case rest =>
          obtain ⟨W10', rfl⟩ : ∃ W, W = wc := ⟨_, rfl⟩
          obtain ⟨A11, c11, rfl, own11, hB11⟩ := hcut
          have in13' := in13.below hB11
          have HAP := Lib.hid (show skC km ++ skC kr = skC ks by rw [← HKK.out]; unfold skC; rw [List.map_append])
          have hbs := hB11.size
          clear own10 in10 hg10 e0 hBe hB90 b10 k10
          have b11 := b9.below hB11 b9.lt
          go_upto_region 22 with (at_builtin; refine wp_appG rfl elStr (.tmp 91) (.tmp 92) rfl W9.heap.size (.slice A11 km.length c11) km.length (skC km) rfl own11 _ A13 kr.length c13 (skC kr) rfl in13' (by unfold maxLen; omega) (by omega) hbs ?_; intro v12 W12 own12 hg12; rw [HLN.out, HAP.out] at own12; obtain ⟨A14, c14, rfl, in14⟩ := ownG_in own12 (skC_one _))
          have hB12 := hB11.trans (grown_below hg12 hbs (ownG_ge own11))
          have b12 := b9.below hB12 b9.lt
          have hB012 := hB09.trans (hB12.mono hB09.size)
          have l12 := l9.below hB12 l9.lt
          have r12 := r9.below hB12 r9.lt
          have x12 := in12.below hB12
          have y12 := in13.below hB12
          have x12 := x12.more hB12.size
          have y12 := y12.more hB12.size
          clear in12 in13 in13' own11 own12 hg12 hB11 hB12 b9 b11 l9 r9 hB09 hbs
          go_upto_region 23 with (first
            | (refine wp_loadW rfl 76 (.tmp 1) rfl w.heap.size rfl rowNod b12 (by rfl) ?_)
            | (go_at_call 50; refine (HKx _ hB012).mono ?_; rintro e W13 ⟨A15, c15, rfl, in15, hB13⟩))
          have in14 := in14.grow hB13
          have in12 := x12.grow hB13
          have in13 := y12.grow hB13
          have b13 := b12.below hB13 b12.lt
          have l13 := l12.below hB13 l12.lt
          have r13 := r12.below hB13 r12.lt
          have hB013 := hB012.trans (hB13.mono hB012.size)
          rw [HCL.out] at l13
          rw [HCR.out] at r13
          obtain ⟨cl0, cl1, cl2, cl3⟩ := box4 l13
          obtain ⟨cr0, cr1, cr2, cr3⟩ := box4 r13
          obtain ⟨cx0, cx1, cx2, cx3⟩ := box4 b13
          have le14 := in14.le
          have le15 := in15.le
          have le12 := in12.le
          have le13 := in13.le
          have hks : ks.length ≤ 60 := HN.out
          clear x12 y12 b12 l12 r12 hB012 hB13 HKx cl0 cl2 cr0 cr2 cx0 cx2 b13 l13 r13
          go_upto_block 2 with fail
          go_wp2_with fail
          go_loopw [16] (fun i wr => ∃ k : Nat, k ≤ ks.length ∧ i = .int .i64 k ∧ Below W13.heap.size W13 wr) (fun i _ => ks.length - (intOf i).toNat)
          case atStart => exact ⟨0, by omega, rfl, Below.refl _ _⟩
          case round =>
            obtain ⟨k, hk, rfl, hBr⟩ := hrel
            by_cases hlt : k < ks.length
            · obtain ⟨ga, oa, rfl, hga, _⟩ := in14.lies (by omega)
              obtain ⟨gb, ob, rfl, hgb, _⟩ := in15.lies (by omega)
              have d0 : wr.cell? ⟨ga, oa + k, none⟩ = some (.string ks[k]) := (hBr.cell (p := ⟨ga, oa + k, none⟩) hga).trans (str_at in14 rfl k hlt)
              have d1 : wr.cell? ⟨gb, ob + k, none⟩ = some (.string ks[k]) := (hBr.cell (p := ⟨gb, ob + k, none⟩) hgb).trans (str_at in15 rfl k hlt)
              have e0 : wr.drew.cell? ⟨ga, oa + k, none⟩ = some (.string ks[k]) := d0
              have e1 : wr.drew.cell? ⟨gb, ob + k, none⟩ = some (.string ks[k]) := d1
              generalize ks[k] = s at *
              have hwk : IntKind.i64.wrap ((k : Int) + 1) = (k : Int) + 1 := wrapN _ (by omega) (by omega)
              have j1 : (k : Int) < (ks.length : Int) := by omega
              have j2 : (0 : Int) ≤ (k : Int) := by omega
              go_wp2
              go_region
              go_wp2
              exact ⟨⟨k + 1, by omega, by simp, hBr.drew⟩, by simp [intOf]; omega⟩
            · obtain rfl : k = ks.length := by omega
              obtain ⟨W14, rfl⟩ : ∃ W, W = wr := ⟨_, rfl⟩
              have in12 := in12.grow hBr
              have in13 := in13.grow hBr
              have hB014 := hB013.trans (hBr.mono hB013.size)
              clear in14 in15 hB013 hBr
              go_wp2_with fail
              go_loopw [17] (fun i wr => ∃ k : Nat, k ≤ kl.length ∧ i = .int .i64 k ∧ Below W14.heap.size W14 wr) (fun i _ => kl.length - (intOf i).toNat)
              case atStart => exact ⟨0, by omega, rfl, Below.refl _ _⟩
              case round =>
                obtain ⟨k, hk, rfl, hBr⟩ := hrel
                by_cases hlt : k < kl.length
                · obtain ⟨ga, oa, rfl, hga, _⟩ := in12.lies (by omega)
                  have d0 : wr.cell? ⟨ga, oa + k, none⟩ = some (.string kl[k]) := (hBr.cell (p := ⟨ga, oa + k, none⟩) hga).trans (str_at in12 rfl k hlt)
                  have hs : Op.bytesLess kl[k].toList pt.toList = true := HLE.out k hlt
                  generalize kl[k] = s at *
                  have hwk : IntKind.i64.wrap ((k : Int) + 1) = (k : Int) + 1 := wrapN _ (by omega) (by omega)
                  go_wp2
                  exact ⟨⟨k + 1, by omega, by simp, hBr⟩, by simp [intOf]; omega⟩
                · obtain rfl : k = kl.length := by omega
                  obtain ⟨W15, rfl⟩ : ∃ W, W = wr := ⟨_, rfl⟩
                  have in13 := in13.grow hBr
                  have hB015 := hB014.trans (hBr.mono hB014.size)
                  clear in12 hB014 hBr
                  go_wp2_with fail
                  go_loopw [18] (fun i wr => ∃ k : Nat, k ≤ kr.length ∧ i = .int .i64 k ∧ Below W15.heap.size W15 wr) (fun i _ => kr.length - (intOf i).toNat)
                  case atStart => exact ⟨0, by omega, rfl, Below.refl _ _⟩
                  case round =>
                    obtain ⟨k, hk, rfl, hBr⟩ := hrel
                    by_cases hlt : k < kr.length
                    · obtain ⟨ga, oa, rfl, hga, _⟩ := in13.lies (by omega)
                      have d0 : wr.cell? ⟨ga, oa + k, none⟩ = some (.string kr[k]) := (hBr.cell (p := ⟨ga, oa + k, none⟩) hga).trans (str_at in13 rfl k hlt)
                      have hs : Op.bytesLess kr[k].toList pt.toList = false := HMO.out k hlt
                      generalize kr[k] = s at *
                      have hwk : IntKind.i64.wrap ((k : Int) + 1) = (k : Int) + 1 := wrapN _ (by omega) (by omega)
                      go_wp2
                      exact ⟨⟨k + 1, by omega, by simp, hBr⟩, by simp [intOf]; omega⟩
                    · obtain rfl : k = kr.length := by omega
                      go_wp2_with (go_at_call 47; refine (works12_gives _).mono ?_; rintro e Wz ⟨rfl, hBz⟩)
                      go_ret
                      have hB016 := hB015.trans (hBr.mono hB015.size)
                      exact ⟨rfl, hB016.trans (hBz.mono hB016.size)⟩
/-- The law, of whatever node. -/
theorem lawNHolds (w : World) (x : Nod) (Ac : Option Addr) (cc : Nat) (Ak : Option Addr) (ck : Nat) (Ai : Option Addr) (ci : Nat) (h : NIs w w.heap.size x Ac cc Ak ck Ai ci) :
    Calls Try.prog 9 #[.agg (nodC x Ac cc Ak ck Ai ci)] w fun e w' => e = .returned (.bool true) ∧ Below w.heap.size w w' := by
  by_cases hF : FewP x
  · have hcl := hF.cl
    have hkl := hF.kl
    have hil := hF.il
    by_cases hR : RightP x
    · by_cases hs : 512 < (laidB x).length ∧ leastN x ≤ manyN x
      · exact lawNH_good w x Ac cc Ak ck Ai ci h hR hs.1 hs.2
      · exact lawNH_bad w x Ac cc Ak ck Ai ci h _ 0 (.inl rfl) (fun W hW => split_no W x Ac cc Ak ck Ai ci (h.grow hW) (by omega) (by omega) (by omega) hR hs)
          (fun W hW => bytes_ok W x Ac cc Ak ck Ai ci (h.grow hW) (by omega) (by omega) (by omega) hR)
    · exact lawNH_bad w x Ac cc Ak ck Ai ci h _ 2 (.inr rfl) (fun W hW => split_wrong W x Ac cc Ak ck Ai ci (h.grow hW) (by omega) (by omega) (by omega) hR)
        (fun W hW => bytes_wrong W x Ac cc Ak ck Ai ci (h.grow hW) (by omega) (by omega) (by omega) hR)
  · exact lawNH_few w x Ac cc Ak ck Ai ci h hF
end Go.Proofs.Ytlelckdcmlpmdaa
/- From a row's own reading of nodes, cells, strings and ints that came in to their parts. -/
namespace Go.Proofs.Ytlelckdcmlpmdaa
open Go Lou Go.ChangeShapes Go.WideShapes Go.ChangeAt Go.RowKit

theorem flat_get {α : Type} {C : α → List Value} {sz : Nat} (hC : ∀ x, (C x).length = sz) : ∀ (s : List α) (j : Nat) (v : Value), ((s.map C).flatten)[j]? = some v → ∃ i q, ∃ hi : i < s.length, j = i * sz + q ∧ q < sz ∧ (C s[i])[q]? = some v
  | [], j, v, h => by simp at h
  | x :: s, j, v, h => by
    have e : ((x :: s).map C).flatten = C x ++ (s.map C).flatten := rfl
    rw [e] at h
    by_cases hj : j < (C x).length
    · rw [List.getElem?_append_left hj] at h
      exact ⟨0, j, by simp, by omega, by rw [← hC x]; exact hj, by simpa using h⟩
    · rw [List.getElem?_append_right (by omega)] at h
      obtain ⟨i, q, hi, e1, hq, e2⟩ := flat_get hC s _ v h
      rw [hC] at e1 hj
      refine ⟨i + 1, q, by simpa using hi, ?_, hq, by simpa using e2⟩
      rw [Nat.succ_mul]
      omega
section
variable {H : Type} {enc : TypeId × Value → H} {W : World} {r : Reach} {b0 b1 : Nat} {held : Bool} {v : Value} {d : DataW H} {p : List MemPlace}
set_option maxRecDepth 100000 in
/-- A row of elements of sz cells each. -/
theorem one_row {α : Type} [Inhabited α] (C : α → List Value) {sz : Nat} (hz : 0 < sz) (hC : ∀ x, (C x).length = sz) (h1 : ∀ x, ∀ v ∈ C x, v.oneCell' = true) {T E : TypeId} (hT : Try.prog.underlying T = some (.slice E)) (hE : Try.prog.cellsOf E = sz)
    (hel : ∀ (n : Nat) (cs : List Value) (x : DataW H × List MemPlace), cs.length = sz → DataW.trod enc Try.prog W b1 (fun _ => true) held n E cs = some x → ∃ y : α, cs = C y)
    {n : Nat} {c : Value} {x : DataW H × List MemPlace} (h : DataW.trod enc Try.prog W b1 (fun _ => true) held n T [c] = some x) : ∃ A k, ∃ s : List α, c = .slice A s.length k ∧ InG W W.heap.size sz A s.length k ((s.map C).flatten) := by
  rcases Go.Deep.open_slice hT h with ⟨hcs, _⟩ | ⟨a, len, cap, m, n', D, Pl, hcs, hb, hl, hm, hmm, _, hx⟩
  · simp at hcs
    exact ⟨none, 0, [], hcs, InG.mt _ _ _⟩
  · simp at hcs
    simp only [if_true] at hmm
    subst hmm
    rw [hE] at hx
    obtain ⟨B, hB⟩ := Go.Deep.choose_lt (α := α) (p := fun i y => ∀ j (hj : j < (C y).length), W.cell? ((a.add (i * sz)).add j) = some (C y)[j]) (fun i hi => by
      obtain ⟨cs', h3, h4⟩ := hx i hi
      obtain ⟨_, hlen, hcell⟩ := World.cells?_some h3
      obtain ⟨y, rfl⟩ := hel _ _ _ hlen h4
      exact ⟨y, fun j hj => (hcell j (by omega)).trans (List.getElem?_eq_getElem hj)⟩)
    refine ⟨some a, m, (List.range len).map B, by simpa using hcs, ?_⟩
    have hln : ((List.range len).map B).length = len := by simp
    refine ⟨by rw [hln]; exact hl, by unfold maxLen at hm; omega, (fun e => by cases e), ?_, ?_, fun h0 => ?_⟩
    · rw [List.length_flatten, List.map_map, hln]
      have : (List.map (List.length ∘ C) ((List.range len).map B)) = List.replicate len sz := by
        rw [List.eq_replicate_iff]
        refine ⟨by simp, fun b hb => ?_⟩
        obtain ⟨y, _, rfl⟩ := List.mem_map.1 hb
        exact hC y
      rw [this, List.sum_replicate_nat]
    · intro v hv
      obtain ⟨l, hl', hv⟩ := List.mem_flatten.1 hv
      obtain ⟨y, _, rfl⟩ := List.mem_map.1 hl'
      exact h1 y v hv
    · rw [hln] at h0
      obtain ⟨b, off, spot⟩ := a
      have hc0 := hB 0 (by omega) 0 (by rw [hC]; exact hz)
      have hspot : spot = none := by simpa [Addr.add] using World.cell?_spot hc0
      subst hspot
      have hbl : b < W.heap.size := by simpa [Addr.add] using cell_block_lt hc0
      refine ⟨b, off, rfl, hbl, fun j v hj => ?_⟩
      obtain ⟨i, q, hi, rfl, hq, e⟩ := flat_get hC _ j v hj
      have hi' := hi
      rw [hln] at hi'
      have hg : ((List.range len).map B)[i] = B i := by simp
      rw [hg] at e
      obtain ⟨hq2, e⟩ := List.getElem?_eq_some_iff.1 e
      have := hB i (by omega) q hq2
      rw [Addr.add_mid, Addr.add_mid, e] at this
      rw [← Nat.add_assoc]
      exact this
theorem flat_one {α : Type} (f : α → Value) : ∀ s : List α, (s.map fun x => [f x]).flatten = s.map f
  | [] => rfl
  | x :: s => by
    have e : ((x :: s).map fun x => [f x]).flatten = f x :: (s.map fun x => [f x]).flatten := rfl
    rw [e, flat_one f s]
    rfl
set_option maxRecDepth 100000 in
theorem row_strs {n : Nat} {c : Value} {x : DataW H × List MemPlace} (h : DataW.trod enc Try.prog W b1 (fun _ => true) held n 73 [c] = some x) : ∃ A k, ∃ s : List ByteArray, c = .slice A s.length k ∧ InG W W.heap.size 1 A s.length k (skC s) := by
  have hc : Try.prog.cellsOf 9 = 1 := by kernel_rfl
  obtain ⟨A, k, s, e, hin⟩ := one_row (α := ByteArray) (fun x => [Value.string x]) (by decide) (fun _ => rfl) (fun x v hv => by simp at hv; subst hv; rfl) Try.underlying73 hc (fun n cs x hl ht => by
    obtain ⟨s, g, _, q⟩ := DataW.trod_string Try.underlying9 ht
    exact ⟨s, g⟩) h
  rw [flat_one] at hin
  exact ⟨A, k, s, e, hin⟩
set_option maxRecDepth 100000 in
theorem row_ints {n : Nat} {c : Value} {x : DataW H × List MemPlace} (h : DataW.trod enc Try.prog W b1 (fun _ => true) held n 74 [c] = some x) : ∃ A k, ∃ s : List Int, c = .slice A s.length k ∧ InG W W.heap.size 1 A s.length k (ikC s) := by
  have hc : Try.prog.cellsOf 3 = 1 := by kernel_rfl
  obtain ⟨A, k, s, e, hin⟩ := one_row (α := Int) (fun x => [Value.int .i64 x]) (by decide) (fun _ => rfl) (fun x v hv => by simp at hv; subst hv; rfl) Try.underlying74 hc (fun n cs x hl ht => by
    obtain ⟨s, g, _, q⟩ := DataW.trod_int Try.underlying3 ht
    exact ⟨s, g⟩) h
  rw [flat_one] at hin
  exact ⟨A, k, s, e, hin⟩
instance : Inhabited Cel := ⟨⟨ByteArray.empty, ByteArray.empty, 0, 0⟩⟩
set_option maxRecDepth 100000 in
theorem row_cels {n : Nat} {c : Value} {x : DataW H × List MemPlace} (h : DataW.trod enc Try.prog W b1 (fun _ => true) held n 72 [c] = some x) : ∃ A k, ∃ s : List Cel, c = .slice A s.length k ∧ InG W W.heap.size 4 A s.length k (clC s) := by
  have hc : Try.prog.cellsOf 205 = 4 := by kernel_rfl
  have h1s : Try.prog.cellsOf 9 = 1 := by kernel_rfl
  have h1i : Try.prog.cellsOf 3 = 1 := by kernel_rfl
  exact one_row (α := Cel) celC (by decide) (fun _ => rfl) celC_one Try.underlying72 hc (fun n cs x hl ht => by
    obtain ⟨xs, m, _, _, _, hlx, hi⟩ := DataW.trod_struct Try.underlying205 ht
    match cs, hl with
    | [c0, c1, c2, c3], _ =>
      have hx4 : xs.length = 4 := hlx
      have e0 := hi 0 _ rfl
      have e1 := hi 1 _ rfl
      have e2 := hi 2 _ rfl
      have e3 := hi 3 _ rfl
      rw [List.getElem?_eq_getElem (by omega)] at e0 e1 e2 e3
      obtain ⟨s0, g0, _, _⟩ := DataW.trod_string Try.underlying9 e0
      obtain ⟨s1, g1, _, _⟩ := DataW.trod_string Try.underlying9 e1
      obtain ⟨z2, g2, _, _⟩ := DataW.trod_int Try.underlying3 e2
      obtain ⟨z3, g3, _, _⟩ := DataW.trod_int Try.underlying3 e3
      replace g0 : ([c0, c1, c2, c3].drop 0).take (Try.prog.cellsOf 9) = _ := g0
      replace g1 : ([c0, c1, c2, c3].drop 1).take (Try.prog.cellsOf 9) = _ := g1
      replace g2 : ([c0, c1, c2, c3].drop 2).take (Try.prog.cellsOf 3) = _ := g2
      replace g3 : ([c0, c1, c2, c3].drop 3).take (Try.prog.cellsOf 3) = _ := g3
      rw [h1s] at g0 g1
      rw [h1i] at g2 g3
      simp at g0 g1 g2 g3
      subst g0 g1 g2 g3
      exact ⟨⟨s0, s1, z2, z3⟩, rfl⟩) h
set_option maxRecDepth 100000 in
theorem open_node (hval : Value.okWide Try.prog W r b0 76 v) (h : DataW.Trod enc Try.prog W b1 (fun _ => true) held 76 v d p) : ∃ (x : Nod) (Ac : Option Addr) (cc : Nat) (Ak : Option Addr) (ck : Nat) (Ai : Option Addr) (ci : Nat), v = .agg (nodC x Ac cc Ak ck Ai ci) ∧ NIs W W.heap.size x Ac cc Ak ck Ai ci := by
  obtain ⟨cs, rfl, hl, hi⟩ := open_struct Try.underlying76 hval h
  have h2 : Try.prog.cellsOf 76 = 4 := by kernel_rfl
  have c72 : Try.prog.cellsOf 72 = 1 := by kernel_rfl
  have c73 : Try.prog.cellsOf 73 = 1 := by kernel_rfl
  have c74 : Try.prog.cellsOf 74 = 1 := by kernel_rfl
  rw [h2] at hl
  match cs, hl with
  | [c0, c1, c2, c3], _ =>
    obtain ⟨_, _, e0⟩ := hi 0 _ rfl
    obtain ⟨_, _, e1⟩ := hi 1 _ rfl
    obtain ⟨_, _, e2⟩ := hi 2 _ rfl
    obtain ⟨_, _, e3⟩ := hi 3 _ rfl
    obtain ⟨z, rfl⟩ := one_bool Try.underlying4 (by kernel_rfl) e0
    replace e1 : DataW.trod enc Try.prog W b1 (fun _ => true) held _ 72 ((c1 :: [c2, c3]).take (Try.prog.cellsOf 72)) = some _ := e1
    replace e2 : DataW.trod enc Try.prog W b1 (fun _ => true) held _ 73 ((c2 :: [c3]).take (Try.prog.cellsOf 73)) = some _ := e2
    replace e3 : DataW.trod enc Try.prog W b1 (fun _ => true) held _ 74 ((c3 :: []).take (Try.prog.cellsOf 74)) = some _ := e3
    rw [c72] at e1
    rw [c73] at e2
    rw [c74] at e3
    obtain ⟨A1, k1, s1, rfl, i1⟩ := row_cels e1
    obtain ⟨A2, k2, s2, rfl, i2⟩ := row_strs e2
    obtain ⟨A3, k3, s3, rfl, i3⟩ := row_ints e3
    exact ⟨⟨z, s1, s2, s3⟩, A1, k1, A2, k2, A3, k3, rfl, i1, i2, i3⟩
end
end Go.Proofs.Ytlelckdcmlpmdaa
