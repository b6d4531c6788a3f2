/- Texts that the proof of NodeFinds leans on, part 5. -/
import Derived.Lib.AppendZeros
import Derived.Orders
import Derived.RegionTactic
import Derived.Shelf.Abstract
import Derived.MapKept
import Derived.Carry
import Derived.Test.YtlelckdcmlpmdaaNodeFindsB4
/- node.Keys, and what its function goes through. -/
namespace Go.Proofs.Ytlelckdcmlpmdaa
open Go Go.RowKit Lou Go.Shelf
attribute [local go_sem] Oper.semAt_some

theorem run_eq_nilN {P : Program} (w : World) (t e : TypeId) (A : Option Addr) (n c : Nat) (ht : P.underlying t = some (.slice e)) : (binOp .eql t (.slice A n c) (.slice none 0 0)).run P w = .ok (.bool A.isNone) w := by
  have e1 : binOp .eql t (.slice A n c) (.slice none 0 0) = (do pure (.bool (← Op.equalIn (9999 + 1) t (.slice A n c) (.slice none 0 0)))) := rfl
  have h : (Op.equalIn (9999 + 1) t (.slice A n c) (.slice none 0 0)).run P w = .ok A.isNone w := by
    unfold Op.equalIn
    cases A <;> simp [run_underlying ht]
  rw [e1]
  simp only [Sem.run_bind, h, Result.andThen, Sem.run_pure]
/-- slices.Clone over strings. -/
def OwnStrs (w : World) (l : List ByteArray) (e : Ending) (w' : World) : Prop := ∃ A c, e = .returned (.slice A l.length c) ∧ w'.ownsRow w.heap.size 9 1 (.slice A l.length c) l.length (skC l) ∧ Below w.heap.size w w'
set_option maxRecDepth 100000 in
set_option maxHeartbeats 1000000 in
theorem sclone_gives (w : World) (A : Option Addr) (c : Nat) (l : List ByteArray) (h : InG w w.heap.size 1 A l.length c (skC l)) (hl : l.length ≤ 1000000) :
    Calls Try.prog 111 #[.slice A l.length c] w (OwnStrs w l) := by
  rcases A with _ | ad
  · have hc := h.nil rfl
    subst hc
    have hle := h.le
    obtain rfl : l = [] := List.eq_nil_of_length_eq_zero (by omega)
    have hq := fun W => run_eq_nilN (P := Try.prog) W 73 9 none 0 0 Try.underlying73
    go_enter Try.func111, Try.ntmps111
    go_wp2
    go_ret
    exact ⟨none, 0, rfl, World.ownsRow_nil _ _ _ _, Below.refl _ _⟩
  · have e0 : (w.alloc (.cells #[] 9)).ownsRow w.heap.size 9 1 (.slice (some ⟨w.heap.size, 0, none⟩) 0 0) 0 [] := World.ownsRow_lit w #[] 0 (Nat.le_refl _) (by unfold maxLen; omega) rfl
    have hB0 : Below w.heap.size w (w.alloc (.cells #[] 9)) := (Below.refl _ w).alloc (Nat.le_refl _) _
    have hq := fun W => run_eq_nilN (P := Try.prog) W 73 9 (some ad) l.length c Try.underlying73
    go_enter Try.func111, Try.ntmps111
    go_wp2_with (at_builtin; refine wp_appG rfl elStr (.tmp 5) (.tmp 6) rfl w.heap.size (.slice (some ⟨w.heap.size, 0, none⟩) 0 0) 0 [] rfl e0 _ _ l.length c (skC l) rfl (h.grow hB0) (by unfold maxLen; omega) (by omega) hB0.size ?_; intro v5 w5 own5 hg5)
    go_ret
    rw [Nat.zero_add, List.nil_append] at own5
    obtain ⟨A5, c5, rfl, _⟩ := ownG_in own5 (skC_one _)
    exact ⟨A5, c5, rfl, own5, hB0.trans (grown_below hg5 hB0.size (ownG_ge e0))⟩
theorem wpIn_scope_wideN {P : Program} {n : Nat} {c : Code} {Q : Exit → Act → World → Prop} {a : Act} {w : World} (h : c.wpIn Fence.wide n P (Exit.noGoto Q) a w) : (Code.scope c).wpIn Fence.wide n P Q a w := wpIn_wide.2 (wp_scope_straight (wpIn_wide.1 h))
/-- The first k keys, each with its number. -/
def kpairs (ks : List ByteArray) : Nat → List (Nat × ByteArray)
  | 0 => []
  | k + 1 => kpairs ks k ++ (match ks[k]? with | some s => [(k, s)] | none => [])
theorem kpairs_next (ks : List ByteArray) (k : Nat) (h : k < ks.length) : kpairs ks (k + 1) = kpairs ks k ++ [(k, ks[k])] := by
  show kpairs ks k ++ _ = _
  rw [List.getElem?_eq_getElem h]
theorem kpairs_length (ks : List ByteArray) : ∀ k, k ≤ ks.length → (kpairs ks k).length = k
  | 0, _ => rfl
  | k + 1, h => by
    rw [kpairs_next ks k (by omega), List.length_append, kpairs_length ks k (by omega)]
    rfl
/-- node.Keys keeps a copy of the keys in a block. -/
def KeysFn (w : World) (l : List ByteArray) (e : Ending) (w' : World) : Prop := ∃ g A c, e = .returned (.func (.func 112) #[] #[.pointer (some ⟨g, 0, none⟩)]) ∧ BlkIs w' g 73 #[.slice A l.length c] ∧ InG w' w'.heap.size 1 A l.length c (skC l) ∧ Below w.heap.size w w'
set_option maxRecDepth 100000 in
set_option maxHeartbeats 1000000 in
theorem nodeKeys_gives (w : World) (x : Nod) (Ac : Option Addr) (cc : Nat) (Ak : Option Addr) (ck : Nat) (Ai : Option Addr) (ci : Nat) (h : NIs w w.heap.size x Ac cc Ak ck Ai ci) (hl : x.cells.length ≤ 1000000) (hl2 : (nkeys x).length ≤ 1000000) :
    Calls Try.prog 51 #[.agg (nodC x Ac cc Ak ck Ai ci)] w (KeysFn w (nkeys x)) := by
  have b0 := BlkIs.new w 76 (nodC x Ac cc Ak ck Ai ci)
  have hB : Below w.heap.size w (w.alloc (.cells (nodC x Ac cc Ak ck Ai ci) 76)) := (Below.refl _ w).alloc (Nat.le_refl _) _
  have HK := keys_gives _ x Ac cc Ak ck Ai ci (h.grow hB) hl
  unfold KeysFn
  generalize nkeys x = ks at *
  unfold nodC at *
  go_enter Try.func51, Try.ntmps51
  go_wp2_with (first
    | (refine wp_loadW rfl 76 (.tmp 1) rfl w.heap.size rfl rowNod b0 (by rfl) ?_)
    | (go_at_call 110; refine HK.mono ?_; rintro e w2 ⟨A, c, rfl, hin, hB2⟩)
    | (go_at_call 111; refine (sclone_gives w2 A c ks hin hl2).mono ?_; rintro e w3 ⟨A3, c3, rfl, own3, hB3⟩))
  obtain ⟨A', c', e, hin3⟩ := ownG_in own3 (skC_one _)
  injection e with e1 e2 e3
  subst e1 e3
  go_ret
  have ha := (Below.refl w3.heap.size w3).alloc (Nat.le_refl _) (.cells #[.slice A3 ks.length c3] 73)
  have hB02 := hB.trans (hB2.mono hB.size)
  have hB03 := hB02.trans (hB3.mono hB02.size)
  exact ⟨w3.heap.size, A3, c3, rfl, BlkIs.new _ _ _, hin3.grow ha, hB03.trans (ha.mono hB03.size)⟩

set_option maxRecDepth 100000 in
set_option maxHeartbeats 4000000 in
theorem keys1_in (n : Nat) (hn2 : 2 ≤ n) (l Bs n₀ : Nat) (A : Option Addr) (c : Nat) (ks : List ByteArray) (J Jx : List (Nat × ByteArray) → World → Prop)
    (hY : ∀ pre (x : Nat × ByteArray) W, J pre W → pre.length < ks.length → YieldAt Fence.wide (n - 1) Try.prog l #[.int .i64 (x.1 : Int), .string x.2] W fun e W' =>
      (e = .returned (.bool true) ∧ J (pre ++ [x]) W' ∧ Below n₀ W W') ∨ (e = .returned (.bool false) ∧ Jx (pre ++ [x]) W'))
    (W : World) (hBn : Bs < n₀) (hBs : W.cell? ⟨Bs, 0, none⟩ = some (.slice A ks.length c)) (hin : InG W n₀ 1 A ks.length c (skC ks)) (h0 : J [] W) :
    CallsIn Fence.wide n Try.prog 112 #[.func (.yield l) #[] #[], .pointer (some ⟨Bs, 0, none⟩)] W fun e W' => (∃ v, e = .returned v) ∧
      ((∃ ys, ys = kpairs ks ks.length ∧ J ys W') ∨ (∃ pre, (∃ k, k ≤ ks.length ∧ 0 < k ∧ pre = kpairs ks k) ∧ Jx pre W')) := by
  have hle := hin.le
  have hmax := hin.max
  have h1 : 1 ≤ n := by omega
  refine callsIn_of_wp Try.func112 rfl trivial ?_ rfl
  simp only [Try.ntmps112, List.size_toArray, List.length_cons, List.length_nil, Nat.reduceAdd, Nat.reduceSub, Array.replicate_succ, Array.replicate_zero, List.push_toArray, List.append_toArray, List.nil_append, List.cons_append]
  refine wpIn_scope_wideN ?_
  gi_wp2
  refine wpIn_label ?_
  gi_wp2
  gi_loopw [7] (fun i wr => ∃ (k : Nat), k ≤ ks.length ∧ i = .int .i64 k ∧ J (kpairs ks k) wr ∧ Below n₀ W wr)
    (fun i _ => ks.length - (intOf i).toNat)
  case atStart => exact ⟨0, by omega, rfl, h0, Below.refl _ _⟩
  case round =>
    obtain ⟨k, hk, rfl, hJs, hnx⟩ := hrel
    by_cases hlt : k < ks.length
    · obtain ⟨g, o, rfl, hg, _⟩ := hin.lies (by omega)
      have d0 : wr.cell? ⟨g, o + k, none⟩ = some (.string ks[k]) := (hnx.cell (p := ⟨g, o + k, none⟩) hg).trans (str_at hin rfl k hlt)
      have hnx2 : kpairs ks (k + 1) = kpairs ks k ++ [(k, ks[k])] := kpairs_next ks k hlt
      obtain ⟨fn, tmps, assign, body, hy, hR⟩ := hY (kpairs ks k) (k, ks[k]) wr hJs (by rw [kpairs_length ks k hk]; exact hlt)
      generalize ks[k] = s at *
      have hwk : IntKind.i64.wrap ((k : Int) + 1) = (k : Int) + 1 := wrapN _ (by omega) (by omega)
      have HN := Lib.hid hnx2
      clear hnx2 hJs
      gi_wp2
      refine hR.mono ?_
      rintro e W3 (⟨rfl, hJ3, hk3⟩ | ⟨rfl, hJx3⟩)
      · gi_wp2
        go_roundw
        case rel => exact ⟨k + 1, by omega, by simp, by rw [HN.out]; exact hJ3, hnx.trans hk3⟩
        case measure => simp [intOf]; omega
      · gi_wp2
        simp only [Exit.noGoto]
        go_end0
        exact ⟨⟨_, rfl⟩, .inr ⟨_, ⟨k + 1, by omega, by omega, HN.out.symm⟩, hJx3⟩⟩
    · obtain rfl : k = ks.length := by omega
      gi_wp2
      simp only [Exit.noGoto]
      go_end0
      exact ⟨⟨_, rfl⟩, .inl ⟨_, rfl, hJs⟩⟩
theorem keys1_stops (n : Nat) (hn2 : 2 ≤ n) (Bs n₀ : Nat) (A : Option Addr) (c : Nat) (ks : List ByteArray) (w : World) (hBn : Bs < n₀) (hn0 : n₀ ≤ w.heap.size) (hc : w.cell? ⟨Bs, 0, none⟩ = some (.slice A ks.length c)) (hin : InG w n₀ 1 A ks.length c (skC ks)) :
    SeqStopsK Fence.wide n Try.prog 112 #[.pointer (some ⟨Bs, 0, none⟩)] (fun x : Nat × ByteArray => #[.int .i64 (x.1 : Int), .string x.2]) (Below n₀)
      (fun ys => ys = kpairs ks ks.length) (fun pre => ∃ k, k ≤ ks.length ∧ 0 < k ∧ pre = kpairs ks k) ks.length w := fun l J Jx W hW _ _ hY h0 =>
  keys1_in n hn2 l Bs n₀ A c ks J Jx hY W hBn ((hW.cell (p := ⟨Bs, 0, none⟩) (by show Bs < _; omega)).trans hc) (hin.below (hW.mono hn0)) h0
end Go.Proofs.Ytlelckdcmlpmdaa
/- node.check, where a node may be. -/
namespace Go.Proofs.Ytlelckdcmlpmdaa
open Go Go.RowKit Lou

/-- A node that may be. -/
structure RightP (x : Nod) : Prop where
  sorted : SortedS (nkeys x)
  apart : ApartS (nkeys x)
  short : ∀ s ∈ nkeys x, shortS s = true
  leaf : x.leaf = true → x.keys = [] ∧ x.kids = [] ∧ ∀ c ∈ x.cells, rightB c = true
  inner : x.leaf = false → x.cells = [] ∧ 0 < x.keys.length ∧ x.kids.length = x.keys.length + 1 ∧ ∀ i ∈ x.kids, pageB i = true
def Void (w : World) (e : Ending) (w' : World) : Prop := (∃ v, e = .returned v) ∧ Below w.heap.size w w'
set_option maxHeartbeats 1000000 in
theorem must_ok (w : World) (e : Int) : Calls Try.prog 115 #[.bool true, .int .i64 e] w fun e w' => (∃ v, e = .returned v) ∧ w = w' := by
  go_enter Try.func115, Try.ntmps115
  go_wp2
  go_end0
  exact ⟨⟨_, rfl⟩, rfl⟩
set_option maxRecDepth 100000 in
set_option maxHeartbeats 2000000 in
theorem check_ok (w : World) (x : Nod) (Ac : Option Addr) (cc : Nat) (Ak : Option Addr) (ck : Nat) (Ai : Option Addr) (ci : Nat) (h : NIs w w.heap.size x Ac cc Ak ck Ai ci) (hl : x.cells.length ≤ 1000000) (hl2 : x.keys.length ≤ 1000000) (hl3 : x.kids.length ≤ 1000000) (hR : RightP x) :
    Calls Try.prog 169 #[.agg (nodC x Ac cc Ak ck Ai ci)] w (Void w) := by
  have b0 := BlkIs.new w 76 (nodC x Ac cc Ak ck Ai ci)
  have hB : Below w.heap.size w (w.alloc (.cells (nodC x Ac cc Ak ck Ai ci) 76)) := (Below.refl _ w).alloc (Nat.le_refl _) _
  have h1 := h.grow hB
  have HK := keys_gives _ x Ac cc Ak ck Ai ci h1 hl
  have hln := nkeys_len hl hl2
  obtain ⟨hso, hap, hsh, hlf, hin⟩ := hR
  generalize nkeys x = ks at *
  unfold Void
  obtain ⟨leaf, cells, keys, kids⟩ := x
  unfold nodC at *
  simp only at *
  have HSO := Lib.hid hso
  have HAP := Lib.hid hap
  have HSH := Lib.hid hsh
  clear hso hap hsh
  cases leaf with
  | true =>
    obtain ⟨rfl, rfl, hcr⟩ := hlf rfl
    have HCR := Lib.hid hcr
    clear hlf hin hcr
    go_enter Try.func169, Try.ntmps169
    go_wp2_with (first
      | (refine wp_loadW rfl 76 (.tmp 1) rfl w.heap.size rfl rowNod b0 (by rfl) ?_)
      | (go_at_call 110; refine HK.mono ?_; rintro e w2 ⟨A, c, rfl, hin2, hB2⟩)
      | (go_at_call 193; refine (sortedS_gives w2 A c ks hin2 hln).mono ?_; rintro e w3 ⟨r3, rfl, hB3, hr3⟩; obtain rfl : r3 = true := hr3.2 HSO.out; clear hr3)
      | (go_at_call 111; refine (sclone_gives w3 A c ks (hin2.grow hB3) hln).mono ?_; rintro e w4 ⟨A4, c4, rfl, own4, hB4⟩)
      | (go_at_call 194; obtain ⟨A5, c5, e5, hin4⟩ := ownG_in own4 (skC_one _); injection e5 with e51 e52 e53; subst e51 e53; refine (compact_same w4 A4 c4 ks hin4 hln HAP.out).mono ?_; rintro e w5 ⟨rfl, hB5⟩)
      | (go_at_call 195; refine (eachS_gives w5 A c ks ((((hin2.grow hB3).grow hB4)).grow hB5) hln).mono ?_; rintro e w6 ⟨r6, rfl, hB6, hr6⟩; obtain rfl : r6 = true := hr6.2 HSH.out; clear hr6; have hB16 := hB2.trans ((hB3.trans ((hB4.trans ((hB5.trans (hB6.mono hB5.size)).mono hB4.size)).mono hB3.size)).mono hB2.size); have b6 := b0.below hB16 b0.lt; have k0 : w6.cell? ⟨w.heap.size, 0, none⟩ = some (.bool true) := (by rw [b6.cell]; rfl); have k1 : w6.cell? ⟨w.heap.size, 1, none⟩ = some (.slice Ac cells.length cc) := (by rw [b6.cell]; rfl); have k2 : w6.cell? ⟨w.heap.size, 2, none⟩ = some (.slice Ak 0 ck) := (by rw [b6.cell]; rfl); have k3 : w6.cell? ⟨w.heap.size, 3, none⟩ = some (.slice Ai 0 ci) := (by rw [b6.cell]; rfl))
      | (go_at_call 197; refine (eachC_gives w6 Ac cc cells (h1.c.grow hB16) hl).mono ?_; rintro e w8 ⟨r8, rfl, hB8, hr8⟩; obtain rfl : r8 = true := hr8.2 HCR.out; clear hr8)
      | (go_at_call 115; refine (must_ok _ _).mono ?_; rintro e w7 ⟨⟨v7, rfl⟩, rfl⟩))
    exact bodyPost_ret (results_none rfl _ _ _) rfl ⟨⟨_, rfl⟩, (hB.trans (hB16.mono hB.size)).trans (hB8.mono (hB.trans (hB16.mono hB.size)).size)⟩
  | false =>
    obtain ⟨rfl, hk0, hik, hpg⟩ := hin rfl
    have HCR := Lib.hid hpg
    have g1 : (0 : Int) < (keys.length : Int) := by omega
    have g2 : IntKind.i64.wrap ((keys.length : Int) + 1) = (kids.length : Int) := by rw [wrapN _ (by omega) (by omega)]; omega
    clear hlf hin hpg hk0 hik
    go_enter Try.func169, Try.ntmps169
    go_wp2_with (first
      | (refine wp_loadW rfl 76 (.tmp 1) rfl w.heap.size rfl rowNod b0 (by rfl) ?_)
      | (go_at_call 110; refine HK.mono ?_; rintro e w2 ⟨A, c, rfl, hin2, hB2⟩)
      | (go_at_call 193; refine (sortedS_gives w2 A c ks hin2 hln).mono ?_; rintro e w3 ⟨r3, rfl, hB3, hr3⟩; obtain rfl : r3 = true := hr3.2 HSO.out; clear hr3)
      | (go_at_call 111; refine (sclone_gives w3 A c ks (hin2.grow hB3) hln).mono ?_; rintro e w4 ⟨A4, c4, rfl, own4, hB4⟩)
      | (go_at_call 194; obtain ⟨A5, c5, e5, hin4⟩ := ownG_in own4 (skC_one _); injection e5 with e51 e52 e53; subst e51 e53; refine (compact_same w4 A4 c4 ks hin4 hln HAP.out).mono ?_; rintro e w5 ⟨rfl, hB5⟩)
      | (go_at_call 195; refine (eachS_gives w5 A c ks ((((hin2.grow hB3).grow hB4)).grow hB5) hln).mono ?_; rintro e w6 ⟨r6, rfl, hB6, hr6⟩; obtain rfl : r6 = true := hr6.2 HSH.out; clear hr6; have hB16 := hB2.trans ((hB3.trans ((hB4.trans ((hB5.trans (hB6.mono hB5.size)).mono hB4.size)).mono hB3.size)).mono hB2.size); have b6 := b0.below hB16 b0.lt; have k0 : w6.cell? ⟨w.heap.size, 0, none⟩ = some (.bool false) := (by rw [b6.cell]; rfl); have k1 : w6.cell? ⟨w.heap.size, 1, none⟩ = some (.slice Ac 0 cc) := (by rw [b6.cell]; rfl); have k2 : w6.cell? ⟨w.heap.size, 2, none⟩ = some (.slice Ak keys.length ck) := (by rw [b6.cell]; rfl); have k3 : w6.cell? ⟨w.heap.size, 3, none⟩ = some (.slice Ai kids.length ci) := (by rw [b6.cell]; rfl))
      | (go_at_call 199; refine (eachI_gives w6 Ai ci kids (h1.i.grow hB16) hl3).mono ?_; rintro e w8 ⟨r8, rfl, hB8, hr8⟩; obtain rfl : r8 = true := hr8.2 HCR.out; clear hr8)
      | (go_at_call 115; refine (must_ok _ _).mono ?_; rintro e w7 ⟨⟨v7, rfl⟩, rfl⟩))
    go_end0
    exact ⟨⟨_, rfl⟩, (hB.trans (hB16.mono hB.size)).trans (hB8.mono (hB.trans (hB16.mono hB.size)).size)⟩
end Go.Proofs.Ytlelckdcmlpmdaa
/- frame: within (slices.ContainsFunc over ints), Check, place, Sectors, FrameAt, PageAt. -/
namespace Go.Proofs.Ytlelckdcmlpmdaa
open Go Go.RowKit Lou

/-- Numbers that lie in a row. -/
structure InN (w : World) (A : Option Addr) (xs : List Int) : Prop where
  lies : 0 < xs.length → ∃ g o, A = some ⟨g, o, none⟩ ∧ ∀ j (h : j < xs.length), w.cell? ⟨g, o + j, none⟩ = some (.int .i64 xs[j])

theorem wrap_i64_fr (n : Int) (h0 : -9223372036854775808 ≤ n) (h1 : n < 9223372036854775808) : IntKind.i64.wrap n = n := by
  simp [IntKind.wrap, IntKind.bits, IntKind.signed]
  split <;> omega

set_option maxRecDepth 100000 in
set_option maxHeartbeats 1000000 in
theorem indexFunc_gives (w : World) (A : Option Addr) (c : Nat) (xs : List Int) (h : InN w A xs) (hmax : xs.length ≤ 9223372036854775807) (p : Int → Bool) (f : FuncId) (lb : Array Value) (ef : ∀ args w, (callFunc f args).run Try.prog w = .ok (.enter f args) w)
    (hf : ∀ x, Calls Try.prog f (#[.int .i64 x] ++ lb) w fun e w' => e = .returned (.bool (p x)) ∧ w = w') :
    Calls Try.prog 201 #[.slice A xs.length c, .func (.func f) #[] lb] w fun e w' => (∃ k : Int, e = .returned (.int .i64 k) ∧ decide (0 ≤ k) = xs.any p) ∧ w = w' := by
  go_enter Try.func201, Try.ntmps201
  go_wp2_with fail
  go_loop [8] (fun i => ∃ k : Nat, k ≤ xs.length ∧ i = .int .i64 k ∧ Hid ((xs.take k).any p = false)) (fun i => xs.length - (intOf i).toNat)
  case atStart => exact ⟨0, Nat.zero_le _, rfl, Lib.hid (by simp)⟩
  case round =>
    obtain ⟨k, hk, rfl, hno⟩ := hrel
    by_cases hlt : k < xs.length
    · obtain ⟨g, o, rfl, hc⟩ := h.lies (by omega)
      have hck := hc k hlt
      have H := hf xs[k]
      clear hc hf
      have hk1 : IntKind.i64.wrap ((k : Int) + 1) = (k : Int) + 1 := wrap_i64_fr _ (by omega) (by omega)
      have hnext : p xs[k] = false → (xs.take (k + 1)).any p = false := by
        intro hp
        rw [List.take_succ_eq_append_getElem hlt, List.any_append, hno.out]
        simp [hp]
      have hyes : p xs[k] = true → xs.any p = true := fun hp => List.any_eq_true.2 ⟨xs[k], List.getElem_mem hlt, hp⟩
      cases hp : p xs[k] with
      | true =>
        have hy := hyes hp
        rw [hp] at H
        go_wp2_with fail
        refine H.mono ?_
        clear H
        rintro e w' ⟨rfl, rfl⟩
        go_wp2
        go_ret
        exact ⟨⟨(k : Int), rfl, by rw [hy]; simp⟩, rfl⟩
      | false =>
        have hn := Lib.hid (hnext hp)
        rw [hp] at H
        clear hnext hyes
        go_wp2_with fail
        refine H.mono ?_
        clear H
        rintro e w' ⟨rfl, rfl⟩
        go_wp2
        refine ⟨⟨k + 1, by omega, by go_num, hn⟩, by simp [intOf]; omega⟩
    · obtain rfl : k = xs.length := by omega
      have hn := hno.out
      rw [List.take_length] at hn
      have hN := Lib.hid hn
      clear hn hno hf
      go_wp2
      go_ret
      exact ⟨⟨-1, rfl, by rw [hN.out]; simp⟩, rfl⟩

set_option maxRecDepth 100000 in
set_option maxHeartbeats 1000000 in
theorem within1_gives (w : World) (a b : Addr) (lo hi x : Int) (ha : w.cell? a = some (.int .i64 lo)) (hb : w.cell? b = some (.int .i64 hi)) :
    Calls Try.prog 174 (#[.int .i64 x] ++ #[.pointer (some a), .pointer (some b)]) w fun e w' => e = .returned (.bool (decide (x < lo) || decide (hi < x))) ∧ w = w' := by
  by_cases h1 : x < lo
  · go_enter Try.func174, Try.ntmps174
    go_wp2
    go_ret
    exact ⟨by simp [h1], rfl⟩
  · go_enter Try.func174, Try.ntmps174
    go_wp2
    go_ret
    have h2 : decide (x < lo) = false := decide_eq_false (by omega)
    exact ⟨by rw [h2, Bool.false_or]; rfl, rfl⟩

def isIn (lo hi : Int) (xs : List Int) : Bool := !xs.any (fun x => decide (x < lo) || decide (hi < x))
theorem isIn_one (lo hi x : Int) : isIn lo hi [x] = decide (lo ≤ x ∧ x ≤ hi) := by
  simp only [isIn, List.any_cons, List.any_nil, Bool.or_false]
  by_cases h1 : x < lo <;> by_cases h2 : hi < x <;> simp [h1, h2] <;> omega
theorem isIn_two (lo hi x y : Int) : isIn lo hi [x, y] = (isIn lo hi [x] && isIn lo hi [y]) := by
  simp [isIn, Bool.not_or]

set_option maxRecDepth 100000 in
set_option maxHeartbeats 1000000 in
theorem within_gives (w : World) (A : Option Addr) (c : Nat) (xs : List Int) (h : InN w A xs) (hA : ∀ g o, A = some ⟨g, o, none⟩ → g < w.heap.size) (hmax : xs.length ≤ 9223372036854775807) (lo hi : Int) :
    Calls Try.prog 126 #[.int .i64 lo, .int .i64 hi, .slice A xs.length c] w fun e w' => e = .returned (.bool (isIn lo hi xs)) ∧ Below w.heap.size w w' := by
  have hb : Below w.heap.size w ((w.alloc (.cells #[.int .i64 lo] 3)).alloc (.cells #[.int .i64 hi] 3)) := ((Below.refl _ _).alloc (Nat.le_refl _) _).alloc (by simp) _
  have b0 := (BlkIs.new w 3 #[.int .i64 lo]).alloc (.cells #[.int .i64 hi] 3)
  have b1 := BlkIs.new (w.alloc (.cells #[.int .i64 lo] 3)) 3 #[.int .i64 hi]
  rw [World.size_alloc] at b1
  have hin : InN ((w.alloc (.cells #[.int .i64 lo] 3)).alloc (.cells #[.int .i64 hi] 3)) A xs := ⟨fun hl => by
    obtain ⟨g, o, e, hc⟩ := h.lies hl
    exact ⟨g, o, e, fun j hj => (hb.cell (p := ⟨g, o + j, none⟩) (hA g o e)).trans (hc j hj)⟩⟩
  have H := indexFunc_gives _ A c xs hin hmax (fun x => decide (x < lo) || decide (hi < x)) 174 #[.pointer (some ⟨w.heap.size, 0, none⟩), .pointer (some ⟨w.heap.size + 1, 0, none⟩)] (enters_of Try.func174 (by kernel_rfl) rfl)
    (fun x => within1_gives _ _ _ lo hi x b0.boxed b1.boxed)
  have H2 : Calls Try.prog 173 #[.slice A xs.length c, .func (.func 174) #[] #[.pointer (some ⟨w.heap.size, 0, none⟩), .pointer (some ⟨w.heap.size + 1, 0, none⟩)]] ((w.alloc (.cells #[.int .i64 lo] 3)).alloc (.cells #[.int .i64 hi] 3))
      fun e w' => e = .returned (.bool (xs.any (fun x => decide (x < lo) || decide (hi < x)))) ∧ ((w.alloc (.cells #[.int .i64 lo] 3)).alloc (.cells #[.int .i64 hi] 3)) = w' := by
    go_enter Try.func173, Try.ntmps173
    go_wp2_with fail
    refine H.mono ?_
    rintro e w' ⟨⟨k, rfl, hk⟩, rfl⟩
    have hK := Lib.hid hk
    clear hk
    go_wp2
    go_ret
    exact ⟨congrArg (fun b => Ending.returned (.bool b)) hK.out, rfl⟩
  clear H
  go_enter Try.func126, Try.ntmps126
  go_wp2_with fail
  refine H2.mono ?_
  rintro e w' ⟨rfl, rfl⟩
  go_wp2
  go_ret
  exact ⟨rfl, hb⟩
end Go.Proofs.Ytlelckdcmlpmdaa
/- slices.Grow, Concat, Repeat, Clone over bytes. -/
namespace Go.Proofs.Ytlelckdcmlpmdaa
open Go Go.RowKit Lou

set_option maxRecDepth 100000 in
set_option maxHeartbeats 1000000 in
theorem grow_gives (n : Nat) (hn : n ≤ 140737488355328) (w : World) : Calls Try.prog 184 #[.slice none 0 0, .int .i64 n] w (GivesB w []) := by
  obtain ⟨i0, hi, hz0, hz1, hz2⟩ := info_parts inf_u8
  have e0 : IntKind.i64.wrap ((n : Int) - 0) = (n : Int) := by rw [wrap_i64_fr _ (by omega) (by omega)]; omega
  have e1 : IntKind.i64.wrap (n : Int) = (n : Int) := wrap_i64_fr _ (by omega) (by omega)
  by_cases h0 : 0 < n
  · have hr := Lib.run_append_nil_zeros (P := Try.prog) w 30 3 30 5 i0 (.int .u8 0) .i64 .i64 Try.underlying30 Try.underlying3 hi hz0 n h0 (by omega) (by omega) (by rw [hz2]; omega)
    have hcap := grownCap_le_maxLen w n 0 5 (by unfold maxLen; omega)
    have hcap' : grownCap w n 0 5 ≤ 9223372036854775807 := by unfold maxLen at hcap; omega
    have hge := grownCap_ge w n 0 5
    go_enter Try.func184, Try.ntmps184
    generalize grownCap w n 0 5 = cap at *
    generalize hcur : Builtin.zeroCells (Value.int .u8 0).cells n ++ Builtin.zeroCells (Value.int .u8 0).cells (cap - n) = cur at *
    go_wp2_with (at_builtin; refine Lib.wpList_append_run _ rfl (.tmp 20) (.tmp 21) _ _ rfl _ _ rfl rfl _ _ hr ?_)
    go_ret
    have hB0 : Below w.heap.size w (w.drew.alloc (.cells cur 5)) := ((Below.refl _ w).drew).alloc (Nat.le_refl _) _
    refine ⟨_, rfl, ⟨by simp, .inr ⟨w.heap.size, cap, cur, rfl, Nat.le_refl _, heap_alloc_new w.drew _, Nat.zero_le _, hcap, ?_, by simp⟩⟩, hB0⟩
    rw [← hcur, Array.size_append, size_zeroCells, size_zeroCells]
    simp [Value.cells]
    omega
  · obtain rfl : n = 0 := by omega
    go_enter Try.func184, Try.ntmps184
    go_wp2
    go_ret
    exact ⟨_, rfl, OwnB.nil _ _, Below.refl _ _⟩

theorem take_flat (ls : List (List UInt8)) (k : Nat) (h : k < ls.length) : (ls.take (k + 1)).flatten = (ls.take k).flatten ++ ls[k] := by
  rw [List.take_succ_eq_append_getElem h, List.flatten_append]
  simp
theorem flat_le (ls : List (List UInt8)) (k : Nat) : (ls.take k).flatten.length ≤ ls.flatten.length := by
  have : ls.flatten = (ls.take k).flatten ++ (ls.drop k).flatten := by rw [← List.flatten_append, List.take_append_drop]
  rw [this, List.length_append]
  omega

set_option maxRecDepth 100000 in
set_option maxHeartbeats 2000000 in
theorem concat_gives (w : World) (A : Option Addr) (c : Nat) (zs : List (Piece w w.heap.size)) (hI : InLL w w.heap.size A c zs) (hmax : (zs.map Piece.l).flatten.length ≤ 1000000000) :
    Calls Try.prog 142 #[.slice A zs.length c] w (GivesB w (zs.map Piece.l).flatten) := by
  have hle := hI.le
  have hmx := hI.max
  have hfl := fun k => flat_le (zs.map Piece.l) k
  have hnx : ∀ k (h : k < zs.length), ((zs.map Piece.l).take (k + 1)).flatten = ((zs.map Piece.l).take k).flatten ++ zs[k].1.2 := fun k h => by
    rw [take_flat _ _ (by simpa using h)]
    simp [Piece.l]
  have hall : ((zs.map Piece.l).take zs.length).flatten = (zs.map Piece.l).flatten := by rw [List.take_of_length_le (by simp)]
  generalize zs.map Piece.l = ls at *
  have HX := Lib.hid hnx
  have HA := Lib.hid hall
  clear hnx hall
  have hs0 : (ls.take 0).flatten = [] := by simp
  go_enter Try.func142, Try.ntmps142
  go_wp2_with fail
  go_loop [3, 11] (fun s i => ∃ k t : Nat, k ≤ zs.length ∧ i = .int .i64 k ∧ s = .int .i64 t ∧ t ≤ 1000000000 ∧ Hid (t = (ls.take k).flatten.length)) (fun _ i => zs.length - (intOf i).toNat)
  case atStart => exact ⟨0, 0, Nat.zero_le _, rfl, rfl, by omega, Lib.hid (by simp)⟩
  case round =>
    obtain ⟨k, t, hk, rfl, rfl, ht, hT⟩ := hrel
    by_cases hlt : k < zs.length
    · obtain ⟨g, o, rfl, hg, hc⟩ := hI.lies (by omega)
      have hck := hc k hlt
      have hval : zs[k].val = .slice zs[k].1.1.1 zs[k].1.2.length zs[k].1.1.2 := rfl
      rw [hval] at hck
      have hnext : t + zs[k].1.2.length = (ls.take (k + 1)).flatten.length := by rw [HX.out k hlt, List.length_append, hT.out]
      have hbd := hfl (k + 1)
      have hN := Lib.hid hnext
      have hbd2 : t + zs[k].1.2.length ≤ 1000000000 := by omega
      have hwr : IntKind.i64.wrap ((t : Int) + (zs[k].1.2.length : Int)) = (t : Int) + (zs[k].1.2.length : Int) := wrap_i64_fr _ (by omega) (by omega)
      clear hc hval hnext hbd hfl
      go_wp2_with fail
      exact ⟨⟨k + 1, t + zs[k].1.2.length, by omega, by simp, by simp, hbd2, hN⟩, by simp [intOf]; omega⟩
    · obtain rfl : k = zs.length := by omega
      go_wp2_with fail
      refine (grow_gives t (by omega) _).mono ?_
      rintro e w1 ⟨v, rfl, hown, hB⟩
      go_wp2_with fail
      go_loopw [6, 27] (fun v i wr => ∃ k : Nat, k ≤ zs.length ∧ i = .int .i64 k ∧ OwnB wr w.heap.size v (ls.take k).flatten ∧ Below w.heap.size w wr) (fun _ i _ => zs.length - (intOf i).toNat)
      case atStart => exact ⟨0, Nat.zero_le _, rfl, by simpa using hown, hB⟩
      case round =>
        obtain ⟨k, hk, rfl, hown, hB⟩ := hrel
        have hBs := hB.size
        by_cases hlt : k < zs.length
        · obtain ⟨g, o, rfl, hg, hc⟩ := hI.lies (by omega)
          have hck := (hB.cell (p := ⟨g, o + k, none⟩) hg).trans (hc k hlt)
          have hval : zs[k].val = .slice zs[k].1.1.1 zs[k].1.2.length zs[k].1.1.2 := rfl
          rw [hval] at hck
          have hz := (zs[k].2.below hB).more hBs
          have hbd := hfl (k + 1)
          rw [HX.out k hlt, List.length_append] at hbd
          clear hc hval hfl
          have t1 : (ls.take k).flatten.length + zs[k].1.2.length ≤ 140737488355328 := by omega
          go_wp2_with (at_builtin; refine wp_appB rfl (.tmp 31) (.tmp 32) rfl w.heap.size u6 (ls.take k).flatten (by rfl) hown wr.heap.size zs[k].1.1.1 zs[k].1.1.2 zs[k].1.2 (by rfl) hz t1 hBs ?_; intro v' w2 hown2 hg2; have hB2 := hown.below hB hg2)
          refine ⟨⟨k + 1, by omega, by simp, by rw [HX.out k hlt]; exact hown2, hB2⟩, by simp [intOf]; omega⟩
        · obtain rfl : k = zs.length := by omega
          go_wp2
          go_ret
          rw [HA.out] at hown
          exact ⟨_, rfl, hown, hB⟩
end Go.Proofs.Ytlelckdcmlpmdaa
/- A region that draws its order, by facts: one predicate a slot, each operation shown once, whatever the order. -/
namespace Go.Proofs.Ytlelckdcmlpmdaa
open Go Go.RowKit

/-- The world has grown: what lay lies as it lay. -/
def Grow (w w' : World) : Prop := Below w.heap.size w w'
theorem Grow.refl (w : World) : Grow w w := Below.refl _ _
theorem Grow.trans {a b c : World} (h : Grow a b) (k : Grow b c) : Grow a c := Below.trans h (Below.mono k h.size)
theorem Grow.drew (w : World) : Grow w w.drew := (Below.refl _ _).drew
theorem Grow.alloc (w : World) (o : Obj) : Grow w (w.alloc o) := (Below.refl _ _).alloc (Nat.le_refl _) o

namespace Reg
variable {P : Program} {ops : Array Oper} {FS : Tmp → Value → World → Prop}

/-- What is known of an operation's slot. -/
def FSd (FS : Tmp → Value → World → Prop) : Option Tmp → Value → World → Prop
  | some d, v, w => FS d v w
  | none, _, _ => True

/-- An operation is in order: from what is known of the slots that it looks at, it comes to what is claimed of its own. -/
def OpOk (P : Program) (ops : Array Oper) (FS : Tmp → Value → World → Prop) (w0 : World) (o : Oper) : Prop :=
  ∀ (a : Act) (w : World) (K : Act → World → Prop) (Q : Exit → Act → World → Prop), Grow w0 w → (∀ t, (o.looksAt ops).contains t = true → FS t (a.eval (.tmp t)) w) →
    (∀ v w', Grow w w' → FSd FS o.dst v w' → K (a.put o.dst v) w') →
    (if Region.wanted o (yielded ops a.tmps) then o.wp P a w K Q ∨ (o.asks P a w ∧ LetsOut Q) else K (a.put o.dst undef) w)

def AllOk (P : Program) (ops : Array Oper) (FS : Tmp → Value → World → Prop) (w0 : World) : List Oper → Prop
  | [] => True
  | o :: r => OpOk P ops FS w0 o ∧ AllOk P ops FS w0 r

theorem AllOk.get {w0 : World} : ∀ {l : List Oper}, AllOk P ops FS w0 l → ∀ o ∈ l, OpOk P ops FS w0 o
  | [], _, o, h => by cases h
  | x :: r, h, o, hm => by
    rcases List.mem_cons.1 hm with rfl | hm
    · exact h.1
    · exact AllOk.get h.2 o hm

/-- Each edge that binds leads back; each slot that an operation looks at and that the region writes is written by an operation that comes ahead by an edge. -/
def covered (ops : Array Oper) : Bool :=
  ops.toList.zipIdx.all fun (o, i) =>
    (o.after.toList.all fun e => !Region.binds .any e || decide (e.on < i)) &&
    (o.looksAt ops).all fun t => ops.toList.zipIdx.all fun (p, j) => p.dst != some t || (o.after.toList.any fun e => Region.binds .any e && e.on == j)

def Known (ops : Array Oper) (listed : Array Bool) (t : Tmp) : Prop := ∀ (j : Nat) (p : Oper), ops[j]? = some p → p.dst = some t → listed.getD j true = true

structure J (ops : Array Oper) (FS : Tmp → Value → World → Prop) (w0 : World) (n : Nat) (d : List Deferred) (listed : Array Bool) (a : Act) (w : World) : Prop where
  size : a.tmps.size = n
  defers : a.defers = d
  grow : Grow w0 w
  facts : ∀ t, Known ops listed t → FS t (a.eval (.tmp t)) w

theorem eval_put_same {a : Act} {d : Tmp} {v : Value} (h : d < a.tmps.size) : (a.put (some d) v).eval (.tmp d) = v := by
  simp [Act.put, Act.eval, h]
theorem eval_put_other {a : Act} {d t : Tmp} {v : Value} (h : t ≠ d) : (a.put (some d) v).eval (.tmp t) = a.eval (.tmp t) := by
  simp [Act.put, Act.eval, Array.getD_eq_getD_getElem?, Array.getElem?_setIfInBounds, Ne.symm h]

theorem ready_mem {i : Nat} {listed : Array Bool} (h : i ∈ Region.ready .any ops listed) : ∃ o, ops[i]? = some o ∧ listed.getD i true = false ∧ ∀ e ∈ o.after.toList, Region.binds .any e = true → listed.getD e.on false = true := by
  unfold Region.ready at h
  simp only [List.mem_filter, List.mem_range, Bool.and_eq_true, Bool.not_eq_true'] at h
  obtain ⟨hi, h1, h2⟩ := h
  cases ho : ops[i]? with
  | none => simp [ho] at h2
  | some o =>
    refine ⟨o, rfl, h1, ?_⟩
    simp only [ho, Option.map_some, Option.getD_some] at h2
    intro e he hb
    rw [Array.all_eq_true_iff_forall_mem] at h2
    have := h2 e (Array.mem_toList_iff.1 he)
    simpa [hb] using this

theorem covered_spec (h : covered ops = true) {i : Nat} {o : Oper} (ho : ops[i]? = some o) :
    (∀ e ∈ o.after.toList, Region.binds .any e = true → e.on < i) ∧
    (∀ t, (o.looksAt ops).contains t = true → ∀ (j : Nat) (p : Oper), ops[j]? = some p → p.dst = some t → ∃ e ∈ o.after.toList, Region.binds .any e = true ∧ e.on = j) := by
  unfold covered at h
  rw [List.all_eq_true] at h
  have hm : (o, i) ∈ ops.toList.zipIdx := by
    rw [List.mem_zipIdx_iff_getElem?]
    simpa using ho
  have := h _ hm
  simp only [Bool.and_eq_true, List.all_eq_true] at this
  obtain ⟨h1, h2⟩ := this
  constructor
  · intro e he hb
    have := h1 e he
    simpa [hb] using this
  · intro t ht j p hp hd
    have hp' : (p, j) ∈ ops.toList.zipIdx := by
      rw [List.mem_zipIdx_iff_getElem?]
      simpa using hp
    have := h2 t (by simpa using ht) _ hp'
    simp only [hd, bne_self_eq_false, Bool.false_or, List.any_eq_true, Bool.and_eq_true, beq_iff_eq] at this
    obtain ⟨e, he, hb, hj⟩ := this
    exact ⟨e, he, hb, hj⟩

/-- The number of operations that are still to come. -/
def left (listed : Array Bool) : Nat := (listed.toList.filter (! ·)).length

theorem region_wpAny (hm : P.follows .mixedOrders = true) (hcov : covered ops = true) {a0 : Act} {w0 : World} {Q : Exit → Act → World → Prop} (n : Nat) (hn : a0.tmps.size = n)
    (hdst : ∀ o ∈ ops.toList, ∀ d, o.dst = some d → d < n) (FS : Tmp → Value → World → Prop)
    (hstab : ∀ t v w w', FS t v w → Grow w w' → FS t v w')
    (hstart : ∀ t, (∀ o ∈ ops.toList, o.dst ≠ some t) → FS t (a0.eval (.tmp t)) w0)
    (hok : AllOk P ops FS w0 ops.toList)
    (hend : ∀ a w, a.tmps.size = n → a.defers = a0.defers → Grow w0 w → (∀ t, FS t (a.eval (.tmp t)) w) → Q .normal a w) :
    wpAny P .any ops Q ops.size (Array.replicate ops.size false) a0 { w0 with drawn := w0.drawn + 1 } := by
  have key : ∀ (fuel : Nat) (listed : Array Bool) (a : Act) (w : World), listed.size = ops.size → left listed ≤ fuel → J ops FS w0 n a0.defers listed a w → wpAny P .any ops Q fuel listed a w := by
    intro fuel
    have hdone : ∀ (listed : Array Bool) (a : Act) (w : World), listed.size = ops.size → J ops FS w0 n a0.defers listed a w → Region.ready .any ops listed = [] → Q .normal a w := by
      intro listed a w hs hJ hr
      have hall : ∀ i, i < ops.size → listed.getD i true = true := by
        intro i
        induction i using Nat.strongRecOn with
        | _ i ih =>
          intro hi
          cases hl : listed.getD i true with
          | true => rfl
          | false =>
            exfalso
            have : i ∈ Region.ready .any ops listed := by
              unfold Region.ready
              simp only [List.mem_filter, List.mem_range, Bool.and_eq_true, Bool.not_eq_true']
              refine ⟨hi, hl, ?_⟩
              have ho : ops[i]? = some ops[i] := Array.getElem?_eq_getElem hi
              simp only [ho, Option.map_some, Option.getD_some]
              rw [Array.all_eq_true_iff_forall_mem]
              intro e he
              have hc := (covered_spec hcov ho).1 e (Array.mem_toList_iff.2 he)
              cases hb : Region.binds .any e with
              | false => simp
              | true =>
                have hlt := hc hb
                have h1 := ih e.on hlt (by omega)
                have h2 : e.on < listed.size := by omega
                simp only [Array.getD, h2, dif_pos] at h1 ⊢
                simpa using h1
            rw [hr] at this
            cases this
      refine hend a w hJ.size hJ.defers hJ.grow (fun t => hJ.facts t ?_)
      intro j p hp _
      exact hall j (Array.getElem?_eq_some_iff.1 hp).1
    induction fuel with
    | zero =>
      intro listed a w hs hf hJ
      have hr : Region.ready .any ops listed = [] := by
        rcases hr : Region.ready .any ops listed with _ | ⟨i, r⟩
        · rfl
        · exfalso
          obtain ⟨o, ho, hl, _⟩ := ready_mem (ops := ops) (listed := listed) (i := i) (by rw [hr]; simp)
          have hi : i < listed.size := by rw [hs]; exact (Array.getElem?_eq_some_iff.1 ho).1
          have hmem : listed[i] ∈ listed.toList.filter (! ·) := by
            rw [List.mem_filter]
            refine ⟨by simp, ?_⟩
            have hl' : listed[i] = false := by simpa [Array.getD, hi] using hl
            simp [hl']
          have : 0 < left listed := List.length_pos_of_mem hmem
          omega
      exact ⟨hr, hdone listed a w hs hJ hr⟩
    | succ fuel ih =>
      intro listed a w hs hf hJ
      refine ⟨hdone listed a w hs hJ, fun i hi => ?_⟩
      obtain ⟨o, ho, hl, hedges⟩ := ready_mem hi
      have hom : o ∈ ops.toList := by
        obtain ⟨h1, h2⟩ := Array.getElem?_eq_some_iff.1 ho
        subst h2
        simp
      have hisz : i < listed.size := by rw [hs]; exact (Array.getElem?_eq_some_iff.1 ho).1
      have hlook : ∀ t, (o.looksAt ops).contains t = true → FS t (a.eval (.tmp t)) w := by
        intro t ht
        refine hJ.facts t ?_
        intro j p hp hd
        obtain ⟨e, he, hb, rfl⟩ := (covered_spec hcov ho).2 t ht j p hp hd
        have := hedges e he hb
        have hlt : e.on < listed.size := by rw [hs]; exact (Array.getElem?_eq_some_iff.1 hp).1
        simp only [Array.getD, hlt, dif_pos] at this ⊢
        exact this
      have hnext : ∀ v w', Grow w w' → FSd FS o.dst v w' → wpAny P .any ops Q fuel (listed.setIfInBounds i true) (a.put o.dst v) w' := by
        intro v w' hg hv
        refine ih _ _ _ (by simpa using hs) ?_ ⟨?_, ?_, hJ.grow.trans hg, ?_⟩
        · have hl' : listed[i] = false := by simpa [Array.getD, hisz] using hl
          have : left (listed.setIfInBounds i true) < left listed := by
            unfold left
            rw [Array.toList_setIfInBounds]
            have e1 : listed.toList = listed.toList.take i ++ false :: listed.toList.drop (i + 1) := by
              have h3 : listed.toList[i]'(by simpa using hisz) = false := by simpa using hl'
              conv => lhs; rw [← List.take_append_drop i listed.toList, List.drop_eq_getElem_cons (by simpa using hisz), h3]
            rw [List.set_eq_take_append_cons_drop, if_pos (by simpa using hisz)]
            conv => rhs; rw [e1]
            simp
          omega
        · cases hd : o.dst with
          | none => simpa [Act.put] using hJ.size
          | some d => simpa [Act.put] using hJ.size
        · cases hd : o.dst with
          | none => simpa [Act.put] using hJ.defers
          | some d => simpa [Act.put] using hJ.defers
        · intro t ht
          by_cases hdt : o.dst = some t
          · rw [hdt] at hv ⊢
            rw [eval_put_same (by rw [hJ.size]; exact hdst o hom t hdt)]
            exact hv
          · have hk : Known ops listed t := by
              intro j p hp hd
              have := ht j p hp hd
              by_cases e : i = j
              · subst e
                rw [ho] at hp
                injection hp with hp
                subst hp
                exact absurd hd hdt
              · simpa [Array.getD_eq_getD_getElem?, Array.getElem?_setIfInBounds, e] using this
            have := hstab t _ w w' (hJ.facts t hk) hg
            cases hd : o.dst with
            | none => simpa [Act.put] using this
            | some d =>
              rw [eval_put_other (by intro e; subst e; exact hdt hd)]
              exact this
      have := AllOk.get hok o hom a w _ Q hJ.grow hlook hnext
      unfold wpOp
      simp only [ho]
      exact this
  refine key ops.size _ a0 _ (by simp) ?_ ⟨hn, rfl, Grow.drew w0, ?_⟩
  · unfold left
    simp
  · intro t ht
    refine hstab t _ w0 _ (hstart t ?_) (Grow.drew w0)
    intro o ho hd
    obtain ⟨i, hi, rfl⟩ := List.getElem_of_mem ho
    have hi' : i < ops.size := by simpa using hi
    have := ht i ops[i] (Array.getElem?_eq_getElem hi') (by simpa using hd)
    simp [Array.getD, hi'] at this

theorem region (hm : P.follows .mixedOrders = true) (hcov : covered ops = true) {id : Nat} {a0 : Act} {w0 : World} {Q : Exit → Act → World → Prop} (n : Nat) (hn : a0.tmps.size = n)
    (hdst : ∀ o ∈ ops.toList, ∀ d, o.dst = some d → d < n) (FS : Tmp → Value → World → Prop)
    (hstab : ∀ t v w w', FS t v w → Grow w w' → FS t v w')
    (hstart : ∀ t, (∀ o ∈ ops.toList, o.dst ≠ some t) → FS t (a0.eval (.tmp t)) w0)
    (hok : AllOk P ops FS w0 ops.toList)
    (hend : ∀ a w, a.tmps.size = n → a.defers = a0.defers → Grow w0 w → (∀ t, FS t (a.eval (.tmp t)) w) → Q .normal a w) :
    (Code.region id ops true).wp P Q a0 w0 :=
  wp_region_any hm (region_wpAny hm hcov n hn hdst FS hstab hstart hok hend)

/-! ### Rules for single operations -/
variable {w0 : World} {o : Oper}

/-- The operation itself, its guard being met. -/
def RunOk (P : Program) (ops : Array Oper) (FS : Tmp → Value → World → Prop) (w0 : World) (o : Oper) : Prop :=
  ∀ (a : Act) (w : World) (K : Act → World → Prop) (Q : Exit → Act → World → Prop), Grow w0 w → (∀ t, (o.looksAt ops).contains t = true → FS t (a.eval (.tmp t)) w) →
    (∀ v w', Grow w w' → FSd FS o.dst v w' → K (a.put o.dst v) w') → o.wp P a w K Q

theorem ok_none (hg : o.guard = none) (h : RunOk P ops FS w0 o) : OpOk P ops FS w0 o := by
  intro a w K Q hG hl hK
  rw [if_pos (by simp [Region.wanted, hg])]
  exact .inl (h a w K Q hG hl hK)
theorem ok_guard (j : Nat) (want : Bool) (d : Tmp) (hg : o.guard = some (j, want)) (hd : (ops[j]?).bind (·.dst) = some d) (hl : (o.looksAt ops).contains d = true) (hF : ∀ v w, FS d v w → v = .bool want)
    (h : RunOk P ops FS w0 o) : OpOk P ops FS w0 o := by
  intro a w K Q hG hlk hK
  have e := hF _ _ (hlk d hl)
  have hw : Region.wanted o (yielded ops a.tmps) = true := by
    have h2 : a.tmps[d]? = some (.bool want) := by
      replace e : a.tmps.getD d undef = .bool want := e
      rw [Array.getD_eq_getD_getElem?] at e
      cases hx : a.tmps[d]? with
      | none => rw [hx] at e; cases e
      | some x => rw [hx] at e; simpa using e
    simp [Region.wanted, hg, yielded, hd, h2]
  rw [if_pos hw]
  exact .inl (h a w K Q hG hlk hK)

/-- An operand's value is known. -/
def Has (ops : Array Oper) (FS : Tmp → Value → World → Prop) (o : Oper) (x : Operand) (v : Value) : Prop :=
  ∀ (a : Act) (w : World), (∀ t, (o.looksAt ops).contains t = true → FS t (a.eval (.tmp t)) w) → a.eval x = v
theorem has_tmp {t : Tmp} {v : Value} (h : (o.looksAt ops).contains t = true) (hF : ∀ u w, FS t u w → u = v) : Has ops FS o (.tmp t) v := fun _ _ hl => hF _ _ (hl t h)
theorem has_const {v : Value} : Has ops FS o (.const v) v := fun _ _ _ => rfl

theorem run_mv (x : Operand) (ho : o.op = .move x ∨ o.op = .assign x) {v : Value} (hx : Has ops FS o x v) (hd : ∀ w, FSd FS o.dst v w) : RunOk P ops FS w0 o := by
  intro a w K Q hG hl hK
  have e := hx a w hl
  unfold Oper.wp execOp
  rcases ho with ho | ho <;> simp only [ho, Sem.run_pure, Oper.upon_value, e] <;> exact hK v w (Grow.refl w) (hd w)
theorem run_mvF (t : Tmp) (ho : o.op = .move (.tmp t) ∨ o.op = .assign (.tmp t)) (hc : (o.looksAt ops).contains t = true) (hd : ∀ v w, FS t v w → FSd FS o.dst v w) : RunOk P ops FS w0 o := by
  intro a w K Q hG hl hK
  unfold Oper.wp execOp
  rcases ho with ho | ho <;> simp only [ho, Sem.run_pure, Oper.upon_value] <;> exact hK _ w (Grow.refl w) (hd _ _ (hl t hc))
theorem run1 (x : Operand) {u r : Value} (hx : Has ops FS o x u) (hrun : ∀ (ρ : Operand → Value) (w : World), ρ x = u → (execOp ρ o).run P w = .ok (.value r) w) (hd : ∀ w, FSd FS o.dst r w) : RunOk P ops FS w0 o := by
  intro a w K Q hG hl hK
  unfold Oper.wp
  rw [hrun a.eval w (hx a w hl)]
  exact hK r w (Grow.refl w) (hd w)
theorem run2 (x y : Operand) {u v r : Value} (hx : Has ops FS o x u) (hy : Has ops FS o y v) (hrun : ∀ (ρ : Operand → Value) (w : World), ρ x = u → ρ y = v → (execOp ρ o).run P w = .ok (.value r) w) (hd : ∀ w, FSd FS o.dst r w) : RunOk P ops FS w0 o := by
  intro a w K Q hG hl hK
  unfold Oper.wp
  rw [hrun a.eval w (hx a w hl) (hy a w hl)]
  exact hK r w (Grow.refl w) (hd w)
theorem run_pick (x y : Operand) (ho : o.op = .pick x y (.const (.bool false))) {r : Value} (hx : Has ops FS o x (.bool true)) (hy : Has ops FS o y r) (hd : ∀ w, FSd FS o.dst r w) : RunOk P ops FS w0 o := by
  refine run2 x y hx hy (fun ρ w h1 h2 => ?_) hd
  simp only [execOp, ho, h1, asBool, Sem.run_bind, Sem.run_pure, Result.andThen_ok, if_true, h2]
/-- A call of a named function whose arguments are known. -/
theorem run_call (f : FuncId) (xs : Array Operand) (ts : Array TypeId) (ho : o.op = .call { callee := .value (.func f), args := xs, argTypes := ts }) (hent : ∀ args w, (callFunc f args).run P w = .ok (.enter f args) w)
    (args : Array Value) (hargs : ∀ (a : Act) (w : World), (∀ t, (o.looksAt ops).contains t = true → FS t (a.eval (.tmp t)) w) → xs.map a.eval = args)
    (hC : ∀ w, Grow w0 w → Calls P f args w fun e w' => ∃ v, e = .returned v ∧ Grow w w' ∧ FSd FS o.dst v w') : RunOk P ops FS w0 o := by
  intro a w K Q hG hl hK
  have e := hargs a w hl
  unfold Oper.wp
  have hr : (execOp a.eval o).run P w = .ok (.enter f args) w := by
    have e' : (Array.map a.eval xs) = args := e
    have ef : a.eval (.func f) = .func (.func f) #[] #[] := rfl
    have h := hent args w
    simp [execOp, ho, resolve, e', ef, Deferred.ofValue, invoke, Result.andThen, h]
  rw [hr, Oper.upon_enter]
  refine (hC w hG).mono ?_
  rintro e w' ⟨v, rfl, hg, hf⟩
  exact hK v w' hg hf

end Reg
end Go.Proofs.Ytlelckdcmlpmdaa
/- Facts on slots, as data; rules for the operations of a law's last region. -/
namespace Go.Proofs.Ytlelckdcmlpmdaa
open Go Go.RowKit Lou

/-- What may be known of a slot: its value; that it reads as bytes; nothing. -/
inductive Fact where
  | val (v : Value)
  | res (l : List UInt8)
  | any
  | pred (p : Value → World → Prop) (h : ∀ v w w', p v w → Grow w w' → p v w')
def Fact.holds : Fact → Value → World → Prop
  | .val x, v, _ => v = x
  | .res l, v, w => ∃ A c, v = .slice A l.length c ∧ InB w w.heap.size A c l
  | .any, _, _ => True
  | .pred p _, v, w => p v w
theorem Fact.stable (f : Fact) {v : Value} {w w' : World} (h : f.holds v w) (hg : Grow w w') : f.holds v w' := by
  cases f with
  | val x => exact h
  | res l =>
    obtain ⟨A, c, e, hin⟩ := h
    exact ⟨A, c, e, (hin.below hg).more hg.size⟩
  | any => trivial
  | pred p hp => exact hp v w w' h hg
def factOf : List (Nat × Fact) → Nat → Fact
  | [], _ => .any
  | (k, f) :: r, t => if k == t then f else factOf r t
/-- The slots' facts out of a list. -/
def FSof (L : List (Nat × Fact)) (t : Tmp) (v : Value) (w : World) : Prop := (factOf L t).holds v w
theorem FSof.stable (L : List (Nat × Fact)) (t : Tmp) (v : Value) (w w' : World) (h : FSof L t v w) (hg : Grow w w') : FSof L t v w' := Fact.stable _ h hg

def written (ops : Array Oper) (t : Nat) : Bool := ops.toList.any fun o => o.dst == some t
def dstsIn (ops : Array Oper) (n : Nat) : Bool := ops.toList.all fun o => match o.dst with | some d => decide (d < n) | none => true

namespace Reg
/-- What holds of the slots that the region doesn't write. -/
def StartOk (a0 : Act) (w0 : World) : List (Nat × Fact) → Prop
  | [] => True
  | (k, f) :: r => f.holds (a0.eval (.tmp k)) w0 ∧ StartOk a0 w0 r

theorem start_fact {a0 : Act} {w0 : World} {ops : Array Oper} : ∀ (V W : List (Nat × Fact)), StartOk a0 w0 V → (W.all fun p => written ops p.1) = true → ∀ t, (∀ o ∈ ops.toList, o.dst ≠ some t) → (factOf (V ++ W) t).holds (a0.eval (.tmp t)) w0
  | [], [], _, _, t, _ => by simp [factOf, Fact.holds]
  | [], (k, f) :: r, hV, hW, t, ht => by
    simp only [List.all_cons, Bool.and_eq_true] at hW
    simp only [List.nil_append, factOf]
    split
    · rename_i e
      obtain rfl : k = t := by simpa using e
      exfalso
      have := hW.1
      simp only [written, List.any_eq_true, beq_iff_eq] at this
      obtain ⟨o, ho, hd⟩ := this
      exact ht o ho hd
    · exact start_fact [] r hV hW.2 t ht
  | (k, f) :: r, W, hV, hW, t, ht => by
    simp only [List.cons_append, factOf]
    split
    · rename_i e
      obtain rfl : k = t := by simpa using e
      exact hV.1
    · exact start_fact r W hV.2 hW t ht

/-- The region, by two lists of facts: of the slots that it finds, of those that it writes. -/
theorem region_facts {P : Program} {ops : Array Oper} (hm : P.follows .mixedOrders = true) (hcov : covered ops = true) {id : Nat} {a0 : Act} {w0 : World} {Q : Exit → Act → World → Prop} (n : Nat) (hn : a0.tmps.size = n)
    (hdst : dstsIn ops n = true) (V W : List (Nat × Fact)) (hV : StartOk a0 w0 V) (hW : (W.all fun p => written ops p.1) = true)
    (hok : AllOk P ops (FSof (V ++ W)) w0 ops.toList)
    (hend : ∀ a w, a.tmps.size = n → a.defers = a0.defers → Grow w0 w → (∀ t, FSof (V ++ W) t (a.eval (.tmp t)) w) → Q .normal a w) :
    (Code.region id ops true).wp P Q a0 w0 := by
  refine region hm hcov n hn ?_ (FSof (V ++ W)) (FSof.stable _) (start_fact V W hV hW) hok hend
  intro o ho d hd
  unfold dstsIn at hdst
  rw [List.all_eq_true] at hdst
  have := hdst o ho
  simpa [hd] using this

theorem allOk_cons {P : Program} {ops : Array Oper} {FS : Tmp → Value → World → Prop} {w0 : World} {o : Oper} {r : List Oper} (h : OpOk P ops FS w0 o) (k : AllOk P ops FS w0 r) : AllOk P ops FS w0 (o :: r) := ⟨h, k⟩
theorem allOk_nil {P : Program} {ops : Array Oper} {FS : Tmp → Value → World → Prop} {w0 : World} : AllOk P ops FS w0 [] := trivial

section rules
variable {ops : Array Oper} {FS : Tmp → Value → World → Prop} {w0 : World} {o : Oper}

theorem rule_conv (t : Tmp) (l : List UInt8) (ho : o.op = .convert 30 9 (.tmp t)) (hc : (o.looksAt ops).contains t = true) (hF : ∀ v w, FS t v w → (Fact.res l).holds v w) (hd : ∀ w, FSd FS o.dst (.string (str l)) w) : RunOk Try.prog ops FS w0 o := by
  intro a w K Q hG hl hK
  obtain ⟨A, c, e, hin⟩ := hF _ _ (hl t hc)
  have hs := hin.string
  unfold Oper.wp
  have hr : (execOp a.eval o).run Try.prog w = .ok (.value (.string (str l))) w := by
    simp [execOp, ho, e, hs, Result.andThen]
  rw [hr]
  exact hK _ w (Grow.refl w) (hd w)
theorem rule_convI (x : Operand) (S D : TypeId) {u r : Value} (ho : o.op = .convert S D x) (hx : Has ops FS o x u) (hrun : ∀ w, (convert S D u).run Try.prog w = .ok r w) (hd : ∀ w, FSd FS o.dst r w) : RunOk Try.prog ops FS w0 o :=
  run1 x hx (fun ρ w h => by simp [execOp, ho, h, hrun, Result.andThen]) hd
theorem rule_convS (x : Operand) (S D : TypeId) {u r : Value} (ho : o.op = .convert S D x) (hx : Has ops FS o x u) (hrun : ∀ w, Grow w0 w → (convert S D u).run Try.prog w = .ok r w) (hd : ∀ w, FSd FS o.dst r w) : RunOk Try.prog ops FS w0 o := by
  intro a w K Q hG hl hK
  have e := hx a w hl
  unfold Oper.wp
  have hr : (execOp a.eval o).run Try.prog w = .ok (.value r) w := by simp [execOp, ho, e, hrun w hG, Result.andThen]
  rw [hr]
  exact hK r w (Grow.refl w) (hd w)
theorem conv_45_41 (r : Nat) (h : r < 4294967296) (w : World) : (convert 45 41 (.int .u32 r)).run Try.prog w = .ok (.int .u64 r) w := by
  have e : IntKind.u64.wrap (r : Int) = r := by
    show (r : Int) % 18446744073709551616 = r
    omega
  have k : Try.prog.intKind 41 = .u64 := by kernel_rfl
  have h := run_convert_int (P := Try.prog) (w := w) 45 41 .u32 r (by kernel_rfl) (by kernel_rfl)
  rw [k, e] at h
  exact h
theorem conv_41_45 (n : Nat) (w : World) : (convert 41 45 (.int .u64 n)).run Try.prog w = .ok (.int .u32 ((n % 4294967296 : Nat) : Int)) w := by
  have e : IntKind.u32.wrap (n : Int) = ((n % 4294967296 : Nat) : Int) := by
    show (n : Int) % 4294967296 = _
    omega
  have k : Try.prog.intKind 45 = .u32 := by kernel_rfl
  have h := run_convert_int (P := Try.prog) (w := w) 41 45 .u64 n (by kernel_rfl) (by kernel_rfl)
  rw [k, e] at h
  exact h
theorem rule_eqi (x y : Operand) (T T' : TypeId) (k : IntKind) (m : Int) (ho : o.op = .binOp .eql T x y T') (hT : Try.prog.underlying T = some (.int k)) (hx : Has ops FS o x (.int k m)) (hy : Has ops FS o y (.int k m)) (hd : ∀ w, FSd FS o.dst (.bool true) w) : RunOk Try.prog ops FS w0 o :=
  run2 x y hx hy (fun ρ w h1 h2 => by simp [execOp, ho, h1, h2, go_sem]) hd
theorem rule_eqs (x y : Operand) (T T' : TypeId) (s : ByteArray) (ho : o.op = .binOp .eql T x y T') (hT : Try.prog.underlying T = some .string) (hx : Has ops FS o x (.string s)) (hy : Has ops FS o y (.string s)) (hd : ∀ w, FSd FS o.dst (.bool true) w) : RunOk Try.prog ops FS w0 o :=
  run2 x y hx hy (fun ρ w h1 h2 => by simp [execOp, ho, h1, h2, go_sem]) hd
theorem rule_len (t : Tmp) (A : Option Addr) (n c : Nat) (T : TypeId) (hT : Try.prog.underlying T = some (.slice (Try.prog.elem T))) (ho : o.op = .call { callee := .builtin .len, args := #[.tmp t], argTypes := #[T] }) (hx : Has ops FS o (.tmp t) (.slice A n c)) (hd : ∀ w, FSd FS o.dst (.int .i64 (n : Int)) w) : RunOk Try.prog ops FS w0 o :=
  run1 (.tmp t) hx (fun ρ w h => by simp [execOp, ho, h, go_sem, resolve, invoke, run_len_slice _ _ _ _ _ _ hT]) hd
theorem args1 {x : Operand} {u : Value} (h : Has ops FS o x u) : ∀ (a : Act) (w : World), (∀ t, (o.looksAt ops).contains t = true → FS t (a.eval (.tmp t)) w) → Array.map a.eval #[x] = #[u] := fun a w hl => by simp [h a w hl]
theorem args2 {x y : Operand} {u v : Value} (h : Has ops FS o x u) (k : Has ops FS o y v) : ∀ (a : Act) (w : World), (∀ t, (o.looksAt ops).contains t = true → FS t (a.eval (.tmp t)) w) → Array.map a.eval #[x, y] = #[u, v] := fun a w hl => by simp [h a w hl, k a w hl]
theorem args3 {x y z : Operand} {u v r : Value} (h : Has ops FS o x u) (k : Has ops FS o y v) (m : Has ops FS o z r) : ∀ (a : Act) (w : World), (∀ t, (o.looksAt ops).contains t = true → FS t (a.eval (.tmp t)) w) → Array.map a.eval #[x, y, z] = #[u, v, r] := fun a w hl => by simp [h a w hl, k a w hl, m a w hl]
theorem args4 {x y z q : Operand} {u v r s : Value} (h : Has ops FS o x u) (k : Has ops FS o y v) (m : Has ops FS o z r) (j : Has ops FS o q s) : ∀ (a : Act) (w : World), (∀ t, (o.looksAt ops).contains t = true → FS t (a.eval (.tmp t)) w) → Array.map a.eval #[x, y, z, q] = #[u, v, r, s] := fun a w hl => by simp [h a w hl, k a w hl, m a w hl, j a w hl]
end rules

theorem results1 {fn : Func} {P : Program} {a : Act} {w : World} {v : Value} (t : Tmp) (h : fn.results = #[.tmp t]) (hv : a.eval (.tmp t) = v) : (results fn a.tmps).run P w = .ok v w := by
  have e : a.tmps.getD t undef = v := hv
  unfold results
  simp only [h]
  simp [← e, Array.getD_eq_getD_getElem?]
/-- The end of a function of one result, without deferred calls. -/
theorem ends1 {fn : Func} {P : Program} {a : Act} {w : World} {R : Ending → World → Prop} (t : Tmp) (v : Value) (h : fn.results = #[.tmp t]) (hv : a.eval (.tmp t) = v) (hd : a.defers = []) (hR : R (.returned v) w) : Code.wp P Code.ret (bodyPost P fn R) a w :=
  wp_ret (bodyPost_ret_by (results1 t h hv) hd hR)
theorem gives_same {P : Program} {w : World} {f : FuncId} {args : Array Value} {v : Value} (h : Calls P f args w fun e w' => e = .returned v ∧ w = w') : Calls P f args w fun e w' => ∃ u, e = .returned u ∧ Grow w w' ∧ u = v :=
  h.mono (by rintro e w' ⟨rfl, rfl⟩; exact ⟨_, rfl, Grow.refl _, rfl⟩)
theorem gives_grow {P : Program} {w : World} {f : FuncId} {args : Array Value} {v : Value} (h : Calls P f args w fun e w' => e = .returned v ∧ Below w.heap.size w w') : Calls P f args w fun e w' => ∃ u, e = .returned u ∧ Grow w w' ∧ u = v :=
  h.mono (by rintro e w' ⟨rfl, hB⟩; exact ⟨_, rfl, hB, rfl⟩)
theorem gives_res {w : World} {f : FuncId} {args : Array Value} {l : List UInt8} (h : Calls Try.prog f args w (GivesB w l)) : Calls Try.prog f args w fun e w' => ∃ v, e = .returned v ∧ Grow w w' ∧ (Fact.res l).holds v w' :=
  h.mono fun e w' ⟨v, he, hown, hB⟩ => ⟨v, he, hB, hown.inB⟩

/-! ### The same rules over lists of facts: what is looked up is left to the kernel -/
def FD (L : List (Nat × Fact)) : Option Tmp → Fact
  | some d => factOf L d
  | none => .any
theorem fsd {L : List (Nat × Fact)} {d : Option Tmp} {f : Fact} {v : Value} {w : World} (h : FD L d = f) (hv : f.holds v w) : FSd (FSof L) d v w := by
  cases d with
  | none => trivial
  | some d => subst h; exact hv
section lists
variable {L : List (Nat × Fact)} {ops : Array Oper} {w0 : World} {o : Oper} {P : Program}
theorem hs (t : Tmp) (v : Value) (hc : (o.looksAt ops).contains t = true) (hF : factOf L t = .val v) : Has ops (FSof L) o (.tmp t) v :=
  has_tmp hc fun u w h => by
    have h' : (factOf L t).holds u w := h
    rw [hF] at h'
    exact h'
theorem hc (v : Value) : Has ops (FSof L) o (.const v) v := has_const
theorem okg (j : Nat) (want : Bool) (d : Tmp) (hg : o.guard = some (j, want)) (hd : (ops[j]?).bind (·.dst) = some d) (hl : (o.looksAt ops).contains d = true) (hF : factOf L d = .val (.bool want))
    (h : RunOk P ops (FSof L) w0 o) : OpOk P ops (FSof L) w0 o :=
  ok_guard j want d hg hd hl (fun v w h => by
    have h' : (factOf L d).holds v w := h
    rw [hF] at h'
    exact h') h
theorem l_mv (x : Operand) (v : Value) (ho : o.op = .move x ∨ o.op = .assign x) (hx : Has ops (FSof L) o x v) (hd : FD L o.dst = .val v) : RunOk P ops (FSof L) w0 o :=
  run_mv x ho hx fun _ => fsd hd rfl
theorem l_mvF (t : Tmp) (f : Fact) (ho : o.op = .move (.tmp t) ∨ o.op = .assign (.tmp t)) (hc : (o.looksAt ops).contains t = true) (hF : factOf L t = f) (hd : FD L o.dst = f) : RunOk P ops (FSof L) w0 o :=
  run_mvF t ho hc fun v w h => fsd hd (by
    have h' : (factOf L t).holds v w := h
    rw [hF] at h'
    exact h')
theorem l_pick (x y : Operand) (r : Value) (ho : o.op = .pick x y (.const (.bool false))) (hx : Has ops (FSof L) o x (.bool true)) (hy : Has ops (FSof L) o y r) (hd : FD L o.dst = .val r) : RunOk P ops (FSof L) w0 o :=
  run_pick x y ho hx hy fun _ => fsd hd rfl
/-- Any operation of one operand whose run is known. -/
theorem l_run1 (x : Operand) (u r : Value) (hx : Has ops (FSof L) o x u) (hrun : ∀ (ρ : Operand → Value) (w : World), ρ x = u → (execOp ρ o).run P w = .ok (.value r) w) (hd : FD L o.dst = .val r) : RunOk P ops (FSof L) w0 o :=
  run1 x hx hrun fun _ => fsd hd rfl
theorem l_conv (t : Tmp) (l : List UInt8) (ho : o.op = .convert 30 9 (.tmp t)) (hc : (o.looksAt ops).contains t = true) (hF : factOf L t = .res l) (hd : FD L o.dst = .val (.string (str l))) : RunOk Try.prog ops (FSof L) w0 o :=
  rule_conv t l ho hc (fun v w h => by
    have h' : (factOf L t).holds v w := h
    rw [hF] at h'
    exact h') fun _ => fsd hd rfl
theorem l_convS (x : Operand) (S D : TypeId) (u r : Value) (ho : o.op = .convert S D x) (hx : Has ops (FSof L) o x u) (hrun : ∀ w, Grow w0 w → (convert S D u).run Try.prog w = .ok r w) (hd : FD L o.dst = .val r) : RunOk Try.prog ops (FSof L) w0 o :=
  rule_convS x S D ho hx hrun fun _ => fsd hd rfl
theorem l_eqi (x y : Operand) (T T' : TypeId) (k : IntKind) (m : Int) (ho : o.op = .binOp .eql T x y T') (hT : Try.prog.underlying T = some (.int k)) (hx : Has ops (FSof L) o x (.int k m)) (hy : Has ops (FSof L) o y (.int k m)) (hd : FD L o.dst = .val (.bool true)) : RunOk Try.prog ops (FSof L) w0 o :=
  rule_eqi x y T T' k m ho hT hx hy fun _ => fsd hd rfl
theorem l_eqs (x y : Operand) (T T' : TypeId) (s : ByteArray) (ho : o.op = .binOp .eql T x y T') (hT : Try.prog.underlying T = some .string) (hx : Has ops (FSof L) o x (.string s)) (hy : Has ops (FSof L) o y (.string s)) (hd : FD L o.dst = .val (.bool true)) : RunOk Try.prog ops (FSof L) w0 o :=
  rule_eqs x y T T' s ho hT hx hy fun _ => fsd hd rfl
theorem l_eqb (x y : Operand) (T T' : TypeId) (b : Bool) (ho : o.op = .binOp .eql T x y T') (hT : Try.prog.underlying T = some .bool) (hx : Has ops (FSof L) o x (.bool b)) (hy : Has ops (FSof L) o y (.bool b)) (hd : FD L o.dst = .val (.bool true)) : RunOk Try.prog ops (FSof L) w0 o :=
  run2 x y hx hy (fun ρ w h1 h2 => by simp [execOp, ho, h1, h2, go_sem, run_eql_bool _ _ _ _ hT, Result.andThen]) fun _ => fsd hd rfl
theorem l_len (t : Tmp) (A : Option Addr) (n c : Nat) (T : TypeId) (hT : Try.prog.underlying T = some (.slice (Try.prog.elem T))) (ho : o.op = .call { callee := .builtin .len, args := #[.tmp t], argTypes := #[T] }) (hx : Has ops (FSof L) o (.tmp t) (.slice A n c)) (hd : FD L o.dst = .val (.int .i64 (n : Int))) : RunOk Try.prog ops (FSof L) w0 o :=
  rule_len t A n c T hT ho hx fun _ => fsd hd rfl
/-- The length of what reads as bytes. -/
theorem l_lenR (t : Tmp) (l : List UInt8) (T : TypeId) (hT : Try.prog.underlying T = some (.slice (Try.prog.elem T))) (ho : o.op = .call { callee := .builtin .len, args := #[.tmp t], argTypes := #[T] }) (hc : (o.looksAt ops).contains t = true) (hF : factOf L t = .res l) (hd : FD L o.dst = .val (.int .i64 (l.length : Int))) : RunOk Try.prog ops (FSof L) w0 o := by
  intro a w K Q hG hl hK
  have h' : (factOf L t).holds (a.eval (.tmp t)) w := hl t hc
  rw [hF] at h'
  obtain ⟨A, c, e, hin⟩ := h'
  unfold Oper.wp
  have hr : (execOp a.eval o).run Try.prog w = .ok (.value (.int .i64 (l.length : Int))) w := by
    have key : ∀ ρ : Operand → Value, ρ (.tmp t) = .slice A l.length c → (execOp ρ o).run Try.prog w = .ok (.value (.int .i64 (l.length : Int))) w :=
      fun ρ h => by simp [execOp, ho, h, go_sem, resolve, invoke, run_len_slice _ _ _ _ _ _ hT]
    exact key _ e
  rw [hr]
  exact hK _ w (Grow.refl w) (fsd hd rfl)
theorem l_call (f : FuncId) (xs : Array Operand) (ts : Array TypeId) (ho : o.op = .call { callee := .value (.func f), args := xs, argTypes := ts }) (hent : ∀ args w, (callFunc f args).run P w = .ok (.enter f args) w)
    (args : Array Value) (g : Fact) (hargs : ∀ (a : Act) (w : World), (∀ t, (o.looksAt ops).contains t = true → FSof L t (a.eval (.tmp t)) w) → xs.map a.eval = args)
    (hC : ∀ w, Grow w0 w → Calls P f args w fun e w' => ∃ v, e = .returned v ∧ Grow w w' ∧ g.holds v w') (hd : FD L o.dst = g) : RunOk P ops (FSof L) w0 o :=
  run_call f xs ts ho hent args hargs fun w hG => (hC w hG).mono fun _ _ ⟨v, e, hg, hh⟩ => ⟨v, e, hg, fsd hd hh⟩
/-- A call one of whose arguments (the first) reads as bytes. -/
theorem l_callR (f : FuncId) (t : Tmp) (l : List UInt8) (ts : Array TypeId) (ho : o.op = .call { callee := .value (.func f), args := #[.tmp t], argTypes := ts }) (hent : ∀ args w, (callFunc f args).run P w = .ok (.enter f args) w)
    (g : Fact) (hc : (o.looksAt ops).contains t = true) (hF : factOf L t = .res l)
    (hC : ∀ w A c, Grow w0 w → InB w w.heap.size A c l → Calls P f #[.slice A l.length c] w fun e w' => ∃ v, e = .returned v ∧ Grow w w' ∧ g.holds v w') (hd : FD L o.dst = g) : RunOk P ops (FSof L) w0 o := by
  intro a w K Q hG hl hK
  have h' : (factOf L t).holds (a.eval (.tmp t)) w := hl t hc
  rw [hF] at h'
  obtain ⟨A, c, e, hin⟩ := h'
  unfold Oper.wp
  have hr : (execOp a.eval o).run P w = .ok (.enter f #[.slice A l.length c]) w := by
    have ef : a.eval (.func f) = .func (.func f) #[] #[] := rfl
    have h := hent #[.slice A l.length c] w
    simp [execOp, ho, resolve, e, ef, Deferred.ofValue, invoke, Result.andThen, h]
  rw [hr, Oper.upon_enter]
  refine (hC w A c hG hin).mono ?_
  rintro e w' ⟨v, rfl, hg, hf⟩
  exact hK v w' hg (fsd hd hf)
/-- A call one of whose arguments (the only one) is known by a predicate. -/
theorem l_callP (f : FuncId) (t : Tmp) (p : Value → World → Prop) (hp : ∀ v w w', p v w → Grow w w' → p v w') (ts : Array TypeId) (ho : o.op = .call { callee := .value (.func f), args := #[.tmp t], argTypes := ts }) (hent : ∀ args w, (callFunc f args).run P w = .ok (.enter f args) w)
    (g : Fact) (hc : (o.looksAt ops).contains t = true) (hF : factOf L t = .pred p hp)
    (hC : ∀ w u, Grow w0 w → p u w → Calls P f #[u] w fun e w' => ∃ v, e = .returned v ∧ Grow w w' ∧ g.holds v w') (hd : FD L o.dst = g) : RunOk P ops (FSof L) w0 o := by
  intro a w K Q hG hl hK
  have h' : (factOf L t).holds (a.eval (.tmp t)) w := hl t hc
  rw [hF] at h'
  have e : a.eval (.tmp t) = a.eval (.tmp t) := rfl
  revert h' e
  generalize hu : a.eval (.tmp t) = u
  intro h' _
  unfold Oper.wp
  have hr : (execOp a.eval o).run P w = .ok (.enter f #[u]) w := by
    have ef : a.eval (.func f) = .func (.func f) #[] #[] := rfl
    have h := hent #[u] w
    simp [execOp, ho, resolve, hu, ef, Deferred.ofValue, invoke, Result.andThen, h]
  rw [hr, Oper.upon_enter]
  refine (hC w u hG h').mono ?_
  rintro e w' ⟨v, rfl, hg, hf⟩
  exact hK v w' hg (fsd hd hf)
/-- Any operation of two operands whose run is known; the world may grow. -/
theorem l_run2W (x y : Operand) (g : Fact) (u v : Value) (hx : Has ops (FSof L) o x u) (hy : Has ops (FSof L) o y v)
    (hrun : ∀ (ρ : Operand → Value) (w : World), Grow w0 w → ρ x = u → ρ y = v → ∃ r w', (execOp ρ o).run P w = .ok (.value r) w' ∧ Grow w w' ∧ g.holds r w') (hd : FD L o.dst = g) : RunOk P ops (FSof L) w0 o := by
  intro a w K Q hG hl hK
  obtain ⟨r, w', h1, h2, h3⟩ := hrun a.eval w hG (hx a w hl) (hy a w hl)
  unfold Oper.wp
  rw [h1]
  exact hK r w' h2 (fsd hd h3)
theorem l_run1W (x : Operand) (g : Fact) (u : Value) (hx : Has ops (FSof L) o x u)
    (hrun : ∀ (ρ : Operand → Value) (w : World), Grow w0 w → ρ x = u → ∃ r w', (execOp ρ o).run P w = .ok (.value r) w' ∧ Grow w w' ∧ g.holds r w') (hd : FD L o.dst = g) : RunOk P ops (FSof L) w0 o := by
  intro a w K Q hG hl hK
  obtain ⟨r, w', h1, h2, h3⟩ := hrun a.eval w hG (hx a w hl)
  unfold Oper.wp
  rw [h1]
  exact hK r w' h2 (fsd hd h3)
end lists
end Reg
end Go.Proofs.Ytlelckdcmlpmdaa
/- Regions that draw their order, in the midst of a walk: the slots that the region doesn't write keep their values. -/
namespace Go.Proofs.Ytlelckdcmlpmdaa
open Go Go.RowKit Lou
namespace Reg

theorem OpOk.mono {P : Program} {ops : Array Oper} {FS FS' : Tmp → Value → World → Prop} {w0 : World} {o : Oper} (h : OpOk P ops FS w0 o) (h1 : ∀ t v w, FS' t v w → FS t v w) (h2 : ∀ d v w, o.dst = some d → FS d v w → FS' d v w) : OpOk P ops FS' w0 o := by
  intro a w K Q hG hl hK
  refine h a w K Q hG (fun t ht => h1 _ _ _ (hl t ht)) (fun v w' hg hf => hK v w' hg ?_)
  cases hd : o.dst with
  | none => trivial
  | some d =>
    rw [hd] at hf
    exact h2 d v w' hd hf
theorem AllOk.mono {P : Program} {ops : Array Oper} {FS FS' : Tmp → Value → World → Prop} {w0 : World} (h1 : ∀ t v w, FS' t v w → FS t v w) : ∀ {l : List Oper}, (∀ o ∈ l, ∀ d v w, o.dst = some d → FS d v w → FS' d v w) → AllOk P ops FS w0 l → AllOk P ops FS' w0 l
  | [], _, _ => trivial
  | o :: r, h2, h => ⟨h.1.mono h1 (h2 o (List.mem_cons_self ..)), h.2.mono h1 fun o ho => h2 o (List.mem_cons_of_mem _ ho)⟩

def dstsAre (ops : Array Oper) (D : List Nat) : Bool := ops.toList.all fun o => match o.dst with | some d => D.contains d | none => true

/-- As region_facts; what the region doesn't write keeps its value. -/
theorem region_acts {P : Program} {ops : Array Oper} (hm : P.follows .mixedOrders = true) (hcov : covered ops = true) {id : Nat} {a0 : Act} {w0 : World} {Q : Exit → Act → World → Prop} (n : Nat) (hn : a0.tmps.size = n)
    (hdst : dstsIn ops n = true) (D : List Nat) (hD : dstsAre ops D = true) (V W : List (Nat × Fact)) (hV : StartOk a0 w0 V) (hW : (W.all fun p => written ops p.1) = true)
    (hok : AllOk P ops (FSof (V ++ W)) w0 ops.toList)
    (hend : ∀ a w, a.tmps.size = n → a.defers = a0.defers → Grow w0 w → (∀ t, FSof (V ++ W) t (a.eval (.tmp t)) w) → (∀ t, D.contains t = false → a.eval (.tmp t) = a0.eval (.tmp t)) → Q .normal a w) :
    (Code.region id ops true).wp P Q a0 w0 := by
  have hD' : ∀ o ∈ ops.toList, ∀ d, o.dst = some d → D.contains d = true := by
    intro o ho d hd
    unfold dstsAre at hD
    rw [List.all_eq_true] at hD
    have := hD o ho
    simpa [hd] using this
  refine region hm hcov n hn ?_ (fun t v w => FSof (V ++ W) t v w ∧ (D.contains t = false → v = a0.eval (.tmp t))) (fun t v w w' h hg => ⟨FSof.stable _ _ _ _ _ h.1 hg, h.2⟩) (fun t ht => ⟨start_fact V W hV hW t ht, fun _ => rfl⟩)
    (AllOk.mono (fun _ _ _ h => h.1) (fun o ho d v w hd h => ⟨h, fun hn => by rw [hD' o ho d hd] at hn; cases hn⟩) hok) ?_
  · intro o ho d hd
    unfold dstsIn at hdst
    rw [List.all_eq_true] at hdst
    have := hdst o ho
    simpa [hd] using this
  · intro a w h1 h2 h3 h4
    exact hend a w h1 h2 h3 (fun t => (h4 t).1) (fun t => (h4 t).2)

/-- An act out of another by the slots that differ. -/
theorem acts_eq {a a0 : Act} : ∀ (D : List Nat), a.tmps.size = a0.tmps.size → a.defers = a0.defers → (∀ t, D.contains t = false → a.eval (.tmp t) = a0.eval (.tmp t)) → a = D.foldl (fun x d => x.put (some d) (a.eval (.tmp d))) a0 := by
  have size_put : ∀ (x : Act) d v, (x.put (some d) v).tmps.size = x.tmps.size := by intro x d v; simp [Act.put]
  have key : ∀ (D : List Nat) (b : Act), a.tmps.size = b.tmps.size → a.defers = b.defers → (∀ t, D.contains t = false → a.eval (.tmp t) = b.eval (.tmp t)) → a = D.foldl (fun x d => x.put (some d) (a.eval (.tmp d))) b := by
    intro D
    induction D with
    | nil =>
      intro b hs hd h
      have : a.tmps = b.tmps := by
        apply Array.ext hs
        intro i h1 h2
        have := h i rfl
        simpa [Act.eval, Array.getD, h1, h2] using this
      cases a; cases b; simp_all
    | cons d r ih =>
      intro b hs hd h
      rw [List.foldl_cons]
      refine ih _ (by rw [size_put]; exact hs) (by simp [Act.put, hd]) ?_
      intro t ht
      by_cases e : t = d
      · subst e
        by_cases hlt : t < b.tmps.size
        · rw [eval_put_same hlt]
        · have h1 : ¬ t < a.tmps.size := by omega
          simp [Act.put, Act.eval, Array.getD_eq_getD_getElem?, h1, hlt]
      · rw [eval_put_other e]
        exact h t (by simp only [List.contains_cons, Bool.or_eq_false_iff]; exact ⟨by simpa using e, ht⟩)
  exact fun D => key D a0

/-- What a region leaves: the slots of D may differ; F holds. -/
def Left (D : List Nat) (F : Act → World → Prop) (a0 : Act) (w0 : World) (a : Act) (w : World) : Prop := a.tmps.size = a0.tmps.size ∧ a.defers = a0.defers ∧ Grow w0 w ∧ F a w ∧ ∀ t, D.contains t = false → a.eval (.tmp t) = a0.eval (.tmp t)
/-- A stop between a region and what follows. -/
theorem by_stop {P : Program} {C : Code} {Q : Exit → Act → World → Prop} {a0 : Act} {w0 : World} (D : List Nat) (F : Act → World → Prop) (h1 : ∀ Q', (∀ a w, Left D F a0 w0 a w → Q' .normal a w) → C.wp P Q' a0 w0) (h2 : ∀ a w, Left D F a0 w0 a w → Q .normal a w) : C.wp P Q a0 w0 := h1 Q h2

section lists
variable {L : List (Nat × Fact)} {ops : Array Oper} {w0 : World} {o : Oper} {P : Program}
theorem okg_not (j : Nat) (want : Bool) (d : Tmp) (hg : o.guard = some (j, want)) (hd : (ops[j]?).bind (·.dst) = some d) (hl : (o.looksAt ops).contains d = true) (hF : factOf L d = .val (.bool !want)) (hD : FD L o.dst = .any) : OpOk P ops (FSof L) w0 o := by
  intro a w K Q hG hlk hK
  have h' : (factOf L d).holds (a.eval (.tmp d)) w := hlk d hl
  rw [hF] at h'
  have e : a.eval (.tmp d) = .bool !want := h'
  have hw : Region.wanted o (yielded ops a.tmps) = false := by
    have h2 : a.tmps[d]? = some (.bool !want) := by
      replace e : a.tmps.getD d undef = .bool !want := e
      rw [Array.getD_eq_getD_getElem?] at e
      cases hx : a.tmps[d]? with
      | none => rw [hx] at e; cases e
      | some x => rw [hx] at e; simpa using e
    cases want <;> simp [Region.wanted, hg, yielded, hd, h2]
  rw [if_neg (by simp [hw])]
  exact hK undef w (Grow.refl w) (fsd hD trivial)
theorem l_pickF (x y z : Operand) (r : Value) (ho : o.op = .pick x y z) (hx : Has ops (FSof L) o x (.bool false)) (hz : Has ops (FSof L) o z r) (hd : FD L o.dst = .val r) : RunOk P ops (FSof L) w0 o :=
  run2 x z hx hz (fun ρ w h1 h2 => by simp [execOp, ho, h1, h2, asBool, Result.andThen]) fun _ => fsd hd rfl
theorem l_pickT (x y z : Operand) (r : Value) (ho : o.op = .pick x y z) (hx : Has ops (FSof L) o x (.bool true)) (hy : Has ops (FSof L) o y r) (hd : FD L o.dst = .val r) : RunOk P ops (FSof L) w0 o :=
  run2 x y hx hy (fun ρ w h1 h2 => by simp [execOp, ho, h1, h2, asBool, Result.andThen]) fun _ => fsd hd rfl
theorem l_eqsG (x y : Operand) (T T' : TypeId) (s u : ByteArray) (ho : o.op = .binOp .eql T x y T') (hx : Has ops (FSof L) o x (.string s)) (hy : Has ops (FSof L) o y (.string u)) (hd : FD L o.dst = .val (.bool (s.toList == u.toList))) : RunOk P ops (FSof L) w0 o :=
  run2 x y hx hy (fun ρ w h1 h2 => by simp [execOp, ho, h1, h2, go_sem, Result.andThen]) fun _ => fsd hd rfl
theorem l_leq (x y : Operand) (T T' : TypeId) (k : IntKind) (m n : Int) (ho : o.op = .binOp .leq T x y T') (hx : Has ops (FSof L) o x (.int k m)) (hy : Has ops (FSof L) o y (.int k n)) (b : Bool) (hb : decide (m ≤ n) = b) (hd : FD L o.dst = .val (.bool b)) : RunOk P ops (FSof L) w0 o :=
  run2 x y hx hy (fun ρ w h1 h2 => by subst hb; simp [execOp, ho, h1, h2, go_sem, Result.andThen]) fun _ => fsd hd rfl
theorem l_load (x : Operand) (p : Addr) (T : TypeId) (v : Value) (hagg : ∀ w : World, (isAgg T).run P w = .ok false w) (ho : o.op = .load T x) (hx : Has ops (FSof L) o x (.pointer (some p))) (hcell : ∀ w, Grow w0 w → w.cell? p = some v) (hd : FD L o.dst = .val v) : RunOk P ops (FSof L) w0 o := by
  refine l_run1W x (.val v) _ hx (fun ρ w hg h => ⟨v, w, ?_, Grow.refl _, rfl⟩) hd
  have hc := hcell w hg
  simp [execOp, ho, h, go_sem, hagg, hc, Result.andThen]
theorem l_idx (x y : Operand) (p : Addr) (T e : TypeId) (n k : Nat) (hT : P.underlying T = some (.array n e)) (hk : k < n) (hs : ∀ w : World, (sizeOf e).run P w = .ok 1 w) (ho : o.op = .indexAddr T x y) (hx : Has ops (FSof L) o x (.pointer (some p))) (hy : Has ops (FSof L) o y (.int .i64 (k : Int))) (hd : FD L o.dst = .val (.pointer (some (p.add k)))) : RunOk P ops (FSof L) w0 o := by
  refine run2 x y hx hy (fun ρ w h1 h2 => ?_) fun _ => fsd hd rfl
  simp [execOp, ho, h1, h2, go_sem, hT, hk, hs, Result.andThen]
end lists
end Reg
end Go.Proofs.Ytlelckdcmlpmdaa
/- Blocks of slices of bytes, as facts of slots; Concat of them. -/
namespace Go.Proofs.Ytlelckdcmlpmdaa
open Go Go.RowKit Lou

/-- A row of slices of bytes, in a block. -/
def Lists (ls : List (List UInt8)) (v : Value) (w : World) : Prop :=
  ∃ b, v = .slice (some ⟨b, 0, none⟩) ls.length ls.length ∧ b < w.heap.size ∧ ∀ j (h : j < ls.length), ∃ A c, w.cell? ⟨b, j, none⟩ = some (.slice A ls[j].length c) ∧ InB w w.heap.size A c ls[j]
theorem lists_stable (ls : List (List UInt8)) : ∀ v w w', Lists ls v w → Grow w w' → Lists ls v w' := by
  rintro v w w' ⟨b, hv, hb, h⟩ hg
  refine ⟨b, hv, Nat.lt_of_lt_of_le hb hg.size, fun j hj => ?_⟩
  obtain ⟨A, c, h1, h2⟩ := h j hj
  exact ⟨A, c, (hg.cell (p := ⟨b, j, none⟩) hb).trans h1, (h2.below hg).more hg.size⟩
/-- .. as pieces. -/
theorem Lists.pieces {ls : List (List UInt8)} {v : Value} {w : World} (h : Lists ls v w) (hm : ls.length ≤ 1000) : ∃ b, ∃ zs : List (Piece w w.heap.size), v = .slice (some ⟨b, 0, none⟩) zs.length zs.length ∧ zs.map Piece.l = ls ∧ InLL w w.heap.size (some ⟨b, 0, none⟩) zs.length zs := by
  obtain ⟨b, rfl, hb, h⟩ := h
  have key : ∀ n, n ≤ ls.length → ∃ zs : List (Piece w w.heap.size), zs.length = n ∧ zs.map Piece.l = ls.take n ∧ ∀ j (hj : j < zs.length), w.cell? ⟨b, j, none⟩ = some zs[j].val := by
    intro n
    induction n with
    | zero => exact fun _ => ⟨[], rfl, by simp, fun j hj => by simp at hj⟩
    | succ n ih =>
      intro hn
      obtain ⟨zs, h1, h2, h3⟩ := ih (by omega)
      obtain ⟨A, c, h4, h5⟩ := h n (by omega)
      refine ⟨zs ++ [⟨((A, c), ls[n]), h5⟩], by simp [h1], ?_, fun j hj => ?_⟩
      · rw [List.map_append, h2, List.take_succ_eq_append_getElem (by omega)]
        rfl
      · by_cases e : j < zs.length
        · rw [List.getElem_append_left e]
          exact h3 j e
        · have : j = n := by simp at hj; omega
          subst this
          rw [List.getElem_append_right (by omega)]
          simp only [h1, Nat.sub_self, List.getElem_cons_zero]
          exact h4
  obtain ⟨zs, h1, h2, h3⟩ := key ls.length (Nat.le_refl _)
  refine ⟨b, zs, by rw [h1], by rw [h2, List.take_length], ⟨Nat.le_refl _, by omega, fun _ => ⟨b, 0, rfl, hb, fun j hj => by rw [Nat.zero_add]; exact h3 j hj⟩⟩⟩
theorem concatL_gives {ls : List (List UInt8)} {v : Value} {w : World} (h : Lists ls v w) (hm : ls.length ≤ 1000) (hf : ls.flatten.length ≤ 1000000000) : Calls Try.prog 142 #[v] w (GivesB w ls.flatten) := by
  obtain ⟨b, zs, rfl, hz, hI⟩ := h.pieces hm
  have := concat_gives w (some ⟨b, 0, none⟩) zs.length zs hI (by rw [hz]; exact hf)
  rw [hz] at this
  exact this
theorem sumLs_gives {ls : List (List UInt8)} {v : Value} {w : World} (h : Lists ls v w) (hm : ls.length ≤ 1000) : Calls Try.prog 29 #[v] w fun e W' => e = .returned (.int .u32 (sumL ls.flatten : Int)) ∧ Below w.heap.size w W' := by
  obtain ⟨b, zs, rfl, hz, hI⟩ := h.pieces hm
  have := sum_gives w (some ⟨b, 0, none⟩) zs.length zs hI
  rw [hz] at this
  exact this
/-- The block that a call of the variadic kind lays. -/
theorem Lists.new {w : World} (xs : List ((Option Addr × Nat) × List UInt8)) (h : ∀ x ∈ xs, InB w w.heap.size x.1.1 x.1.2 x.2) :
    Lists (xs.map (·.2)) (.slice (some ⟨w.heap.size, 0, none⟩) xs.length xs.length) (w.alloc (.cells (xs.map fun x => Value.slice x.1.1 x.2.length x.1.2).toArray 30)) := by
  refine ⟨w.heap.size, by simp, by simp, fun j hj => ?_⟩
  have hj' : j < xs.length := by simpa using hj
  refine ⟨xs[j].1.1, xs[j].1.2, ?_, ?_⟩
  · rw [(BlkIs.new w 30 _).cell]
    simp [hj']
  · have := h xs[j] (List.getElem_mem hj')
    rw [List.getElem_map]
    exact (this.below ((Below.refl _ w).alloc (Nat.le_refl _) _)).more (by simp)
theorem OwnB.base {w : World} {b b' : Nat} {v : Value} {l : List UInt8} (h : OwnB w b v l) (hb : b' ≤ b) : OwnB w b' v l := by
  refine ⟨h.1, ?_⟩
  rcases h.2 with h | ⟨g, cap, cur, h1, h2, h3⟩
  · exact .inl h
  · exact .inr ⟨g, cap, cur, h1, by omega, h3⟩
theorem GivesB.from {w w1 : World} {l : List UInt8} {e : Ending} {w' : World} (h : GivesB w1 l e w') (hb : Below w.heap.size w w1) : GivesB w l e w' := by
  obtain ⟨v, he, hown, hB⟩ := h
  exact ⟨v, he, hown.base hb.size, hb.trans (hB.mono hb.size)⟩
/-- Concat of two, in a block just laid; of three. -/
theorem concat2_gives (W : World) (A A2 : Option Addr) (c c2 : Nat) (l l2 : List UInt8) (hin : InB W W.heap.size A c l) (hin2 : InB W W.heap.size A2 c2 l2) (hf : l.length + l2.length ≤ 1000000000) :
    Calls Try.prog 142 #[.slice (some ⟨W.heap.size, 0, none⟩) 2 2] (W.alloc (.cells #[.slice A l.length c, .slice A2 l2.length c2] 30)) (GivesB W (l ++ l2)) := by
  have hN := Lists.new (w := W) [((A, c), l), ((A2, c2), l2)] (by
    intro x hx
    simp only [List.mem_cons, List.not_mem_nil, or_false] at hx
    rcases hx with rfl | rfl
    · exact hin
    · exact hin2)
  have h := concatL_gives hN (by simp) (by simpa using hf)
  refine h.mono fun e w' hg => ?_
  have := hg.from ((Below.refl _ W).alloc (Nat.le_refl _) _)
  simpa using this

namespace Reg
variable {L : List (Nat × Fact)} {ops : Array Oper} {w0 : World} {o : Oper}
theorem l_build4 (t1 t2 t3 t4 : Tmp) (l1 l2 l3 l4 : List UInt8) (ho : o.op = .buildSlice 168 4 #[(0, .tmp t1), (1, .tmp t2), (2, .tmp t3), (3, .tmp t4)])
    (c1 : (o.looksAt ops).contains t1 = true) (c2 : (o.looksAt ops).contains t2 = true) (c3 : (o.looksAt ops).contains t3 = true) (c4 : (o.looksAt ops).contains t4 = true)
    (f1 : factOf L t1 = .res l1) (f2 : factOf L t2 = .res l2) (f3 : factOf L t3 = .res l3) (f4 : factOf L t4 = .res l4) (hd : FD L o.dst = .pred (Lists [l1, l2, l3, l4]) (lists_stable _)) : RunOk Try.prog ops (FSof L) w0 o := by
  intro a w K Q hG hl hK
  have g1 : (factOf L t1).holds (a.eval (.tmp t1)) w := hl t1 c1
  have g2 : (factOf L t2).holds (a.eval (.tmp t2)) w := hl t2 c2
  have g3 : (factOf L t3).holds (a.eval (.tmp t3)) w := hl t3 c3
  have g4 : (factOf L t4).holds (a.eval (.tmp t4)) w := hl t4 c4
  rw [f1] at g1
  rw [f2] at g2
  rw [f3] at g3
  rw [f4] at g4
  obtain ⟨A1, k1, e1, h1⟩ := g1
  obtain ⟨A2, k2, e2, h2⟩ := g2
  obtain ⟨A3, k3, e3, h3⟩ := g3
  obtain ⟨A4, k4, e4, h4⟩ := g4
  have hN := Lists.new (w := w) [((A1, k1), l1), ((A2, k2), l2), ((A3, k3), l3), ((A4, k4), l4)] (by
    intro x hx
    simp only [List.mem_cons, List.not_mem_nil, or_false] at hx
    rcases hx with rfl | rfl | rfl | rfl
    · exact h1
    · exact h2
    · exact h3
    · exact h4)
  have key : ∀ ρ : Operand → Value, ρ (.tmp t1) = .slice A1 l1.length k1 → ρ (.tmp t2) = .slice A2 l2.length k2 → ρ (.tmp t3) = .slice A3 l3.length k3 → ρ (.tmp t4) = .slice A4 l4.length k4 →
      (execOp ρ o).run Try.prog w = .ok (.value (.slice (some ⟨w.heap.size, 0, none⟩) 4 4)) (w.alloc (.cells #[.slice A1 l1.length k1, .slice A2 l2.length k2, .slice A3 l3.length k3, .slice A4 l4.length k4] 30)) :=
    fun ρ h1 h2 h3 h4 => by simp [execOp, ho, h1, h2, h3, h4, go_sem, Result.andThen]
  unfold Oper.wp
  rw [key _ e1 e2 e3 e4]
  exact hK _ _ (Grow.alloc _ _) (fsd hd hN)
end Reg
end Go.Proofs.Ytlelckdcmlpmdaa
/- Maps that lie in a block: made, written, read. -/
namespace Go.Proofs.Ytlelckdcmlpmdaa
open Go Go.RowKit Lou

/-- The map's entries. -/
def MapIs (w : World) (r : Nat) (es : Array MapEntry) (clock : Nat) : Prop := w.heap[r]? = some (.map es clock)
theorem MapIs.lt {w : World} {r : Nat} {es : Array MapEntry} {clock : Nat} (h : MapIs w r es clock) : r < w.heap.size := (Array.getElem?_eq_some_iff.1 h).1
theorem MapIs.below {w w' : World} {B r : Nat} {es : Array MapEntry} {clock : Nat} (h : MapIs w r es clock) (hB : Below B w w') (hr : r < B) : MapIs w' r es clock := (hB.block r hr).trans h
theorem MapIs.grown {w w' : World} {r : Nat} {es : Array MapEntry} {clock : Nat} {row : Option Nat} (h : MapIs w r es clock) (hg : w.grownBy w' row) (hr : some r ≠ row) : MapIs w' r es clock := (hg.block r h.lt hr).trans h
/-- Another map in its place. -/
def setMap (w : World) (r : Nat) (es : Array MapEntry) (clock : Nat) : World := { w with heap := w.heap.setIfInBounds r (.map es clock) }
theorem MapIs.set {w : World} {r : Nat} {es : Array MapEntry} {clock : Nat} (h : MapIs w r es clock) (es' : Array MapEntry) (clock' : Nat) : MapIs (setMap w r es' clock') r es' clock' := (MapKept.heap_set (o' := .map es' clock') h).1
theorem setMap_grown {w : World} {r : Nat} {es : Array MapEntry} {clock : Nat} (h : MapIs w r es clock) (es' : Array MapEntry) (clock' : Nat) : w.grownBy (setMap w r es' clock') (some r) :=
  ⟨rfl, rfl, rfl, by simp [setMap], fun k _ hk => (MapKept.heap_set (o' := .map es' clock') h).2 k (fun e => hk (by rw [e]))⟩
theorem setMap_size (w : World) (r : Nat) (es : Array MapEntry) (clock : Nat) : (setMap w r es clock).heap.size = w.heap.size := by simp [setMap]
theorem setMap_below {w : World} {B r : Nat} {es : Array MapEntry} {clock : Nat} (h : MapIs w r es clock) (hB : B ≤ r) (es' : Array MapEntry) (clock' : Nat) : Below B w (setMap w r es' clock') :=
  ⟨rfl, rfl, rfl, by simp [setMap], fun k hk => (MapKept.heap_set (o' := .map es' clock') h).2 k (by omega)⟩
theorem MapIs.setOther {w : World} {r q : Nat} {es es0 : Array MapEntry} {clock clock0 : Nat} (h : MapIs w r es clock) (h0 : MapIs w q es0 clock0) (hq : r ≠ q) (es' : Array MapEntry) (clock' : Nat) : MapIs (setMap w q es' clock') r es clock := ((MapKept.heap_set (o' := .map es' clock') h0).2 r hq).trans h
theorem BlkIs.setMap {w : World} {g q : Nat} {t : TypeId} {cs : Array Value} {es0 : Array MapEntry} {clock0 : Nat} (h : BlkIs w g t cs) (h0 : MapIs w q es0 clock0) (es' : Array MapEntry) (clock' : Nat) : BlkIs (setMap w q es' clock') g t cs := by
  have hne : g ≠ q := by
    intro e
    subst e
    have h' : w.heap[g]? = some (.cells cs t (0, 0)) := h
    rw [show w.heap[g]? = some (.map es0 clock0) from h0] at h'
    cases h'
  exact ((MapKept.heap_set (o' := .map es' clock') h0).2 g hne).trans h

section
variable {P : Program} {w : World} {mty kt et : TypeId} {d : TypeDesc} {r clock : Nat} {es : Array MapEntry} {key val : Value}
theorem run_put_new (hm : P.underlying mty = some (.map kt et)) (hd : P.underlying kt = some d) (hk : MapKept.IsKey d key) (hb : MapIs w r es clock) (hf : Instr.findNow d key es.toList 0 = some none) :
    (Instr.mapUpdate mty (.map (some r)) key val).run P w = .ok () (setMap w r (es.push { key := key, val := val, born := clock }) (clock + 1)) := by
  have hc : (Instr.checkKey false 10000 kt key).run P w = .ok () w := MapKept.run_checkKey hd hk false 9999
  simp [Instr.mapUpdate, run_underlying hm, MapKept.run_getObj_map hb, hc, MapKept.run_findKey hd hf, MapKept.run_setObj_map _ hb, Result.andThen, setMap]
theorem run_get (hm : P.underlying mty = some (.map kt et)) (hd : P.underlying kt = some d) (hk : MapKept.IsKey d key) (hb : MapIs w r es clock) {i : Nat} {v : Value} (hf : Instr.findNow d key es.toList 0 = some (some (i, v))) :
    (Instr.lookup mty (.map (some r)) key false).run P w = .ok v w := by
  have hc : (Instr.checkKey es.isEmpty 10000 kt key).run P w = .ok () w := MapKept.run_checkKey hd hk _ 9999
  simp [Instr.lookup, run_underlying hm, MapKept.run_getObj_map hb, hc, MapKept.run_findKey hd hf, Result.andThen]
end
section
variable {P : Program} {w : World} {ops : Array Oper} {rest : List Oper} {o : Oper} {a : Act} {Q : Exit → Act → World → Prop} {mty kt et : TypeId} {d : TypeDesc} {r clock : Nat} {es : Array MapEntry} {key val : Value}
theorem wp_makeMap (hg : o.guard = none) (ho : o.op = .makeMap mty none) (h : MapIs (w.alloc (.map #[] 0)) w.heap.size #[] 0 → wpList P ops Q rest (a.put o.dst (.map (some w.heap.size))) (w.alloc (.map #[] 0))) : wpList P ops Q (o :: rest) a w :=
  wpList_plain hg fun _ hK => by
    unfold Oper.wp execOp
    simp only [ho, Option.map_none, run_makeMap, Sem.run_bind, Result.andThen_ok, Sem.run_pure]
    exact hK _ _ (h (heap_alloc_new w _))
theorem wp_put_new (hg : o.guard = none) (m x y : Operand) (ho : o.op = .insert mty m x y ∨ o.op = .mapUpdate mty m x y) (hm : P.underlying mty = some (.map kt et)) (hd : P.underlying kt = some d) (hk : MapKept.IsKey d key) (e1 : a.eval m = .map (some r)) (e2 : a.eval x = key) (e3 : a.eval y = val)
    (hb : MapIs w r es clock) (hf : Instr.findNow d key es.toList 0 = some none)
    (h : ∀ w', MapIs w' r (es.push { key := key, val := val, born := clock }) (clock + 1) → w.grownBy w' (some r) → wpList P ops Q rest (a.put o.dst undef) w') : wpList P ops Q (o :: rest) a w :=
  wpList_plain hg fun _ hK => by
    unfold Oper.wp execOp
    rcases ho with ho | ho <;> simp only [ho, e1, e2, e3, run_put_new hm hd hk hb hf, Sem.run_bind, Result.andThen_ok, Sem.run_pure] <;> exact hK _ _ (h _ (hb.set _ _) (setMap_grown hb _ _))
theorem BlkIs.grownMap {w w' : World} {g r : Nat} {t : TypeId} {cs : Array Value} {es : Array MapEntry} {clock : Nat} (h : BlkIs w g t cs) (hm : MapIs w r es clock) (hg : w.grownBy w' (some r)) : BlkIs w' g t cs := by
  refine h.grown hg (fun e => ?_)
  injection e with e
  subst e
  have h' : w.heap[g]? = some (.cells cs t (0, 0)) := h
  rw [show w.heap[g]? = some (.map es clock) from hm] at h'
  cases h'
end
end Go.Proofs.Ytlelckdcmlpmdaa
