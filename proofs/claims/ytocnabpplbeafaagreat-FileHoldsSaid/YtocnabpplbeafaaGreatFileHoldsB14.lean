/- Texts that the proof of FileHolds leans on, part 14. -/
import Derived.Test.YtocnabpplbeafaaGreatFileHoldsB13
/- wal: Open of a disk that has stopped. -/
namespace Go.Proofs.YtocnabpplbeafaaGreat
open Go Go.RowKit Lou

set_option maxRecDepth 100000 in
theorem wread_stop (w : World) (l d many : Nat) (s : DS) (hD : DkS w d many s) (hst : s.stopped = true) (hc : w.cell? ⟨l, 0, none⟩ = some (.pointer (some ⟨d, 0, none⟩))) (k : Nat) (hk : k < many) (hmax : many ≤ 1000000) :
    Calls Tryz.prog 74 #[.pointer (some ⟨l, 0, none⟩), .int .i64 (k : Int), .int .i64 1] w fun e w' => e = .returned (.tuple #[.slice none 0 0, .int .i64 140]) ∧ Below w.heap.size w w' := by
  have hrd : rdE (many : Int) (k : Int) (relL s.st s.left) = 140 := by
    have h := hst
    unfold DS.stopped at h
    rw [relL_stopped] at h
    have h2 := of_decide_eq_true h
    unfold rdE
    rw [if_neg (by omega), if_pos h2]
  have HR := read_bad w d many s.g s.xs s.left s.st hD (k : Int) (by rw [hrd]; decide)
  rw [hrd] at HR
  have hwa : IntKind.i64.wrap (k : Int) = (k : Int) := wrap_i64_fr _ (by omega) (by omega)
  clear hrd hD
  go_enter Tryz.func74, Tryz.ntmps74
  go_wp2
  go_loopw [12, 6] (fun i v wr => i = .int .i64 0 ∧ wr = w) (fun _ _ _ => 0)
  case atStart => exact ⟨rfl, rfl⟩
  case round =>
    obtain ⟨rfl, rfl⟩ := hrel
    go_wp2_with (go_at_call 99; refine HR.mono ?_; rintro e w2 ⟨rfl, hB2⟩)
    exact bodyPost_ret (results_tmp2 rfl _ _ _) rfl ⟨rfl, hB2⟩
set_option maxRecDepth 100000 in
set_option maxHeartbeats 4000000 in
theorem head_stop (w : World) (l d many : Nat) (s : DS) (hD : DkS w d many s) (hst : s.stopped = true) (hc : w.cell? ⟨l, 0, none⟩ = some (.pointer (some ⟨d, 0, none⟩))) (hll : l < w.heap.size) (hm2 : 2 ≤ many) (hmax : many ≤ 1000000) :
    Calls Tryz.prog 39 #[.pointer (some ⟨l, 0, none⟩)] w fun e w' => e = .returned (.tuple #[.agg HdP.zero.l.toArray, .bool false, .int .i64 140]) ∧ Below w.heap.size w w' := by
  have HR : ∀ (W : World), Below w.heap.size w W → Calls Tryz.prog 74 #[.pointer (some ⟨l, 0, none⟩), .int .i64 0, .int .i64 1] W fun e w' => e = .returned (.tuple #[.slice none 0 0, .int .i64 140]) ∧ Below W.heap.size W w' := fun W hB =>
    wread_stop W l d many s (hD.grow hB) hst ((hB.cell (p := ⟨l, 0, none⟩) hll).trans hc) 0 (by omega) hmax
  have b0 := (BlkIs.new w 89 #[.int .u64 0, .int .u64 0, .int .i64 0, .int .i64 0]).alloc (.cells #[.int .u64 0, .int .u64 0, .int .i64 0, .int .i64 0, .int .u64 0, .int .u64 0, .int .i64 0, .int .i64 0] 123)
  have hBb : Below w.heap.size w ((w.alloc (.cells #[.int .u64 0, .int .u64 0, .int .i64 0, .int .i64 0] 89)).alloc (.cells #[.int .u64 0, .int .u64 0, .int .i64 0, .int .i64 0, .int .u64 0, .int .u64 0, .int .i64 0, .int .i64 0] 123)) := ((Below.refl _ w).alloc (Nat.le_refl _) _).alloc (by simp) _
  clear hD
  go_enter Tryz.func39, Tryz.ntmps39
  go_wp2
  go_loopw [13, 6] (fun i v wr => i = .int .i64 0 ∧ v = .bool false ∧ BlkIs wr w.heap.size 89 HdP.zero.l.toArray ∧ Below w.heap.size w wr) (fun _ _ _ => 0)
  case atStart => exact ⟨rfl, rfl, b0, hBb⟩
  case round =>
    clear b0 hBb
    obtain ⟨rfl, rfl, c0, hB⟩ := hrel
    have HRk := HR wr hB
    clear HR
    go_wp2_with (first
      | (go_at_call 74; refine HRk.mono ?_; rintro e w2 ⟨rfl, hB2⟩; have c2 := c0.below hB2 c0.lt)
      | (refine wp_storeW rfl 89 (.tmp 2) (.tmp 26) rfl w.heap.size rfl rfl rowHead c2 rfl rfl (HdP.one HdP.zero) ?_))
    exact bodyPost_ret_by (results_cellW_tmp2 2 3 4 rfl rfl rfl rfl rowHead (c2.setRow _) (by rfl)) rfl ⟨rfl, below_setRow (hB.trans (hB2.mono hB.size)) (Nat.le_refl _) _⟩
set_option maxRecDepth 100000 in
set_option maxHeartbeats 8000000 in
theorem open_stop (w : World) (fr pg : Int) (d many : Nat) (s : DS) (hD : DkS w d many s) (hst : s.stopped = true) (hok : planOk fr pg = true) (hm : (many : Int) = 2 + 9 * fr + 8 * pg) (hmax : many ≤ 1000000) :
    Calls Tryz.prog 11 #[.pointer (some ⟨d, 0, none⟩), .agg #[.int .i64 fr, .int .i64 pg]] w fun e w' => e = .returned (.tuple #[.pointer none, .int .i64 140]) ∧ Below w.heap.size w w' := by
  have hpl := (planOk_iff fr pg).1 hok
  have hB0 : Below w.heap.size w (w.alloc (.cells #[.int .i64 fr, .int .i64 pg] 23)) := (Below.refl _ w).alloc (Nat.le_refl _) _
  have b0 := BlkIs.new w 23 #[.int .i64 fr, .int .i64 pg]
  have HS := sectors_gives fr pg (w.alloc (.cells #[.int .i64 fr, .int .i64 pg] 23))
  have hp0 : plE (planOk fr pg) 0 1 = 0 := by rw [hok]; rfl
  unfold atV at HS
  rw [hp0, if_pos rfl, ← hm] at HS
  have hm0 : ¬ (many : Int) = 0 := by omega
  have hdl := hD.lt
  have hm2 : 2 ≤ many := by omega
  clear hm hok
  go_enter Tryz.func11, Tryz.ntmps11
  go_wp2_with fail
  refine wp_scope_jumps (rest := ?rest) 0 (fun a w' => OpNone 140 a ∧ Below w.heap.size w w') (fun _ _ => 0) ?hf ?first ?pass
  case hf => exact rfl
  case pass =>
    rintro a w' ⟨⟨u0, u1, u2, u3, u4, u5, u6, u8, u9, u10, u11, u12, u13, u14, u15, u16, u17, u18, u19, u20, u21, u22, u23, u24, u25, u26, u27, u28, u29, u30, u31, u32, u33, u34, u35, u36, u37, u38, u39, u40, u41, u42, u43, u44, u45, u46, u47, u48, u49, u50, u51, u52, u53, u54, u55, u56, u57, u58, u59, u60, u61, u62, u63, u64, u65, u66, u67, u68, u69, u70, rfl⟩, hB⟩
    go_wp2
    simp only [Exit.jump]
    go_wp2
    refine bodyPost_ret (results_tmp2 rfl _ _ _) rfl ?_
    exact ⟨rfl, hB⟩
  case first =>
    go_wp2_with (first
      | (refine wp_loadW rfl 23 (.tmp 3) rfl w.heap.size rfl rowPlan b0 rfl ?_)
      | (go_at_call 37; refine HS.mono ?_; rintro e w1 ⟨rfl, hB1⟩; have b1 := b0.below hB1 b0.lt; have k0 : w1.cell? ⟨w.heap.size, 0, none⟩ = some (.int .i64 fr) := (by rw [b1.cell]; rfl); have k1 : w1.cell? ⟨w.heap.size, 1, none⟩ = some (.int .i64 pg) := (by rw [b1.cell]; rfl); have hB01 := hB0.trans (hB1.mono hB0.size); have hs1 := hB01.size; have hB03 : Below w.heap.size w ((w1.alloc (.cells #[.pointer (some ⟨d, 0, none⟩), .int .i64 fr, .int .i64 pg, .int .u64 0, .int .u64 0, .int .i64 0, .slice none 0 0] 57)).alloc (.cells #[.int .u64 0, .int .u64 0, .int .i64 0, .int .i64 0] 89)) := (hB01.alloc hB01.size _).alloc (by have := hB01.size; simp; omega) _; have hD3 : DkS _ d many s := hD.grow hB03; have HL := len_gives _ d many s.g s.xs s.left s.st hD3; have bl : BlkIs ((w1.alloc (.cells #[.pointer (some ⟨d, 0, none⟩), .int .i64 fr, .int .i64 pg, .int .u64 0, .int .u64 0, .int .i64 0, .slice none 0 0] 57)).alloc (.cells #[.int .u64 0, .int .u64 0, .int .i64 0, .int .i64 0] 89)) w1.heap.size 57 (lgC (some ⟨d, 0, none⟩) fr pg 0 0 0 none 0 0) := (BlkIs.new w1 _ _).alloc _; have bh : BlkIs ((w1.alloc (.cells #[.pointer (some ⟨d, 0, none⟩), .int .i64 fr, .int .i64 pg, .int .u64 0, .int .u64 0, .int .i64 0, .slice none 0 0] 57)).alloc (.cells #[.int .u64 0, .int .u64 0, .int .i64 0, .int .i64 0] 89)) (w1.heap.size + 1) 89 #[.int .u64 0, .int .u64 0, .int .i64 0, .int .i64 0] := (by have := BlkIs.new (w1.alloc (.cells #[.pointer (some ⟨d, 0, none⟩), .int .i64 fr, .int .i64 pg, .int .u64 0, .int .u64 0, .int .i64 0, .slice none 0 0] 57)) 89 #[.int .u64 0, .int .u64 0, .int .i64 0, .int .i64 0]; rw [World.size_alloc] at this; exact this); have kl : World.cell? ((w1.alloc (.cells #[.pointer (some ⟨d, 0, none⟩), .int .i64 fr, .int .i64 pg, .int .u64 0, .int .u64 0, .int .i64 0, .slice none 0 0] 57)).alloc (.cells #[.int .u64 0, .int .u64 0, .int .i64 0, .int .i64 0] 89)) ⟨w1.heap.size, 0, none⟩ = some (.pointer (some ⟨d, 0, none⟩)) := (by rw [bl.cell]; rfl))
      | (go_at_call 38; refine HL.mono ?_; rintro e w' ⟨rfl, rfl⟩)
      | (go_at_call 39; refine (head_stop _ w1.heap.size d many s hD3 hst kl bl.lt hm2 hmax).mono ?_; rintro e w4 ⟨rfl, hB4⟩; have bh4 := bh.below hB4 bh.lt; have hB04 := hB03.trans (hB4.mono hB03.size))
      | (refine wp_storeW rfl 89 (.tmp 9) (.tmp 35) rfl (w1.heap.size + 1) rfl rfl rowHead bh4 rfl rfl (HdP.one HdP.zero) ?_; have hB05 : Below w.heap.size w (w4.setRow (w1.heap.size + 1) HdP.zero.l.toArray) := below_setRow hB04 (by omega) _))
    go_step3
    exact ⟨rfl, by repeat (first | exact rfl | apply Exists.intro), hB05⟩
end Go.Proofs.YtocnabpplbeafaaGreat
/- loupelaw06.page: 512 bytes alike; num. -/
namespace Go.Proofs.YtocnabpplbeafaaGreat
open Go Go.RowKit Lou

def pgL (v : UInt8) : List UInt8 := List.replicate 512 v
theorem fill_nextP (v : UInt8) (k : Nat) (h : k < 512) : (List.replicate k v ++ List.replicate (512 - k) (0 : UInt8)).set k v = List.replicate (k + 1) v ++ List.replicate (512 - (k + 1)) 0 := by
  rw [List.set_append_right _ _ (by simp)]
  have e : 512 - k = (512 - (k + 1)) + 1 := by omega
  rw [List.length_replicate, Nat.sub_self, e, List.replicate_succ, List.set_cons_zero, List.replicate_succ', List.append_assoc]
  rfl
end Go.Proofs.YtocnabpplbeafaaGreat
/- loupelaw06.writes: the pages that an act appends. -/
namespace Go.Proofs.YtocnabpplbeafaaGreat
open Go Go.RowKit Lou

def pwC (v : Int × Option Addr × Nat) : List Value := [.int .i64 v.1, .slice v.2.1 512 v.2.2]
def pwsC (vs : List (Int × Option Addr × Nat)) : List Value := (vs.map pwC).flatten
theorem pwsC_snoc (vs : List (Int × Option Addr × Nat)) (x : Int × Option Addr × Nat) : pwsC (vs ++ [x]) = pwsC vs ++ pwC x := by simp [pwsC]
theorem pwsC_one (vs : List (Int × Option Addr × Nat)) : ∀ v ∈ pwsC vs, v.oneCell' = true := by
  intro v hv
  unfold pwsC at hv
  obtain ⟨l, hl, hvl⟩ := List.mem_flatten.1 hv
  obtain ⟨x, _, rfl⟩ := List.mem_map.1 hl
  simp [pwC] at hvl
  rcases hvl with rfl | rfl <;> rfl
theorem pwsC_get : ∀ (vs : List (Int × Option Addr × Nat)) (k : Nat) (h : k < vs.length) (j : Nat) (v : Value), (pwC vs[k])[j]? = some v → (pwsC vs)[k * 2 + j]? = some v
  | x :: vs, 0, _, j, v, hv => by
    have hj : j < (pwC x).length := (List.getElem?_eq_some_iff.1 hv).1
    have e : pwsC (x :: vs) = pwC x ++ pwsC vs := rfl
    rw [e, Nat.zero_mul, Nat.zero_add, List.getElem?_append_left hj]
    exact hv
  | x :: vs, k + 1, h, j, v, hv => by
    have e : pwsC (x :: vs) = pwC x ++ pwsC vs := rfl
    have hl : (pwC x).length = 2 := rfl
    rw [e, List.getElem?_append_right (by rw [hl]; omega), hl, show (k + 1) * 2 + j - 2 = k * 2 + j by omega]
    exact pwsC_get vs k (by simpa using h) j v hv
/-- A page that an act appends. -/
def pwOf (ps : List Int) (bs : List UInt8) (k : Nat) : Int × List UInt8 := (ps.getD k 0, pgL (bs.getD k 0))
/-- What comes of it. -/
def WrsOut (ps : List Int) (bs : List UInt8) (w : World) (e : Ending) (w' : World) : Prop := ∃ A1 c xs, e = .returned (.slice A1 ps.length c) ∧ (1 ≤ ps.length → ∃ g o, A1 = some ⟨g, o, none⟩ ∧ PwIn w' g o ps.length xs ∧ g < w'.heap.size) ∧
  (∀ k, k < ps.length → (pwOf ps bs k).1 = (xs k).1 ∧ (pwOf ps bs k).2.length = 512 ∧ InB w' w'.heap.size (xs k).2.1 (xs k).2.2 (pwOf ps bs k).2) ∧ Below w.heap.size w w' ∧ (∀ g o, A1 = some ⟨g, o, none⟩ → w.heap.size ≤ g) ∧ ∀ k, k < ps.length → TyB w' (xs k).2.1
theorem elPW : ElT 44 80 2 32 (.agg #[.int .i64 0, .slice none 0 0]) := ⟨Tryz.underlying44, by kernel_rfl, by kernel_rfl, by decide⟩
/-- What lies there behind so many. -/
def PwRel (base : Nat) (ps : List Int) (bs : List UInt8) (i v : Value) (W0 wr : World) : Prop := ∃ k : Nat, k ≤ ps.length ∧ i = .int .i64 (k : Int) ∧ Below W0.heap.size W0 wr ∧ ∃ vk : List (Int × Option Addr × Nat), vk.length = k ∧ wr.ownsRow base 80 2 v k (pwsC vk) ∧
  ∀ j (h : j < vk.length), vk[j].1 = ps.getD j 0 ∧ InB wr wr.heap.size vk[j].2.1 vk[j].2.2 (pgL (bs.getD j 0)) ∧ TyB wr vk[j].2.1
end Go.Proofs.YtocnabpplbeafaaGreat
/- loupelaw06: rows of acts; small. -/
namespace Go.Proofs.YtocnabpplbeafaaGreat
open Go Go.RowKit Lou

/-- An act, and where its slices lie. -/
structure AcV where
  what : Int
  size : Int
  ps : List Int
  P : Option Addr
  pc : Nat
  bs : List UInt8
  B : Option Addr
  bc : Nat
  ks : List Bool
  K : Option Addr
  kc : Nat
def acC (x : AcV) : List Value := [.int .i64 x.what, .int .i64 x.size, .slice x.P x.ps.length x.pc, .slice x.B x.bs.length x.bc, .slice x.K x.ks.length x.kc]
def acsV (xs : List AcV) : List Value := (xs.map acC).flatten
theorem acsV_elem : ∀ (xs : List AcV) (j : Nat) (h : j < xs.length), ((acsV xs).drop (j * 5)).take 5 = acC xs[j]
  | x :: xs, 0, _ => by
    have e : acsV (x :: xs) = acC x ++ acsV xs := rfl
    rw [e]
    rfl
  | x :: xs, j + 1, h => by
    have e : acsV (x :: xs) = acC x ++ acsV xs := rfl
    rw [e, show (j + 1) * 5 = 5 + j * 5 from by omega, ← List.drop_drop]
    have e2 : (acC x ++ acsV xs).drop 5 = acsV xs := rfl
    rw [e2, acsV_elem xs j (by simpa using h)]
    rfl
theorem acC_one (x : AcV) : ∀ v ∈ acC x, v.oneCell' = true := by
  intro v hv
  simp [acC] at hv
  rcases hv with rfl | rfl | rfl | rfl | rfl <;> rfl
/-- What an act's slices hold. -/
structure AcIs (w : World) (B : Nat) (x : AcV) : Prop where
  pages : InG w B 1 x.P x.ps.length x.pc (x.ps.map (Value.int .i64))
  bytes : InB w B x.B x.bc x.bs
  keep : InG w B 1 x.K x.ks.length x.kc (x.ks.map Value.bool)
/-- Small enough. -/
def SmallP (fr pg : Int) (xs : List AcV) (most : Nat) : Prop := (∀ x ∈ xs, x.ps.length ≤ 6 ∧ x.ks.length ≤ 80) ∧ planOk fr pg = true ∧ fr ≤ 6 ∧ pg ≤ 4 ∧ xs.length ≤ most
def SmallR (w : World) (P : Prop) (e : Ending) (w' : World) : Prop := ∃ r : Bool, e = .returned (.bool r) ∧ Below w.heap.size w w' ∧ (r = true ↔ P)
theorem SmallR.no {w w' : World} {P : Prop} {e : Ending} (h : e = .returned (.bool false)) (hB : Below w.heap.size w w') (hP : ¬ P) : SmallR w P e w' := ⟨false, h, hB, (fun e => by cases e), fun h => absurd h hP⟩
theorem SmallR.yes {w w' : World} {P : Prop} {e : Ending} (h : e = .returned (.bool true)) (hB : Below w.heap.size w w') (hP : P) : SmallR w P e w' := ⟨true, h, hB, fun _ => hP, fun _ => rfl⟩
end Go.Proofs.YtocnabpplbeafaaGreat
/- wal: Reset of any log, whatever stop is set. -/
namespace Go.Proofs.YtocnabpplbeafaaGreat
open Go Go.RowKit Lou

/-- What Reset answers, and leaves. -/
def RstOut (s : DS) (S : LgS) (x : Int) (s' : DS) (S' : LgS) : Prop :=
  ∃ r, r = layD s (wrL ((S.sr + 1) % 2) (hEnc (S.sr + 1) (S.ep + 1) S.sz 0) 1) ∧ x = r.2 ∧ s' = r.1 ∧ ((x = 0 ∧ S' = ⟨S.sr + 1, S.ep + 1, S.sz, []⟩) ∨ (¬ x = 0 ∧ S' = S))
set_option maxRecDepth 100000 in
set_option maxHeartbeats 8000000 in
theorem resetR_gives (w : World) (l d many : Nat) (s : DS) (fr pg : Int) (sr ep : Nat) (sz : Int) (A : Option Addr) (n c : Nat) (R : DS × Int) (hR : layD s (wrL ((sr + 1) % 2) (hEnc (sr + 1) (ep + 1) sz 0) 1) = R) (hD : DkS w d many s) (hO : s.Ok) (hl : s.xs.length ≤ 800000) (hlg : BlkIs w l 57 (lgC (some ⟨d, 0, none⟩) fr pg sr ep sz A n c)) (hld : l ≠ d) (hok : headOk sz 0 = true) (hm2 : 2 ≤ many) (hmax : many ≤ 1000000) (hsr : sr + 1 < 18446744073709551616) (hep : ep + 1 < 18446744073709551616) :
    Calls Tryz.prog 13 #[.pointer (some ⟨l, 0, none⟩)] w fun e w' => e = .returned (.int .i64 R.2) ∧ DkS w' d many R.1 ∧ ((R.2 = 0 ∧ BlkIs w' l 57 (lgC (some ⟨d, 0, none⟩) fr pg (sr + 1) (ep + 1) sz none 0 0)) ∨ (¬ R.2 = 0 ∧ BlkIs w' l 57 (lgC (some ⟨d, 0, none⟩) fr pg sr ep sz A n c))) ∧ GrowBut (fun k => k = d ∨ k = l) w w' := by
  have HN := lnone_gives hlg
  have T3 : ∀ W, BlkIs W l 57 (lgC (some ⟨d, 0, none⟩) fr pg sr ep sz A n c) → W.cell? ⟨l, 3, none⟩ = some (.int .u64 (sr : Int)) := fun W hW => by rw [hW.cell]; rfl
  have T4 : ∀ W, BlkIs W l 57 (lgC (some ⟨d, 0, none⟩) fr pg sr ep sz A n c) → W.cell? ⟨l, 4, none⟩ = some (.int .u64 (ep : Int)) := fun W hW => by rw [hW.cell]; rfl
  have T5 : ∀ W, BlkIs W l 57 (lgC (some ⟨d, 0, none⟩) fr pg sr ep sz A n c) → W.cell? ⟨l, 5, none⟩ = some (.int .i64 sz) := fun W hW => by rw [hW.cell]; rfl
  have HL := layS_gives w.drew l d many s (sr + 1) (ep + 1) sz 0 fr pg sr ep sz A n c (hD.grow (Below.refl _ _).drew) hO hl hlg.drew hld hok hm2 hmax
  rw [hR] at HL
  clear hR
  obtain ⟨s6, z⟩ := R
  simp only at HL ⊢
  rw [show ((sr + 1 : Nat) : Int) = (sr : Int) + 1 by omega, show ((ep + 1 : Nat) : Int) = (ep : Int) + 1 by omega] at HL
  have hw1 : IntKind.u64.wrap ((sr : Int) + 1) = (sr : Int) + 1 := by rw [IntKind.wrap_u64]; omega
  have hw2 : IntKind.u64.wrap ((ep : Int) + 1) = (ep : Int) + 1 := by rw [IntKind.wrap_u64]; omega
  have hS0 := hlg.drew
  go_enter Tryz.func13, Tryz.ntmps13
  go_wp2_with (go_at_call 42; refine HN.mono ?_; rintro e w' ⟨rfl, rfl⟩)
  refine RegM.start (fun W => BlkIs W l 57 (lgC (some ⟨d, 0, none⟩) fr pg sr ep sz A n c)) [16, 17] (by kernel_rfl) ?_
  refine RegM.take1 0 (.pointer (some ⟨l, 0, none⟩)) rfl (by kernel_rfl) (by kernel_rfl) (by kernel_rfl) (by kernel_rfl) (by kernel_rfl) rfl (fun _ _ _ h => h) hS0 (RegF.yld rfl (fun W hW => by go_simp)) ?_
  simp only [List.getElem_toArray, List.getElem_cons_zero, Act.put, List.setIfInBounds_toArray, List.set_cons_zero, List.set_cons_succ]
  refine RegM.take1 1 (.pointer (some ⟨l, 0, none⟩)) rfl (by kernel_rfl) (by kernel_rfl) (by kernel_rfl) (by kernel_rfl) (by kernel_rfl) rfl (fun _ _ _ h => h) hS0 (RegF.yld rfl (fun W hW => by go_simp)) ?_
  simp only [List.getElem_toArray, List.getElem_cons_succ, List.getElem_cons_zero, Act.put, List.setIfInBounds_toArray, List.set_cons_zero, List.set_cons_succ]
  refine RegM.take1 2 (.pointer (some ⟨l, 0, none⟩)) rfl (by kernel_rfl) (by kernel_rfl) (by kernel_rfl) (by kernel_rfl) (by kernel_rfl) rfl (fun _ _ _ h => h) hS0 (RegF.yld rfl (fun W hW => by go_simp)) ?_
  simp only [List.getElem_toArray, List.getElem_cons_succ, List.getElem_cons_zero, Act.put, List.setIfInBounds_toArray, List.set_cons_zero, List.set_cons_succ]
  refine RegM.take1 3 (.pointer (some ⟨l, 3, none⟩)) rfl (by kernel_rfl) (by kernel_rfl) (by kernel_rfl) (by kernel_rfl) (by kernel_rfl) rfl (fun _ _ _ h => h) hS0 (RegF.yld rfl (fun W hW => by go_simp)) ?_
  simp only [List.getElem_toArray, List.getElem_cons_succ, List.getElem_cons_zero, Act.put, List.setIfInBounds_toArray, List.set_cons_zero, List.set_cons_succ]
  refine RegM.take1 4 (.int .u64 (sr : Int)) rfl (by kernel_rfl) (by kernel_rfl) (by kernel_rfl) (by kernel_rfl) (by kernel_rfl) rfl (fun _ _ _ h => h) hS0 (RegF.yld rfl (fun W hW => by have q := T3 W hW; go_simp)) ?_
  simp only [List.getElem_toArray, List.getElem_cons_succ, List.getElem_cons_zero, Act.put, List.setIfInBounds_toArray, List.set_cons_zero, List.set_cons_succ]
  refine RegM.take1 5 (.int .u64 ((sr : Int) + 1)) rfl (by kernel_rfl) (by kernel_rfl) (by kernel_rfl) (by kernel_rfl) (by kernel_rfl) rfl (fun _ _ _ h => h) hS0 (RegF.yld rfl (fun W hW => by go_simp)) ?_
  simp only [List.getElem_toArray, List.getElem_cons_succ, List.getElem_cons_zero, Act.put, List.setIfInBounds_toArray, List.set_cons_zero, List.set_cons_succ]
  refine RegM.take1 6 (.pointer (some ⟨l, 0, none⟩)) rfl (by kernel_rfl) (by kernel_rfl) (by kernel_rfl) (by kernel_rfl) (by kernel_rfl) rfl (fun _ _ _ h => h) hS0 (RegF.yld rfl (fun W hW => by go_simp)) ?_
  simp only [List.getElem_toArray, List.getElem_cons_succ, List.getElem_cons_zero, Act.put, List.setIfInBounds_toArray, List.set_cons_zero, List.set_cons_succ]
  refine RegM.take1 7 (.pointer (some ⟨l, 0, none⟩)) rfl (by kernel_rfl) (by kernel_rfl) (by kernel_rfl) (by kernel_rfl) (by kernel_rfl) rfl (fun _ _ _ h => h) hS0 (RegF.yld rfl (fun W hW => by go_simp)) ?_
  simp only [List.getElem_toArray, List.getElem_cons_succ, List.getElem_cons_zero, Act.put, List.setIfInBounds_toArray, List.set_cons_zero, List.set_cons_succ]
  refine RegM.take1 8 (.pointer (some ⟨l, 4, none⟩)) rfl (by kernel_rfl) (by kernel_rfl) (by kernel_rfl) (by kernel_rfl) (by kernel_rfl) rfl (fun _ _ _ h => h) hS0 (RegF.yld rfl (fun W hW => by go_simp)) ?_
  simp only [List.getElem_toArray, List.getElem_cons_succ, List.getElem_cons_zero, Act.put, List.setIfInBounds_toArray, List.set_cons_zero, List.set_cons_succ]
  refine RegM.take1 9 (.int .u64 (ep : Int)) rfl (by kernel_rfl) (by kernel_rfl) (by kernel_rfl) (by kernel_rfl) (by kernel_rfl) rfl (fun _ _ _ h => h) hS0 (RegF.yld rfl (fun W hW => by have q := T4 W hW; go_simp)) ?_
  simp only [List.getElem_toArray, List.getElem_cons_succ, List.getElem_cons_zero, Act.put, List.setIfInBounds_toArray, List.set_cons_zero, List.set_cons_succ]
  refine RegM.take1 10 (.int .u64 ((ep : Int) + 1)) rfl (by kernel_rfl) (by kernel_rfl) (by kernel_rfl) (by kernel_rfl) (by kernel_rfl) rfl (fun _ _ _ h => h) hS0 (RegF.yld rfl (fun W hW => by go_simp)) ?_
  simp only [List.getElem_toArray, List.getElem_cons_succ, List.getElem_cons_zero, Act.put, List.setIfInBounds_toArray, List.set_cons_zero, List.set_cons_succ]
  refine RegM.take1 11 (.pointer (some ⟨l, 0, none⟩)) rfl (by kernel_rfl) (by kernel_rfl) (by kernel_rfl) (by kernel_rfl) (by kernel_rfl) rfl (fun _ _ _ h => h) hS0 (RegF.yld rfl (fun W hW => by go_simp)) ?_
  simp only [List.getElem_toArray, List.getElem_cons_succ, List.getElem_cons_zero, Act.put, List.setIfInBounds_toArray, List.set_cons_zero, List.set_cons_succ]
  refine RegM.take1 12 (.pointer (some ⟨l, 0, none⟩)) rfl (by kernel_rfl) (by kernel_rfl) (by kernel_rfl) (by kernel_rfl) (by kernel_rfl) rfl (fun _ _ _ h => h) hS0 (RegF.yld rfl (fun W hW => by go_simp)) ?_
  simp only [List.getElem_toArray, List.getElem_cons_succ, List.getElem_cons_zero, Act.put, List.setIfInBounds_toArray, List.set_cons_zero, List.set_cons_succ]
  refine RegM.take1 13 (.pointer (some ⟨l, 5, none⟩)) rfl (by kernel_rfl) (by kernel_rfl) (by kernel_rfl) (by kernel_rfl) (by kernel_rfl) rfl (fun _ _ _ h => h) hS0 (RegF.yld rfl (fun W hW => by go_simp)) ?_
  simp only [List.getElem_toArray, List.getElem_cons_succ, List.getElem_cons_zero, Act.put, List.setIfInBounds_toArray, List.set_cons_zero, List.set_cons_succ]
  refine RegM.take1 14 (.int .i64 sz) rfl (by kernel_rfl) (by kernel_rfl) (by kernel_rfl) (by kernel_rfl) (by kernel_rfl) rfl (fun _ _ _ h => h) hS0 (RegF.yld rfl (fun W hW => by have q := T5 W hW; go_simp)) ?_
  simp only [List.getElem_toArray, List.getElem_cons_succ, List.getElem_cons_zero, Act.put, List.setIfInBounds_toArray, List.set_cons_zero, List.set_cons_succ]
  refine RegM.take1 15 (.agg #[.int .u64 ((sr : Int) + 1), .int .u64 ((ep : Int) + 1), .int .i64 sz, .int .i64 0]) rfl (by kernel_rfl) (by kernel_rfl) (by kernel_rfl) (by kernel_rfl) (by kernel_rfl) rfl (fun _ _ _ h => h) hS0 (RegF.yld rfl (fun W hW => by go_simp)) ?_
  simp only [List.getElem_toArray, List.getElem_cons_succ, List.getElem_cons_zero, Act.put, List.setIfInBounds_toArray, List.set_cons_zero, List.set_cons_succ]
  refine RegM.one 16 (by kernel_rfl) ?_
  refine RegF.opC 40 #[.tmp 6, .tmp 21] #[33, 89] rfl rfl rfl (enters_of Tryz.func40 (by kernel_rfl) rfl) #[.pointer (some ⟨l, 0, none⟩), .agg #[.int .u64 ((sr : Int) + 1), .int .u64 ((ep : Int) + 1), .int .i64 sz, .int .i64 0]] (by simp only [List.map_toArray, List.map_cons, List.map_nil]; rfl) (HL.mono ?_)
  rintro e w2 ⟨rfl, hD2, ⟨sr', ep', hq, hb2⟩, hG2⟩
  refine ⟨_, rfl, fun h => (by cases h), ?_⟩
  simp only [List.getElem_toArray, List.getElem_cons_succ, List.getElem_cons_zero, Act.put, List.setIfInBounds_toArray, List.set_cons_zero, List.set_cons_succ]
  refine RegM.one 17 (by kernel_rfl) (RegF.opV (w' := w2) (.int .i64 z) rfl rfl (by go_simp) ⟨fun h => (by cases h), RegM.done (by kernel_rfl) ?_⟩)
  simp only [List.getElem_toArray, List.getElem_cons_succ, List.getElem_cons_zero, Act.put, List.setIfInBounds_toArray, List.set_cons_zero, List.set_cons_succ]
  have hG3 : GrowBut (fun k => k = d ∨ k = l) w w2 := (GrowBut.grown (grownBy_drew w none) (fun r e => by cases e)).trans hG2
  have k6 : w2.cell? ⟨l, 6, none⟩ = some (.slice A n c) := by rw [hb2.cell]; rfl
  have f6 := hb2.free 6
  clear HL HN T3 T4 T5 hS0
  rcases hq with ⟨rfl, rfl, rfl⟩ | ⟨hz, rfl, rfl⟩
  · have hb3 : BlkIs (w2.setCell ⟨l, 6, none⟩ (.slice none 0 0)) l 57 (lgC (some ⟨d, 0, none⟩) fr pg (sr + 1) (ep + 1) sz none 0 0) := hb2.set 6 _
    have hD3 : DkS (w2.setCell ⟨l, 6, none⟩ (.slice none 0 0)) d many s6 := DkIs.setOther hD2 hb2 (by show 7 ≤ 64; decide) (fun e => hld e.symm) ⟨l, 6, none⟩ (.slice none 0 0) rfl
    have hG4 : GrowBut (fun k => k = d ∨ k = l) w (w2.setCell ⟨l, 6, none⟩ (.slice none 0 0)) := hG3.trans (GrowBut.setCell _ _ _ (.inr rfl))
    go_wp2
    go_ret
    exact ⟨rfl, hD3, hb3, hG4⟩
  · go_wp2
    go_ret
    exact ⟨rfl, hD2, .inr ⟨hz, hb2⟩, hG3⟩
theorem reset_gives (w : World) (l d many : Nat) (s : DS) (fr pg : Int) (S : LgS) (hL : LogIs w l d fr pg S) (hD : DkS w d many s) (hO : s.Ok) (hl : s.xs.length ≤ 800000) (hz : 0 ≤ S.sz ∧ S.sz ≤ 2000) (hm2 : 2 ≤ many) (hmax : many ≤ 1000000) (hsr : S.sr + 1 < 18446744073709551616) (hep : S.ep + 1 < 18446744073709551616) :
    Calls Tryz.prog 13 #[.pointer (some ⟨l, 0, none⟩)] w fun e w' => ∃ x s' S', e = .returned (.int .i64 x) ∧ RstOut s S x s' S' ∧ DkS w' d many s' ∧ LogIs w' l d fr pg S' ∧ GrowBut (fun k => k = d ∨ k = l) w w' := by
  obtain ⟨hld, A, c, vs, hlg, hF, hvs⟩ := hL
  refine (resetR_gives w l d many s fr pg S.sr S.ep S.sz A vs.length c _ rfl hD hO hl hlg hld (headOk_of hz.1 hz.2 (by omega) (by omega)) hm2 hmax hsr hep).mono ?_
  rintro e w' ⟨rfl, hD2, h, hG⟩
  rcases h with ⟨hx, hb⟩ | ⟨hx, hb⟩
  · exact ⟨_, _, _, rfl, ⟨_, rfl, rfl, rfl, .inl ⟨hx, rfl⟩⟩, hD2, ⟨hld, none, 0, [], hb, FrsIs.mt _ _, rfl⟩, hG⟩
  · exact ⟨_, _, _, rfl, ⟨_, rfl, rfl, rfl, .inr ⟨hx, rfl⟩⟩, hD2, ⟨hld, A, c, vs, hb, hF.keep hG (fun k h _ => h), hvs⟩, hG⟩
end Go.Proofs.YtocnabpplbeafaaGreat
/- wal: what lies on a log's disk behind an Append, a Reset, a stop and a crash, in plain words. -/
namespace Go.Proofs.YtocnabpplbeafaaGreat
open Go Go.RowKit Lou

/-! ### Heads -/
/-- The serial that a sector's second copy tells. -/
def hdS2 (l : List UInt8) : Nat := rfix ((l.drop 28).take 8)
theorem headW_cut (s e z c : Nat) : (headW s e z c).take 24 = headB s e z c := by have := twiceB_take (headB s e z c); rw [headB_length] at this; exact this
theorem headW_mid (s e z c : Nat) : ((headW s e z c).drop 28).take 24 = headB s e z c := by have := twiceB_mid (headB s e z c); rw [headB_length] at this; exact this
theorem take_mid (l : List UInt8) (k : Nat) : (l.drop k).take 8 = ((l.drop k).take 24).take 8 := by rw [List.take_take]; rfl
theorem hdS2_headW {s e z c : Nat} (hs : s < 2 ^ 64) (he : e < 2 ^ 64) (hz : z ≤ 2000) (hc : c ≤ 2000) : hdS2 (headW s e z c) = s := by
  have h := (headB_read hs he (show z < 2 ^ 32 by omega) (show c < 2 ^ 32 by omega) []).1
  unfold hdS2
  rw [take_mid, headW_mid]
  rw [List.append_nil] at h
  exact h
/-- A head's first bytes ahead of what lay there: if that is a head, it is that head, or it has the serial of the second copy that lay there. -/
theorem torn_over {s e z c : Nat} {old : List UInt8} (ho : old.length = 64) (m : Nat) (h : isHead ((headW s e z c).take m ++ old.drop m) = true) :
    (headW s e z c).take m ++ old.drop m = headW s e z c ∨ hdS ((headW s e z c).take m ++ old.drop m) = hdS2 old := by
  obtain ⟨_, _, _, h4⟩ := (isHead_iff _).1 h
  have l1 := headW_length s e z c
  by_cases h24 : 24 ≤ m
  · left
    have h5 := congrArg (List.take 24) h4
    have t2 : ((headW s e z c).take m ++ old.drop m).take 24 = (headW s e z c).take 24 := by
      by_cases hm : m ≤ 64
      · rw [List.take_append_of_le_length (by simp; omega), List.take_take, Nat.min_eq_left h24]
      · rw [List.take_of_length_le (i := m) (by omega), List.take_append_of_le_length (by omega)]
    rw [headW_cut, t2, headW_cut] at h5
    rw [← h4]
    unfold headW at h5 ⊢
    rw [h5]
  · right
    have h5 := congrArg (fun l => (List.drop 28 l).take 24) h4
    have h6 := congrArg (List.take 24) h4
    have t2 : (((headW s e z c).take m ++ old.drop m).drop 28).take 24 = (old.drop 28).take 24 := by
      have hl : ((headW s e z c).take m).length = m := by simp; omega
      rw [List.drop_append, hl, List.drop_of_length_le (by omega), List.nil_append, List.drop_drop]
      congr 2
      omega
    simp only [headW_mid, t2] at h5
    rw [headW_cut] at h6
    have h7 : ((headW s e z c).take m ++ old.drop m).take 24 = (old.drop 28).take 24 := by rw [← h6, h5]
    unfold hdS hdS2
    rw [take_mid old 28, ← h7, List.take_take]
    rfl

/-! ### Sectors -/
theorem secsOf_away {G H : Nat → List UInt8} (a : Nat) : ∀ m, (∀ k, a ≤ k → k < a + m → H k = G k) → secsOf H a m = secsOf G a m
  | 0, _ => rfl
  | m + 1, h => by
    show secsOf H a m ++ H (a + m) = secsOf G a m ++ G (a + m)
    rw [secsOf_away a m (fun k h1 h2 => h k h1 (by omega)), h (a + m) (by omega) (by omega)]
theorem wrL_first {a m : Nat} {b : List UInt8} {x : Nat × List UInt8} (h : x ∈ wrL a b m) : a ≤ x.1 ∧ x.1 < a + m := by
  unfold wrL at h
  obtain ⟨i, hi, rfl⟩ := List.mem_map.1 h
  have := List.mem_range.1 hi
  exact ⟨by simp, by simp; omega⟩
theorem secsOf_wrL (G : Nat → List UInt8) (a : Nat) (b : List UInt8) : ∀ m, 64 * m ≤ b.length → secsOf (laid G (wrL a b m)) a m = b.take (64 * m)
  | 0, _ => by simp [secsOf]
  | m + 1, hm => by
    have e1 : laid G (wrL a b (m + 1)) = laid G (wrL a b m ++ [(a + m, chunkB b m)]) := by rw [wrL_next]
    show secsOf (laid G (wrL a b (m + 1))) a m ++ laid G (wrL a b (m + 1)) (a + m) = _
    rw [e1, laid_one, if_pos rfl]
    have e2 : secsOf (laid G (wrL a b m ++ [(a + m, chunkB b m)])) a m = secsOf (laid G (wrL a b m)) a m :=
      secsOf_away a m (fun k h1 h2 => by rw [laid_one, if_neg (by omega)])
    rw [e2, secsOf_wrL G a b m (by omega)]
    unfold chunkB
    rw [show 64 * (m + 1) = 64 * m + 64 by omega, List.take_add]

/-! ### Frames -/
theorem FrP.sum_lt (x : FrP) : x.sum < 2 ^ 32 := by
  unfold FrP.sum fSum
  split
  · exact sumL_lt _
  · decide
theorem linkOf_lt (fs : List FrP) : linkOf fs < 2 ^ 32 := by
  unfold linkOf
  split
  · exact FrP.sum_lt _
  · decide
/-- What holds of the frames of a log. -/
def OkF (ep : Nat) (fs : List FrP) : Prop := ∀ j (h : j < fs.length), (fs[j]).e = ep ∧ (fs[j]).i = (j : Int) ∧ frOk (fs[j]).y.length (fs[j]).i (fs[j]).p (fs[j]).f (fs[j]).z = true ∧ (fs[j]).n = linkOf (fs.take j) ∧ (fs[j]).n < 2 ^ 32
theorem OkF.snoc {ep : Nat} {fs : List FrP} (h : OkF ep fs) {x : FrP} (hx : x.e = ep ∧ x.i = (fs.length : Int) ∧ frOk x.y.length x.i x.p x.f x.z = true ∧ x.n = linkOf fs) : OkF ep (fs ++ [x]) := fun j hj => by
  by_cases hlt : j < fs.length
  · rw [List.getElem_append_left hlt, List.take_append_of_le_length (by omega)]
    exact h j hlt
  · have hj2 : j = fs.length := by simp at hj; omega
    subst hj2
    rw [List.getElem_append_right (Nat.le_refl _)]
    simp only [Nat.sub_self, List.getElem_cons_zero, List.take_left']
    obtain ⟨h1, h2, h3, h4⟩ := hx
    exact ⟨h1, h2, h3, h4, by rw [h4]; exact linkOf_lt _⟩
/-- Good pages for an Append. -/
structure PwOk (pg z : Int) (n : Nat) (pw : Nat → Int × List UInt8) : Prop where
  page : ∀ k, k < n → 0 ≤ (pw k).1 ∧ (pw k).1 < pg
  len : ∀ k, k < n → (pw k).2.length = 512
  lo : 0 ≤ z
  hi : z ≤ pg
theorem addK_ok {ep : Nat} {z pg : Int} {fs : List FrP} {n : Nat} {pw : Nat → Int × List UInt8} (h : OkF ep fs) (hp : PwOk pg z n pw) (hpg : pg ≤ 2000) (hl : fs.length + n ≤ 2000) : ∀ k, k ≤ n → OkF ep (addK ep z fs n pw k)
  | 0, _ => h
  | k + 1, hk => by
    unfold addK
    have hlen := addK_length ep z fs n pw k
    refine (addK_ok h hp hpg hl k (by omega)).snoc ⟨rfl, rfl, (frOk_iff _ _ _ _ _).2 ?_, rfl⟩
    have h1 := hp.page k (by omega)
    have h2 := hp.len k (by omega)
    have h3 := hp.lo
    have h4 := hp.hi
    simp only [newF, hlen]
    refine ⟨h2, ⟨by omega, by omega⟩, ⟨by omega, by omega⟩, ?_, ?_⟩
    · split <;> constructor <;> omega
    · by_cases hkn : k + 1 = n
      · exact .inl (by simp [hkn])
      · exact .inr (by simp [hkn])
theorem addK_head (ep : Nat) (z : Int) (fs : List FrP) (n : Nat) (pw : Nat → Int × List UInt8) : ∀ k, ∃ r, addK ep z fs n pw k = fs ++ r
  | 0 => ⟨[], by simp [addK]⟩
  | k + 1 => by
    obtain ⟨r, hr⟩ := addK_head ep z fs n pw k
    exact ⟨r ++ [newF ep z (addK ep z fs n pw k) (pw k) (decide (k + 1 = n))], by
      show addK ep z fs n pw k ++ [newF ep z (addK ep z fs n pw k) (pw k) (decide (k + 1 = n))] = _
      rw [← List.append_assoc, ← hr]⟩
theorem addK_last {ep : Nat} {z : Int} {fs : List FrP} {n : Nat} {pw : Nat → Int × List UInt8} (hn : 1 ≤ n) : ∃ x, (addK ep z fs n pw n).getLast? = some x ∧ x.f = true ∧ x.z = z := by
  obtain ⟨k, rfl⟩ : ∃ k, n = k + 1 := ⟨n - 1, by omega⟩
  refine ⟨newF ep z (addK ep z fs (k + 1) pw k) (pw k) (decide (k + 1 = k + 1)), ?_, by simp [newF], by simp [newF]⟩
  show (addK ep z fs (k + 1) pw k ++ [newF ep z (addK ep z fs (k + 1) pw k) (pw k) (decide (k + 1 = k + 1))]).getLast? = _
  exact List.getLast?_concat
theorem frsW_first {ep : Nat} {fs : List FrP} (h : OkF ep fs) (k : Nat) : ∀ x ∈ frsW (fs.drop k), 2 + 9 * k ≤ x.1 ∧ x.1 < 2 + 9 * fs.length := by
  intro x hx
  unfold frsW at hx
  obtain ⟨l, hl, hxl⟩ := List.mem_flatten.1 hx
  obtain ⟨f, hf, rfl⟩ := List.mem_map.1 hl
  obtain ⟨j, hj, rfl⟩ := List.getElem_of_mem hf
  rw [List.length_drop] at hj
  rw [List.getElem_drop] at hxl
  have hi := (h (k + j) (by omega)).2.1
  have := wrL_first hxl
  rw [hi] at this
  simp only [Int.toNat_natCast] at this
  omega
theorem lies_new {ep : Nat} {fs : List FrP} (h : OkF ep fs) (G : Nat → List UInt8) : ∀ m k, k + m = fs.length → ∀ j (hj : j < fs.length), k ≤ j → secsOf (laid G (frsW (fs.drop k))) (2 + 9 * j) 9 = (fs[j]).enc
  | 0, k, hk, j, hj, hkj => absurd hj (by omega)
  | m + 1, k, hk, j, hj, hkj => by
    rw [frsW_drop fs k (by omega), laid_app]
    by_cases hkj2 : k = j
    · subst hkj2
      obtain ⟨h1, h2, h3, h4, h5⟩ := h k hj
      have hl := FrP.enc_length h3
      have e0 : secsOf (laid (laid G (frW fs[k])) (frsW (fs.drop (k + 1)))) (2 + 9 * k) 9 = secsOf (laid G (frW fs[k])) (2 + 9 * k) 9 :=
        secsOf_away _ 9 (fun q h1 h2 => laid_away _ _ q (fun x hx => by have := frsW_first h (k + 1) x hx; omega))
      rw [e0]
      have ek : ((fs[k]).i).toNat = k := by rw [h2]; simp
      have ef : fEnc (fs[k]).e (fs[k]).i (fs[k]).p (fs[k]).f (fs[k]).z (fs[k]).n (fs[k]).y = (fs[k]).enc := by
        unfold fEnc FrP.enc
        rw [if_pos h3]
      unfold frW
      rw [ek, ef, secsOf_wrL G (2 + 9 * k) (fs[k]).enc 9 (by omega), List.take_of_length_le (by omega)]
    · exact lies_new h _ m (k + 1) (by omega) j hj (by omega)
theorem FrOn.away {G H : Nat → List UInt8} {ep : Nat} {fs : List FrP} (h : FrOn G ep fs) (hG : ∀ k, 2 ≤ k → k < 2 + 9 * fs.length → H k = G k) : FrOn H ep fs :=
  ⟨fun j hj => (secsOf_away _ 9 (fun k h1 h2 => hG k (by omega) (by omega))).trans (h.lies j hj), h.ok, h.last⟩
/-- The old frames and the new ones lie there. -/
theorem FrOn.more {G : Nat → List UInt8} {ep : Nat} {fs : List FrP} (h : FrOn G ep fs) {z pg : Int} {n : Nat} {pw : Nat → Int × List UInt8} (hp : PwOk pg z n pw) (hpg : pg ≤ 2000) (hl : fs.length + n ≤ 2000) (hn : 1 ≤ n) :
    FrOn (laid G (frsW ((addK ep z fs n pw n).drop fs.length))) ep (addK ep z fs n pw n) := by
  have hO := addK_ok h.ok hp hpg hl n (Nat.le_refl _)
  have hlen := addK_length ep z fs n pw n
  refine ⟨fun j hj => ?_, hO, fun x hx => ?_⟩
  · by_cases hlt : j < fs.length
    · obtain ⟨r, hr⟩ := addK_head ep z fs n pw n
      have e1 : (addK ep z fs n pw n)[j] = fs[j] := by
        have : (fs ++ r)[j]'(by simp; omega) = fs[j] := List.getElem_append_left hlt
        rw [← this]
        congr 1
      rw [e1, ← h.lies j hlt]
      exact secsOf_away _ 9 (fun k h1 h2 => laid_away _ _ k (fun x hx => by have := frsW_first hO fs.length x hx; omega))
    · exact lies_new hO G n fs.length (by omega) j hj (by omega)
  · obtain ⟨y, hy, hf, _⟩ := addK_last (ep := ep) (z := z) (fs := fs) (pw := pw) hn
    rw [hx] at hy
    injection hy with hy
    rw [hy]
    exact hf
end Go.Proofs.YtocnabpplbeafaaGreat
/- wal: behind an Append under way, a stop and a crash there lies what counted, or that and the append. -/
namespace Go.Proofs.YtocnabpplbeafaaGreat
open Go Go.RowKit Lou

/-- A log lies on a disk, and what else lies where heads do is older. -/
structure LI (G : Nat → List UInt8) (S : LgS) (hz : Nat) : Prop where
  on : LogOn G S hz
  len : ∀ k, (G k).length = 64
  old : hdS2 (G (1 - S.sr % 2)) < S.sr
theorem headL_one {s e : Nat} {z c : Int} (hz : 0 ≤ z ∧ z ≤ 2000) (hc : 0 ≤ c ∧ c ≤ 2000) : wrL (s % 2) (hEnc s e z c) 1 = [(s % 2, headW s e z.toNat c.toNat)] := by
  unfold hEnc
  rw [if_pos (headOk_of hz.1 hz.2 hc.1 hc.2)]
  show [(s % 2 + 0, chunkB (headW s e z.toNat c.toNat) 0)] = _
  unfold chunkB
  rw [Nat.mul_zero, List.drop_zero, List.take_of_length_le (by rw [headW_length]; exact Nat.le_refl _)]
  rfl
theorem LI.away {G H : Nat → List UInt8} {S : LgS} {hz : Nat} (h : LI G S hz) (hG : ∀ k, k < 2 + 9 * S.fs.length → H k = G k) (hl : ∀ k, (H k).length = 64) : LI H S hz := by
  have e0 := hG (S.sr % 2) (by omega)
  have e1 := hG (1 - S.sr % 2) (by omega)
  obtain ⟨⟨h1, h2, h3, h4, h5, h6, h7, h8, h9⟩, h10, h11⟩ := h
  exact ⟨⟨by rw [e0]; exact h1, h2, h3, h4, h5, h6, by rw [e1]; exact h7, h8, h9.away (fun k _ hk => hG k hk)⟩, hl, by rw [e1]; exact h11⟩
/-- A newer head, over frames that lie. -/
theorem LI.next {G G1 : Nat → List UInt8} {S : LgS} {hz : Nat} (h : LI G S hz) (hG : ∀ k, k < 2 → G1 k = G k) (hl : ∀ k, (G1 k).length = 64) {ep : Nat} {z : Int} {fs : List FrP} (hF : FrOn G1 ep fs) (hsr : S.sr + 1 < 2 ^ 64) (hep : ep < 2 ^ 64) (hs : 0 ≤ S.sz ∧ S.sz ≤ 2000) (hfl : fs.length ≤ 2000) (hzz : z = szOf S.sz fs) :
    LI (laid G1 [((S.sr + 1) % 2, headW (S.sr + 1) ep S.sz.toNat fs.length)]) ⟨S.sr + 1, ep, z, fs⟩ S.sz.toNat := by
  have hL : ∀ k, laid G1 [((S.sr + 1) % 2, headW (S.sr + 1) ep S.sz.toNat fs.length)] k = if k = (S.sr + 1) % 2 then headW (S.sr + 1) ep S.sz.toNat fs.length else G1 k := fun k => laid_one G1 [] _ _ k
  have ho : 1 - (S.sr + 1) % 2 = S.sr % 2 := by omega
  have hq : ¬ (S.sr % 2 = (S.sr + 1) % 2) := by omega
  have hd := h.on.hd
  have hr := headW_read h.on.sr h.on.ep h.on.hzl h.on.hn
  refine ⟨⟨?_, hsr, hep, by show S.sz.toNat ≤ 2000; omega, hfl, by show 1 ≤ S.sr + 1; omega, ?_, ?_, ?_⟩, ?_, ?_⟩
  · simp only [hL, if_pos]
  · intro _
    simp only [ho, hL, if_neg hq]
    rw [hG _ (by omega), hd, hr.1]
    omega
  · show z = szOf ((S.sz.toNat : Nat) : Int) fs
    rw [show ((S.sz.toNat : Nat) : Int) = S.sz by omega]
    exact hzz
  · exact hF.away (fun k h2 _ => by rw [hL, if_neg (by omega)])
  · intro k
    rw [hL]
    split
    · exact headW_length _ _ _ _
    · exact hl k
  · simp only [ho, hL, if_neg hq]
    rw [hG _ (by omega), hd, hdS2_headW h.on.sr h.on.ep h.on.hzl h.on.hn]
    omega
/-- A newer head of which some bytes alone have come. -/
theorem LI.torn {G G2 : Nat → List UInt8} {S : LgS} {hz : Nat} (h : LI G S hz) {ep z c m : Nat} (h2 : ∀ k, G2 k = if k = (S.sr + 1) % 2 then (headW (S.sr + 1) ep z c).take m ++ (G k).drop m else G k) :
    LogOn G2 S hz ∨ G2 = laid G [((S.sr + 1) % 2, headW (S.sr + 1) ep z c)] := by
  by_cases he : (headW (S.sr + 1) ep z c).take m ++ (G ((S.sr + 1) % 2)).drop m = headW (S.sr + 1) ep z c
  · right
    funext k
    rw [h2, show laid G [((S.sr + 1) % 2, headW (S.sr + 1) ep z c)] k = if k = (S.sr + 1) % 2 then headW (S.sr + 1) ep z c else G k from laid_one G [] _ _ k]
    by_cases hk : k = (S.sr + 1) % 2
    · rw [if_pos hk, if_pos hk, hk]
      exact he
    · rw [if_neg hk, if_neg hk]
  · left
    have hq : ¬ (S.sr % 2 = (S.sr + 1) % 2) := by omega
    have ho : 1 - S.sr % 2 = (S.sr + 1) % 2 := by omega
    have hold := h.old
    rw [ho] at hold
    obtain ⟨⟨h1, h2', h3, h4, h5, h6, h7, h8, h9⟩, h10, h11⟩ := h
    refine ⟨by rw [h2, if_neg hq]; exact h1, h2', h3, h4, h5, h6, ?_, h8, h9.away (fun k hk _ => by rw [h2, if_neg (by omega)])⟩
    rw [ho, h2, if_pos rfl]
    intro hg
    unfold goodH at hg
    simp only [Bool.and_eq_true] at hg
    rcases torn_over (h10 _) m hg.1 with e | e
    · exact absurd e he
    · rw [e]
      exact hold

/-! ### Stops -/
theorem wrs_free : ∀ (L : List (Nat × List UInt8)) (s : DS), s.st = false → wrs s L = (⟨s.g, s.xs ++ L, s.left, s.st⟩, 0)
  | [], s, _ => by simp [wrs]
  | x :: r, s, h => by
    have hs : s.stopped = false := by unfold DS.stopped; rw [h]; rfl
    rw [wrs_cons_ok hs, wrs_free r (s.push x) h]
    unfold DS.push
    simp only [List.append_assoc, List.singleton_append, h]
    rfl
theorem syn_free {s : DS} (h : s.st = false) : synD s = (⟨laid s.g s.xs, [], s.left, s.st⟩, 0) := by
  have hs : s.stopped = false := by unfold DS.stopped; rw [h]; rfl
  unfold synD
  rw [hs, h]
  rfl
theorem layD_free {s : DS} (h : s.st = false) (L : List (Nat × List UInt8)) : layD s L = (⟨laid s.g (s.xs ++ L), [], s.left, s.st⟩, 0) := by
  unfold layD
  rw [wrs_free L s h]
  simp only [if_true]
  exact syn_free h
theorem appD_free {s : DS} (h : s.st = false) (L1 L2 : List (Nat × List UInt8)) : appD s L1 L2 = (⟨laid (laid s.g (s.xs ++ L1)) L2, [], s.left, s.st⟩, 0) := by
  unfold appD
  rw [wrs_free L1 s h]
  simp only [if_true]
  have e1 : synD ⟨s.g, s.xs ++ L1, s.left, s.st⟩ = (⟨laid s.g (s.xs ++ L1), [], s.left, s.st⟩, 0) := syn_free h
  have e2 := layD_free (s := ⟨laid s.g (s.xs ++ L1), [], s.left, s.st⟩) h L2
  rw [e1]
  simp only [if_true]
  rw [e2]
  rfl
theorem wrs_mem : ∀ (L : List (Nat × List UInt8)) (s : DS), ∀ x ∈ (wrs s L).1.xs, x ∈ s.xs ∨ x ∈ L
  | [], s, x, h => .inl h
  | y :: r, s, x, h => by
    cases hs : s.stopped
    · rw [wrs_cons_ok hs] at h
      rcases wrs_mem r (s.push y) x h with h | h
      · rcases List.mem_append.1 h with h | h
        · exact .inl h
        · exact .inr (by rw [List.mem_singleton.1 h]; exact List.mem_cons_self)
      · exact .inr (List.mem_cons_of_mem _ h)
    · rw [wrs_cons_bad hs] at h
      exact .inl h
theorem wrs_all : ∀ (L : List (Nat × List UInt8)) (s : DS), (wrs s L).2 = 0 → (wrs s L).1.xs = s.xs ++ L
  | [], s, _ => by simp [wrs]
  | y :: r, s, h => by
    cases hs : s.stopped
    · rw [wrs_cons_ok hs] at h ⊢
      rw [wrs_all r (s.push y) h]
      show (s.xs ++ [y]) ++ r = _
      simp
    · rw [wrs_cons_bad hs] at h
      exact absurd h (show ¬ (140 : Int) = 0 by decide)
/-- What is synced behind a crash. -/
def crD (s : DS) (bs : List Bool) (t : Nat) : Nat → List UInt8 := laid s.g (torn s.g (keptTo s.xs bs s.xs.length) t)
theorem crD_none {s : DS} (h : s.xs = []) (bs : List Bool) (t : Nat) : crD s bs t = s.g := by
  unfold crD
  rw [h]
  show laid s.g (Proofs.YtocnabpplbeafaaGreat.torn s.g [] t) = _
  rw [torn_none _ _ _ (.inl rfl)]
  rfl
theorem crD_one {s : DS} {a : Nat} {H : List UInt8} (h : s.xs = [(a, H)]) (hH : H.length = 64) (hG : ∀ k, (s.g k).length = 64) (bs : List Bool) (t : Nat) : ∃ m, ∀ k, crD s bs t k = if k = a then H.take m ++ (s.g k).drop m else s.g k := by
  unfold crD
  rw [h]
  have hk : keptTo [(a, H)] bs [(a, H)].length = if bs.getD 0 false then [(a, H)] else [] := by
    show keptTo [(a, H)] bs (0 + 1) = _
    unfold keptTo
    split <;> rfl
  have h1 : ∀ L k, laid s.g [(a, L)] k = if k = a then L else s.g k := fun L k => laid_one s.g [] a L k
  rw [hk]
  split
  · unfold Proofs.YtocnabpplbeafaaGreat.torn
    split
    · refine ⟨64, fun k => ?_⟩
      rw [h1, List.take_of_length_le (by omega), List.drop_of_length_le (by rw [hG]; exact Nat.le_refl _), List.append_nil]
    · exact ⟨t, fun k => by
        show laid s.g [(a, H.take t ++ (s.g a).drop t)] k = _
        rw [h1]
        split
        · next e => rw [e]
        · rfl⟩
  · rw [torn_none _ _ _ (.inl rfl)]
    exact ⟨0, fun k => by
      show s.g k = _
      split
      · simp
      · rfl⟩
theorem crD_away {s : DS} {k : Nat} (h : ∀ x ∈ s.xs, x.1 ≠ k) (bs : List Bool) (t : Nat) : crD s bs t k = s.g k :=
  crash_away s.g s.xs bs t k (fun j hj e => absurd e (h _ (List.getElem_mem hj)))
theorem tornL_wide {g : Nat → List UInt8} {ks : List (Nat × List UInt8)} (hk : Wide ks) (hg : ∀ k, (laid g ks.dropLast k).length = 64) (t : Nat) : Wide (torn g ks t) := by
  unfold torn
  split
  · exact hk
  · rename_i h
    have hne : ks ≠ [] := fun e => h (.inl e)
    intro x hx
    rcases List.mem_append.1 hx with hx | hx
    · exact hk x (List.dropLast_subset ks hx)
    · obtain rfl := List.mem_singleton.1 hx
      have hl : (ks.getLastD (0, zer64)).2.length = 64 := by
        cases ks with
        | nil => exact absurd rfl hne
        | cons y t => exact hk _ (by rw [List.getLastD_cons]; exact List.getLastD_mem_cons ..)
      show (_ ++ _ : List UInt8).length = 64
      rw [List.length_append, List.length_take, List.length_drop, hl, hg]
      omega
theorem crD_len {s : DS} (hG : ∀ k, (s.g k).length = 64) (hx : Wide s.xs) (bs : List Bool) (t : Nat) : ∀ k, (crD s bs t k).length = 64 := by
  refine laid_len _ s.g hG ?_
  have h1 := keptTo_wide hx bs s.xs.length
  exact tornL_wide h1 (fun k => laid_len _ s.g hG (fun x hx => h1 x ((List.dropLast_sublist _).subset hx)) k) t
theorem wrL_wide {a m : Nat} {b : List UInt8} (h : 64 * m ≤ b.length) : Wide (wrL a b m) := by
  intro x hx
  unfold wrL at hx
  obtain ⟨i, hi, rfl⟩ := List.mem_map.1 hx
  have := List.mem_range.1 hi
  show (chunkB b i).length = 64
  unfold chunkB
  rw [List.length_take, List.length_drop]
  omega
theorem frsW_wide {ep : Nat} {fs : List FrP} (h : OkF ep fs) (k : Nat) : Wide (frsW (fs.drop k)) := by
  intro x hx
  unfold frsW at hx
  obtain ⟨l, hl, hxl⟩ := List.mem_flatten.1 hx
  obtain ⟨f, hf, rfl⟩ := List.mem_map.1 hl
  obtain ⟨j, hj, rfl⟩ := List.getElem_of_mem hf
  rw [List.length_drop] at hj
  rw [List.getElem_drop] at hxl
  have h3 := (h (k + j) (by omega)).2.2.1
  have hl := FrP.enc_length h3
  have ef : fEnc (fs[k + j]).e (fs[k + j]).i (fs[k + j]).p (fs[k + j]).f (fs[k + j]).z (fs[k + j]).n (fs[k + j]).y = (fs[k + j]).enc := by
    unfold fEnc FrP.enc
    rw [if_pos h3]
  refine wrL_wide (m := 9) ?_ x hxl
  rw [ef, hl]
  exact Nat.le_refl _
/-- The log behind an Append that was carried out. -/
def newS (S : LgS) (z : Int) (n : Nat) (pw : Nat → Int × List UInt8) : LgS := ⟨S.sr + 1, S.ep, z, addK S.ep z S.fs n pw n⟩
section
variable {G : Nat → List UInt8} {S : LgS} {hz : Nat} {z pg : Int} {n : Nat} {pw : Nat → Int × List UInt8}
theorem LI.more (h : LI G S hz) (hp : PwOk pg z n pw) (hpg : pg ≤ 2000) (hl : S.fs.length + n ≤ 2000) (hn : 1 ≤ n) (hsr : S.sr + 1 < 2 ^ 64) (hs : 0 ≤ S.sz ∧ S.sz ≤ 2000) :
    (∀ k, k < 2 + 9 * S.fs.length → laid G (frsW ((addK S.ep z S.fs n pw n).drop S.fs.length)) k = G k) ∧ (∀ k, (laid G (frsW ((addK S.ep z S.fs n pw n).drop S.fs.length)) k).length = 64) ∧
    wrL ((S.sr + 1) % 2) (hEnc (S.sr + 1) S.ep S.sz ((addK S.ep z S.fs n pw n).length : Int)) 1 = [((S.sr + 1) % 2, headW (S.sr + 1) S.ep S.sz.toNat (addK S.ep z S.fs n pw n).length)] ∧
    LI (laid (laid G (frsW ((addK S.ep z S.fs n pw n).drop S.fs.length))) [((S.sr + 1) % 2, headW (S.sr + 1) S.ep S.sz.toNat (addK S.ep z S.fs n pw n).length)]) (newS S z n pw) S.sz.toNat := by
  have hO := addK_ok h.on.fr.ok hp hpg hl n (Nat.le_refl _)
  have hlen := addK_length S.ep z S.fs n pw n
  have h1 : ∀ k, k < 2 + 9 * S.fs.length → laid G (frsW ((addK S.ep z S.fs n pw n).drop S.fs.length)) k = G k := fun k hk => laid_away _ _ k (fun x hx => by have := frsW_first hO S.fs.length x hx; omega)
  have h2 : ∀ k, (laid G (frsW ((addK S.ep z S.fs n pw n).drop S.fs.length)) k).length = 64 := laid_len _ G h.len (frsW_wide hO S.fs.length)
  refine ⟨h1, h2, ?_, h.next (fun k hk => h1 k (by omega)) h2 (h.on.fr.more hp hpg hl hn) hsr h.on.ep hs (by omega) ?_⟩
  · rw [headL_one hs ⟨by omega, by omega⟩]
    rfl
  · obtain ⟨x, hx, _, hxz⟩ := addK_last (ep := S.ep) (z := z) (fs := S.fs) (n := n) (pw := pw) hn
    unfold szOf
    rw [hx]
    exact hxz.symm
/-- An Append that no stop holds up. -/
theorem LI.append (h : LI G S hz) (hp : PwOk pg z n pw) (hpg : pg ≤ 2000) (hl : S.fs.length + n ≤ 2000) (hn : 1 ≤ n) (hsr : S.sr + 1 < 2 ^ 64) (hs : 0 ≤ S.sz ∧ S.sz ≤ 2000) (left : Int) :
    ∃ G2, appD ⟨G, [], left, false⟩ (frsW ((addK S.ep z S.fs n pw n).drop S.fs.length)) (wrL ((S.sr + 1) % 2) (hEnc (S.sr + 1) S.ep S.sz ((addK S.ep z S.fs n pw n).length : Int)) 1) = (⟨G2, [], left, false⟩, 0) ∧ LI G2 (newS S z n pw) S.sz.toNat := by
  obtain ⟨_, _, h3, h4⟩ := h.more hp hpg hl hn hsr hs
  refine ⟨_, appD_free rfl _ _, ?_⟩
  rw [h3]
  exact h4
/-- A Reset that no stop holds up. -/
theorem LI.reset (h : LI G S hz) (hsr : S.sr + 1 < 2 ^ 64) (hep : S.ep + 1 < 2 ^ 64) (hs : 0 ≤ S.sz ∧ S.sz ≤ 2000) (left : Int) :
    ∃ G2, layD ⟨G, [], left, false⟩ (wrL ((S.sr + 1) % 2) (hEnc (S.sr + 1) (S.ep + 1) S.sz 0) 1) = (⟨G2, [], left, false⟩, 0) ∧ LI G2 ⟨S.sr + 1, S.ep + 1, S.sz, []⟩ S.sz.toNat := by
  refine ⟨_, layD_free rfl _, ?_⟩
  rw [headL_one hs ⟨by omega, by omega⟩]
  have hF : FrOn G (S.ep + 1) [] := ⟨fun j hj => absurd hj (Nat.not_lt_zero j), fun j hj => absurd hj (Nat.not_lt_zero j), fun x hx => by cases hx⟩
  have h5 := h.next (fun _ _ => rfl) h.len hF hsr hep hs (Nat.zero_le _) (show S.sz = szOf S.sz [] from rfl)
  rw [show ([] : List FrP).length = (0 : Int).toNat from rfl] at h5
  exact h5
/-- An Append under a stop, and a crash. -/
theorem LI.crash (h : LI G S hz) (hp : PwOk pg z n pw) (hpg : pg ≤ 2000) (hl : S.fs.length + n ≤ 2000) (hn : 1 ≤ n) (hsr : S.sr + 1 < 2 ^ 64) (hs : 0 ≤ S.sz ∧ S.sz ≤ 2000) (left : Int) (st : Bool) (r : DS × Int)
    (hr : r = appD ⟨G, [], left, st⟩ (frsW ((addK S.ep z S.fs n pw n).drop S.fs.length)) (wrL ((S.sr + 1) % 2) (hEnc (S.sr + 1) S.ep S.sz ((addK S.ep z S.fs n pw n).length : Int)) 1)) (bs : List Bool) (t : Nat) :
    (r.2 = 0 ∧ LogOn (crD r.1 bs t) (newS S z n pw) S.sz.toNat) ∨ (¬ r.2 = 0 ∧ (LogOn (crD r.1 bs t) S hz ∨ LogOn (crD r.1 bs t) (newS S z n pw) S.sz.toNat)) := by
  obtain ⟨h1, h2, h3, h4⟩ := h.more hp hpg hl hn hsr hs
  have hO := addK_ok h.on.fr.ok hp hpg hl n (Nat.le_refl _)
  have hF := frsW_first hO S.fs.length
  have hW := frsW_wide hO S.fs.length
  rw [h3] at hr
  generalize frsW ((addK S.ep z S.fs n pw n).drop S.fs.length) = L1 at *
  obtain ⟨H, hH⟩ : ∃ H, H = headW (S.sr + 1) S.ep S.sz.toNat (addK S.ep z S.fs n pw n).length := ⟨_, rfl⟩
  have hHl : H.length = 64 := by rw [hH]; exact headW_length _ _ _ _
  rw [← hH] at hr h4
  obtain ⟨s1, hs1⟩ : ∃ s1, s1 = wrs ⟨G, [], left, st⟩ L1 := ⟨_, rfl⟩
  have hg1 : s1.1.g = G := by rw [hs1]; exact (wrs_g _ _).1
  have hm1 : ∀ x ∈ s1.1.xs, x ∈ L1 := fun x hx => by
    rw [hs1] at hx
    rcases wrs_mem _ _ x hx with h | h
    · cases h
    · exact h
  have hw1 : Wide s1.1.xs := fun x hx => hW x (hm1 x hx)
  have hold1 : LogOn (crD s1.1 bs t) S hz :=
    (h.away (fun k hk => by rw [crD_away (fun x hx => by have := hF x (hm1 x hx); omega), hg1]) (crD_len (by rw [hg1]; exact h.len) hw1 bs t)).on
  unfold appD at hr
  rw [← hs1] at hr
  by_cases hz1 : s1.2 = 0
  · rw [if_pos hz1] at hr
    have hx1 : s1.1.xs = L1 := by
      rw [hs1] at hz1 ⊢
      exact wrs_all _ _ hz1
    obtain ⟨s2, hs2⟩ : ∃ s2, s2 = synD s1.1 := ⟨_, rfl⟩
    rw [← hs2] at hr
    unfold synD at hs2
    cases hst : s1.1.stopped
    · rw [hst, hg1, hx1] at hs2
      simp only [Bool.false_eq_true, if_false] at hs2
      rw [hs2] at hr
      simp only [if_true] at hr
      have hI : LI (laid G L1) S hz := h.away h1 h2
      unfold layD at hr
      obtain ⟨s3, hs3⟩ : ∃ s3, s3 = (⟨laid G L1, [], Proofs.YtocnabpplbeafaaGreat.lft s1.1.st s1.1.left, s1.1.st⟩ : DS) := ⟨_, rfl⟩
      rw [← hs3] at hr
      have hg3 : s3.g = laid G L1 := by rw [hs3]
      have hx3 : s3.xs = [] := by rw [hs3]
      clear hs3
      cases hst3 : s3.stopped
      · rw [wrs_cons_ok hst3] at hr
        have hw : wrs (s3.push ((S.sr + 1) % 2, H)) [] = (s3.push ((S.sr + 1) % 2, H), 0) := rfl
        rw [hw] at hr
        simp only [if_true] at hr
        have hx4 : (s3.push ((S.sr + 1) % 2, H)).xs = [((S.sr + 1) % 2, H)] := by unfold DS.push; rw [hx3]; rfl
        have hg4 : (s3.push ((S.sr + 1) % 2, H)).g = laid G L1 := hg3
        generalize s3.push ((S.sr + 1) % 2, H) = s4 at *
        unfold synD at hr
        cases hst4 : s4.stopped
        · rw [hst4] at hr
          simp only [Bool.false_eq_true, if_false] at hr
          refine .inl ⟨by rw [hr], ?_⟩
          rw [hr, crD_none rfl]
          show LogOn (laid s4.g s4.xs) _ _
          rw [hg4, hx4]
          exact h4.on
        · rw [hst4] at hr
          simp only [if_true] at hr
          refine .inr ⟨by rw [hr]; exact show ¬ (140 : Int) = 0 by decide, ?_⟩
          rw [hr]
          show LogOn (crD s4 bs t) S hz ∨ LogOn (crD s4 bs t) _ _
          obtain ⟨m, hm⟩ := crD_one hx4 hHl (by rw [hg4]; exact h2) bs t
          rw [hg4, hH] at hm
          rcases hI.torn hm with h5 | h5
          · exact .inl h5
          · right
            rw [h5, ← hH]
            exact h4.on
      · rw [wrs_cons_bad hst3] at hr
        simp only [show ¬ (140 : Int) = 0 by decide, if_false] at hr
        refine .inr ⟨by rw [hr]; exact show ¬ (140 : Int) = 0 by decide, .inl ?_⟩
        rw [hr, crD_none hx3, hg3]
        exact hI.on
    · rw [hst] at hs2
      simp only [if_true] at hs2
      rw [hs2] at hr
      simp only [show ¬ (140 : Int) = 0 by decide, if_false] at hr
      refine .inr ⟨by rw [hr]; exact show ¬ (140 : Int) = 0 by decide, .inl ?_⟩
      rw [hr]
      exact hold1
  · rw [if_neg hz1] at hr
    rw [hr]
    exact .inr ⟨hz1, .inl hold1⟩
end
end Go.Proofs.YtocnabpplbeafaaGreat
/- wal: Open of a new disk; what then lies on it. -/
namespace Go.Proofs.YtocnabpplbeafaaGreat
open Go Go.RowKit Lou

set_option maxRecDepth 100000 in
set_option maxHeartbeats 16000000 in
theorem open_newG (w : World) (fr pg : Int) (d many : Nat) (left : Int) (hD : DkIs w d many (fun _ => zer64) [] left false) (hok : planOk fr pg = true) (hm : (many : Int) = 2 + 9 * fr + 8 * pg) (hmax : many ≤ 1000000) (h1l : -1000000 ≤ left) (h2l : left ≤ 9223372036854775807) :
    Calls Tryz.prog 11 #[.pointer (some ⟨d, 0, none⟩), .agg #[.int .i64 fr, .int .i64 pg]] w fun e w' => ∃ l, e = .returned (.tuple #[.pointer (some ⟨l, 0, none⟩), .int .i64 0]) ∧ w.heap.size ≤ l ∧ DkIs w' d many (laid (fun _ => zer64) (wrL 1 (hEnc 1 1 0 0) 1)) [] left false ∧ BlkIs w' l 57 (lgC (some ⟨d, 0, none⟩) fr pg 1 1 0 none 0 0) ∧ w.grownBy w' (some d) := by
  have hpl := (planOk_iff fr pg).1 hok
  have hB0 : Below w.heap.size w (w.alloc (.cells #[.int .i64 fr, .int .i64 pg] 23)) := (Below.refl _ w).alloc (Nat.le_refl _) _
  have b0 := BlkIs.new w 23 #[.int .i64 fr, .int .i64 pg]
  have HS := sectors_gives fr pg (w.alloc (.cells #[.int .i64 fr, .int .i64 pg] 23))
  have hp0 : plE (planOk fr pg) 0 1 = 0 := by rw [hok]; rfl
  unfold atV at HS
  rw [hp0, if_pos rfl, ← hm] at HS
  have hm0 : ¬ (many : Int) = 0 := by omega
  have hdl := hD.lt
  have hz1 : ∀ v ∈ zhd.toArray.toList, v.oneCell' = true := by
    intro v hv
    simp [zhd] at hv
    rcases hv with rfl | rfl <;> rfl
  have hz2 : ∀ v ∈ (#[.int .u64 1, .int .u64 1, .int .i64 0, .int .i64 0] : Array Value).toList, v.oneCell' = true := by
    intro v hv
    simp at hv
    rcases hv with rfl | rfl <;> rfl
  have hm2 : 2 ≤ many := by omega
  clear hm hok
  go_enter Tryz.func11, Tryz.ntmps11
  go_wp2_with fail
  refine wp_scope_straight ?_
  go_wp2_with (first
    | (refine wp_loadW rfl 23 (.tmp 3) rfl w.heap.size rfl rowPlan b0 rfl ?_)
    | (go_at_call 37; refine HS.mono ?_; rintro e w1 ⟨rfl, hB1⟩; have b1 := b0.below hB1 b0.lt; have k0 : w1.cell? ⟨w.heap.size, 0, none⟩ = some (.int .i64 fr) := (by rw [b1.cell]; rfl); have k1 : w1.cell? ⟨w.heap.size, 1, none⟩ = some (.int .i64 pg) := (by rw [b1.cell]; rfl); have hB01 := hB0.trans (hB1.mono hB0.size); have hs1 := hB01.size; have hB03 : Below w.heap.size w ((w1.alloc (.cells #[.pointer (some ⟨d, 0, none⟩), .int .i64 fr, .int .i64 pg, .int .u64 0, .int .u64 0, .int .i64 0, .slice none 0 0] 57)).alloc (.cells #[.int .u64 0, .int .u64 0, .int .i64 0, .int .i64 0] 89)) := (hB01.alloc hB01.size _).alloc (by have := hB01.size; simp; omega) _; have hD3 := hD.grow hB03; have HL := len_gives _ d many _ [] left false hD3; have bl : BlkIs ((w1.alloc (.cells #[.pointer (some ⟨d, 0, none⟩), .int .i64 fr, .int .i64 pg, .int .u64 0, .int .u64 0, .int .i64 0, .slice none 0 0] 57)).alloc (.cells #[.int .u64 0, .int .u64 0, .int .i64 0, .int .i64 0] 89)) w1.heap.size 57 (lgC (some ⟨d, 0, none⟩) fr pg 0 0 0 none 0 0) := (BlkIs.new w1 _ _).alloc _; have bh : BlkIs ((w1.alloc (.cells #[.pointer (some ⟨d, 0, none⟩), .int .i64 fr, .int .i64 pg, .int .u64 0, .int .u64 0, .int .i64 0, .slice none 0 0] 57)).alloc (.cells #[.int .u64 0, .int .u64 0, .int .i64 0, .int .i64 0] 89)) (w1.heap.size + 1) 89 #[.int .u64 0, .int .u64 0, .int .i64 0, .int .i64 0] := (by have := BlkIs.new (w1.alloc (.cells #[.pointer (some ⟨d, 0, none⟩), .int .i64 fr, .int .i64 pg, .int .u64 0, .int .u64 0, .int .i64 0, .slice none 0 0] 57)) 89 #[.int .u64 0, .int .u64 0, .int .i64 0, .int .i64 0]; rw [World.size_alloc] at this; exact this); have kl : World.cell? ((w1.alloc (.cells #[.pointer (some ⟨d, 0, none⟩), .int .i64 fr, .int .i64 pg, .int .u64 0, .int .u64 0, .int .i64 0, .slice none 0 0] 57)).alloc (.cells #[.int .u64 0, .int .u64 0, .int .i64 0, .int .i64 0] 89)) ⟨w1.heap.size, 0, none⟩ = some (.pointer (some ⟨d, 0, none⟩)) := (by rw [bl.cell]; rfl))
    | (go_at_call 38; refine HL.mono ?_; rintro e w' ⟨rfl, rfl⟩)
    | (go_at_call 39; refine (head_new _ w1.heap.size d many left hD3 kl bl.lt hm2 hmax).mono ?_; rintro e w4 ⟨rfl, hB4⟩; have bl4 := bl.below hB4 bl.lt; have bh4 := bh.below hB4 bh.lt; have hD4 := hD3.grow hB4)
    | (refine wp_storeW rfl 89 (.tmp 9) (.tmp 35) rfl (w1.heap.size + 1) rfl rfl rowHead bh4 rfl rfl hz1 ?_; have bh5 := bh4.setRow zhd.toArray; have bl5 := bl4.setRow_ne (k := w1.heap.size + 1) (by omega) zhd.toArray; have hD5 := hD4.setRowO bh4 (by decide) (by omega) zhd.toArray; have hG5 : w.grownBy (w4.setRow (w1.heap.size + 1) zhd.toArray) (some d) := grownBy_rest (below_grownBy (hB03.trans (hB4.mono hB03.size)) d) (setRow_grown _ _ _) (Nat.le_refl _) (fun r e => by cases e; omega))
    | (refine wp_storeW rfl 89 (.tmp 9) (.tmp 42) rfl (w1.heap.size + 1) rfl rfl rowHead bh5 rfl rfl hz2 ?_; have bh6 := bh5.setRow #[.int .u64 1, .int .u64 1, .int .i64 0, .int .i64 0]; have bl6 := bl5.setRow_ne (k := w1.heap.size + 1) (by omega) #[.int .u64 1, .int .u64 1, .int .i64 0, .int .i64 0]; have hD6 := hD5.setRowO bh5 (by decide) (by omega) #[.int .u64 1, .int .u64 1, .int .i64 0, .int .i64 0]; have hG6 := grownBy_rest hG5 (setRow_grown _ (w1.heap.size + 1) #[.int .u64 1, .int .u64 1, .int .i64 0, .int .i64 0]) (Nat.le_refl _) (fun r e => by cases e; omega))
    | (refine wp_loadW rfl 89 (.tmp 9) rfl (w1.heap.size + 1) rfl rowHead bh6 rfl ?_)
    | (go_at_call 40; refine (lay_gives _ w1.heap.size d many _ [] left 1 1 0 0 fr pg 0 0 0 none 0 0 hD6 (by decide) h1l h2l bl6 (by omega) (by decide) hm2 hmax).mono ?_; rintro e w7 ⟨rfl, hD7, bl7, hG7⟩; have bh7 := hG7.blk bh6 (by omega)))
  have hG8 : w.grownBy w7 (some d) := ⟨hG7.os.trans hG6.os, hG7.tape.trans hG6.tape, hG7.output.trans hG6.output, Nat.le_trans hG6.size hG7.size, fun k hk hn => (hG7.block k (Nat.lt_of_lt_of_le hk hG6.size) (fun e => by rcases e with e | e; exact hn (by rw [e]); omega)).trans (hG6.block k hk hn)⟩
  have hsl : d < w1.heap.size := by omega
  have hsl2 : w.heap.size ≤ w1.heap.size := by omega
  clear HS HL hD hD3 hD4 hD5 hD6 bl bl4 bl5 bl6 bh bh4 bh5 bh6 kl hB4 hB03 hG5 hG6 hG7 b0 b1 k0 k1 hB0 hB01 hB1 hs1 hz1 hz2
  generalize w1.heap.size = l at *
  have hlh : ¬ l = l + 1 := by omega
  have j0 : w7.drew.cell? ⟨l + 1, 0, none⟩ = some (.int .u64 1) := by rw [bh7.drew.cell]; rfl
  have bA := bl7.drew.set 3 (.int .u64 1)
  have bB := bA.set 4 (.int .u64 1)
  have bC := bB.set 5 (.int .i64 0)
  have hA := bh7.drew.other (p := ⟨l, 3, none⟩) (by show ¬ l + 1 = l; omega) (.int .u64 1)
  have hB := hA.other (p := ⟨l, 4, none⟩) (by show ¬ l + 1 = l; omega) (.int .u64 1)
  have hC := hB.other (p := ⟨l, 5, none⟩) (by show ¬ l + 1 = l; omega) (.int .i64 0)
  have dA := (hD7.grow (Below.refl _ _).drew).setOther bl7.drew (by show 7 ≤ 64; decide) (show d ≠ l by omega) ⟨l, 3, none⟩ (.int .u64 1) rfl
  have dB := dA.setOther bA (by simp; show 7 ≤ 64; decide) (show d ≠ l by omega) ⟨l, 4, none⟩ (.int .u64 1) rfl
  have dC := dB.setOther bB (by simp; show 7 ≤ 64; decide) (show d ≠ l by omega) ⟨l, 5, none⟩ (.int .i64 0) rfl
  have gC : w.grownBy (((w7.drew.setCell ⟨l, 3, none⟩ (.int .u64 1)).setCell ⟨l, 4, none⟩ (.int .u64 1)).setCell ⟨l, 5, none⟩ (.int .i64 0)) (some d) :=
    grownBy_rest (grownBy_rest (grownBy_rest (grownBy_rest hG8 (grownBy_drew w7 none) (Nat.le_refl _) (fun r e => by cases e)) (setCell_grown _ ⟨l, 3, none⟩ (.int .u64 1)) (Nat.le_refl _) (fun r e => by injection e with e; subst e; exact hsl2)) (setCell_grown _ ⟨l, 4, none⟩ (.int .u64 1)) (Nat.le_refl _) (fun r e => by injection e with e; subst e; exact hsl2)) (setCell_grown _ ⟨l, 5, none⟩ (.int .i64 0)) (Nat.le_refl _) (fun r e => by injection e with e; subst e; exact hsl2)
  have a3 : w7.drew.cell? ⟨l, 3, none⟩ = some (.int .u64 1) := by rw [bl7.drew.cell]; rfl
  have a4 : (w7.drew.setCell ⟨l, 3, none⟩ (.int .u64 1)).cell? ⟨l, 4, none⟩ = some (.int .u64 1) := by rw [bA.cell]; rfl
  have a5 : ((w7.drew.setCell ⟨l, 3, none⟩ (.int .u64 1)).setCell ⟨l, 4, none⟩ (.int .u64 1)).cell? ⟨l, 5, none⟩ = some (.int .i64 0) := by rw [bB.cell]; rfl
  have x3 : w7.cell? ⟨l, 3, none⟩ = some (.int .u64 1) := by rw [bl7.cell]; rfl
  have x4 : w7.cell? ⟨l, 4, none⟩ = some (.int .u64 1) := by rw [bl7.cell]; rfl
  have x5 : w7.cell? ⟨l, 5, none⟩ = some (.int .i64 0) := by rw [bl7.cell]; rfl
  have y3 := bl7.free 3
  have y4 := bl7.free 4
  have y5 := bl7.free 5
  have f3 := bl7.drew.free 3
  have f4 := bA.free 4
  have f5 := bB.free 5
  have e1 : (((w7.drew.setCell ⟨l, 3, none⟩ (.int .u64 1)).setCell ⟨l, 4, none⟩ (.int .u64 1)).setCell ⟨l, 5, none⟩ (.int .i64 0)).cell? ⟨l, 1, none⟩ = some (.int .i64 fr) := by rw [bC.cell]; rfl
  have e3 : (((w7.drew.setCell ⟨l, 3, none⟩ (.int .u64 1)).setCell ⟨l, 4, none⟩ (.int .u64 1)).setCell ⟨l, 5, none⟩ (.int .i64 0)).cell? ⟨l + 1, 3, none⟩ = some (.int .i64 0) := by rw [hC.cell]; rfl
  have hS0 := bh7.drew
  refine RegF.start (fun W : World => BlkIs W (l + 1) 89 #[.int .u64 1, .int .u64 1, .int .i64 0, .int .i64 0]) 17 (by kernel_rfl) ?_
  refine RegF.take 0 (.pointer (some ⟨l, 0, none⟩)) rfl (by kernel_rfl) (by kernel_rfl) (by kernel_rfl) (by kernel_rfl) (fun _ _ _ h => h) hS0 (RegF.yld rfl (fun W hW => by go_simp)) ?_
  simp only [List.getElem_toArray, List.getElem_cons_zero, Act.put, List.setIfInBounds_toArray, List.set_cons_zero, List.set_cons_succ]
  refine RegF.take 1 (.pointer (some ⟨l, 0, none⟩)) rfl (by kernel_rfl) (by kernel_rfl) (by kernel_rfl) (by kernel_rfl) (fun _ _ _ h => h) hS0 (RegF.yld rfl (fun W hW => by go_simp)) ?_
  simp only [List.getElem_toArray, List.getElem_cons_succ, List.getElem_cons_zero, Act.put, List.setIfInBounds_toArray, List.set_cons_zero, List.set_cons_succ]
  refine RegF.take 2 (.pointer (some ⟨l, 0, none⟩)) rfl (by kernel_rfl) (by kernel_rfl) (by kernel_rfl) (by kernel_rfl) (fun _ _ _ h => h) hS0 (RegF.yld rfl (fun W hW => by go_simp)) ?_
  simp only [List.getElem_toArray, List.getElem_cons_succ, List.getElem_cons_zero, Act.put, List.setIfInBounds_toArray, List.set_cons_zero, List.set_cons_succ]
  refine RegF.take 3 (.pointer (some ⟨l + 1, 0, none⟩)) rfl (by kernel_rfl) (by kernel_rfl) (by kernel_rfl) (by kernel_rfl) (fun _ _ _ h => h) hS0 (RegF.yld rfl (fun W hW => by go_simp)) ?_
  simp only [List.getElem_toArray, List.getElem_cons_succ, List.getElem_cons_zero, Act.put, List.setIfInBounds_toArray, List.set_cons_zero, List.set_cons_succ]
  refine RegF.take 4 (.int .u64 1) rfl (by kernel_rfl) (by kernel_rfl) (by kernel_rfl) (by kernel_rfl) (fun _ _ _ h => h) hS0 (RegF.yld rfl (fun W hW => by have q : W.cell? ⟨l + 1, 0, none⟩ = some (.int .u64 1) := (by rw [hW.cell]; rfl); go_simp)) ?_
  simp only [List.getElem_toArray, List.getElem_cons_succ, List.getElem_cons_zero, Act.put, List.setIfInBounds_toArray, List.set_cons_zero, List.set_cons_succ]
  refine RegF.take 5 (.pointer (some ⟨l + 1, 1, none⟩)) rfl (by kernel_rfl) (by kernel_rfl) (by kernel_rfl) (by kernel_rfl) (fun _ _ _ h => h) hS0 (RegF.yld rfl (fun W hW => by go_simp)) ?_
  simp only [List.getElem_toArray, List.getElem_cons_succ, List.getElem_cons_zero, Act.put, List.setIfInBounds_toArray, List.set_cons_zero, List.set_cons_succ]
  refine RegF.take 6 (.int .u64 1) rfl (by kernel_rfl) (by kernel_rfl) (by kernel_rfl) (by kernel_rfl) (fun _ _ _ h => h) hS0 (RegF.yld rfl (fun W hW => by have q : W.cell? ⟨l + 1, 1, none⟩ = some (.int .u64 1) := (by rw [hW.cell]; rfl); go_simp)) ?_
  simp only [List.getElem_toArray, List.getElem_cons_succ, List.getElem_cons_zero, Act.put, List.setIfInBounds_toArray, List.set_cons_zero, List.set_cons_succ]
  refine RegF.take 7 (.pointer (some ⟨l + 1, 2, none⟩)) rfl (by kernel_rfl) (by kernel_rfl) (by kernel_rfl) (by kernel_rfl) (fun _ _ _ h => h) hS0 (RegF.yld rfl (fun W hW => by go_simp)) ?_
  simp only [List.getElem_toArray, List.getElem_cons_succ, List.getElem_cons_zero, Act.put, List.setIfInBounds_toArray, List.set_cons_zero, List.set_cons_succ]
  refine RegF.take 8 (.int .i64 0) rfl (by kernel_rfl) (by kernel_rfl) (by kernel_rfl) (by kernel_rfl) (fun _ _ _ h => h) hS0 (RegF.yld rfl (fun W hW => by have q : W.cell? ⟨l + 1, 2, none⟩ = some (.int .i64 0) := (by rw [hW.cell]; rfl); go_simp)) ?_
  simp only [List.getElem_toArray, List.getElem_cons_succ, List.getElem_cons_zero, Act.put, List.setIfInBounds_toArray, List.set_cons_zero, List.set_cons_succ]
  refine RegF.one 9 (by kernel_rfl) (RegF.opV (w' := w7.drew) (.pointer (some ⟨l, 0, none⟩)) rfl rfl (by go_simp) ⟨fun _ => hS0, ?_⟩)
  simp only [List.getElem_toArray, List.getElem_cons_succ, List.getElem_cons_zero, Act.put, List.setIfInBounds_toArray, List.set_cons_zero, List.set_cons_succ]
  refine RegF.one 10 (by kernel_rfl) (RegF.opV (w' := w7.drew) (.pointer (some ⟨l, 3, none⟩)) rfl rfl (by go_simp) ⟨fun _ => hS0, ?_⟩)
  simp only [List.getElem_toArray, List.getElem_cons_succ, List.getElem_cons_zero, Act.put, List.setIfInBounds_toArray, List.set_cons_zero, List.set_cons_succ]
  refine RegF.one 11 (by kernel_rfl) (RegF.opS (w' := w7.drew.setCell ⟨l, 3, none⟩ (.int .u64 1)) rfl rfl (by go_simp) ⟨fun _ => hA, ?_⟩)
  simp only [List.getElem_toArray, List.getElem_cons_succ, List.getElem_cons_zero, Act.put]
  refine RegF.one 12 (by kernel_rfl) (RegF.opV (w' := w7.drew.setCell ⟨l, 3, none⟩ (.int .u64 1)) (.pointer (some ⟨l, 0, none⟩)) rfl rfl (by go_simp) ⟨fun _ => hA, ?_⟩)
  simp only [List.getElem_toArray, List.getElem_cons_succ, List.getElem_cons_zero, Act.put, List.setIfInBounds_toArray, List.set_cons_zero, List.set_cons_succ]
  refine RegF.one 13 (by kernel_rfl) (RegF.opV (w' := w7.drew.setCell ⟨l, 3, none⟩ (.int .u64 1)) (.pointer (some ⟨l, 4, none⟩)) rfl rfl (by go_simp) ⟨fun _ => hA, ?_⟩)
  simp only [List.getElem_toArray, List.getElem_cons_succ, List.getElem_cons_zero, Act.put, List.setIfInBounds_toArray, List.set_cons_zero, List.set_cons_succ]
  refine RegF.one 14 (by kernel_rfl) (RegF.opS (w' := (w7.drew.setCell ⟨l, 3, none⟩ (.int .u64 1)).setCell ⟨l, 4, none⟩ (.int .u64 1)) rfl rfl (by go_simp) ⟨fun _ => hB, ?_⟩)
  simp only [List.getElem_toArray, List.getElem_cons_succ, List.getElem_cons_zero, Act.put]
  refine RegF.one 15 (by kernel_rfl) (RegF.opV (w' := (w7.drew.setCell ⟨l, 3, none⟩ (.int .u64 1)).setCell ⟨l, 4, none⟩ (.int .u64 1)) (.pointer (some ⟨l, 0, none⟩)) rfl rfl (by go_simp) ⟨fun _ => hB, ?_⟩)
  simp only [List.getElem_toArray, List.getElem_cons_succ, List.getElem_cons_zero, Act.put, List.setIfInBounds_toArray, List.set_cons_zero, List.set_cons_succ]
  refine RegF.one 16 (by kernel_rfl) (RegF.opV (w' := (w7.drew.setCell ⟨l, 3, none⟩ (.int .u64 1)).setCell ⟨l, 4, none⟩ (.int .u64 1)) (.pointer (some ⟨l, 5, none⟩)) rfl rfl (by go_simp) ⟨fun _ => hB, ?_⟩)
  simp only [List.getElem_toArray, List.getElem_cons_succ, List.getElem_cons_zero, Act.put, List.setIfInBounds_toArray, List.set_cons_zero, List.set_cons_succ]
  refine RegF.one 17 (by kernel_rfl) (RegF.opS (w' := ((w7.drew.setCell ⟨l, 3, none⟩ (.int .u64 1)).setCell ⟨l, 4, none⟩ (.int .u64 1)).setCell ⟨l, 5, none⟩ (.int .i64 0)) rfl rfl (by go_simp) ⟨fun h => absurd rfl h, RegF.done (by kernel_rfl) ?_⟩)
  simp only [List.getElem_toArray, List.getElem_cons_succ, List.getElem_cons_zero, Act.put]
  have HC := count_zero _ l fr (by omega) e1
  have bC2 : BlkIs (((w7.drew.setCell ⟨l, 3, none⟩ (.int .u64 1)).setCell ⟨l, 4, none⟩ (.int .u64 1)).setCell ⟨l, 5, none⟩ (.int .i64 0)) l 57 (lgC (some ⟨d, 0, none⟩) fr pg 1 1 0 none 0 0) := bC
  clear x3 x4 x5 y3 y4 y5 a3 a4 a5 f3 f4 f5 hS0 hA hB bA bB bC hC dA dB bl7 bh7 hD7 j0 hG8
  generalize ((w7.drew.setCell ⟨l, 3, none⟩ (.int .u64 1)).setCell ⟨l, 4, none⟩ (.int .u64 1)).setCell ⟨l, 5, none⟩ (.int .i64 0) = w8 at *
  go_wp2_with (go_at_call 41; refine HC.mono ?_; rintro e w' ⟨rfl, rfl⟩)
  simp only [Exit.noGoto]
  exact ⟨by simp, _, results_tmp2 rfl _ _ _, ⟨l, rfl, hsl2, dC, bC2, gC⟩⟩
end Go.Proofs.YtocnabpplbeafaaGreat
/- wal: what lies on a new log's disk. -/
namespace Go.Proofs.YtocnabpplbeafaaGreat
open Go Go.RowKit Lou

theorem LI.begun : LI (laid (fun _ => zer64) (wrL 1 (hEnc 1 1 0 0) 1)) ⟨1, 1, 0, []⟩ 0 := by
  have e : wrL 1 (hEnc 1 1 0 0) 1 = [(1, headW 1 1 0 0)] := headL_one (s := 1) (e := 1) (z := 0) (c := 0) ⟨by omega, by omega⟩ ⟨by omega, by omega⟩
  have hL : ∀ k, laid (fun _ => zer64) [(1, headW 1 1 0 0)] k = if k = 1 then headW 1 1 0 0 else zer64 := fun k => laid_one _ [] _ _ k
  rw [e]
  generalize laid (fun _ => zer64) [(1, headW 1 1 0 0)] = G at *
  have h0 : G (1 - 1 % 2) = zer64 := hL 0
  refine ⟨⟨hL 1, by decide, by decide, by decide, by decide, by decide, ?_, rfl, ⟨fun j hj => absurd hj (Nat.not_lt_zero j), fun j hj => absurd hj (Nat.not_lt_zero j), fun x hx => by cases hx⟩⟩, ?_, ?_⟩
  · intro _
    show hdS (G (1 - 1 % 2)) < 1
    rw [h0]
    decide
  · intro k
    rw [hL]
    split
    · exact headW_length _ _ _ _
    · decide
  · show hdS2 (G (1 - 1 % 2)) < 1
    rw [h0]
    decide
end Go.Proofs.YtocnabpplbeafaaGreat
/- A function that ranges over functions in a loop: it leaves with many marks among its deferred calls. -/
namespace Go.Proofs.YtocnabpplbeafaaGreat
open Go Go.RowKit Lou Go.Shelf

/-- The marks of so many blocks for deferred calls. -/
def marksD (Ds : List Nat) : List Deferred := Ds.map fun D => { target := .collected D, args := #[] }
theorem leaves_marks {F : Fence} {n : Nat} {P : Program} {fn : Func} {tmps : Array Value} {R : Ending → World → Prop} (K : World → Prop) : ∀ (Ds : List Nat) (w : World), Ds.Nodup → (∀ D ∈ Ds, w.heap[D]? = some (.deferred (some []))) →
    (∀ D ∈ Ds, ∀ V, K V → V.heap[D]? = some (.deferred (some [])) → K (V.putObj D (.deferred none))) → K w →
    (∀ w', K w' → LeavesIn F n P fn tmps R [] .returning w') → LeavesInM F n P fn tmps R (marksD Ds) .returning w
  | [], w, _, _, _, hw, h => h w hw
  | D :: Ds, w, hn, hD, hK, hw, h => by
    rw [List.nodup_cons] at hn
    refine ⟨by simp, .inl ⟨D, w.putObj D (.deferred none), rfl, run_takeDeferred (hD D (by simp)), leaves_marks K Ds _ hn.2 (fun E hE => ?_) (fun E hE => hK E (by simp [hE])) (hK D (by simp) w hw (hD D (by simp))) h⟩⟩
    rw [putObj_oth _ _ _ (fun e => hn.1 (by rw [e]; exact hE))]
    exact hD E (by simp [hE])
end Go.Proofs.YtocnabpplbeafaaGreat
/- loupelaw07: page, num. -/
namespace Go.Proofs.YtocnabpplbeafaaGreat
open Go Go.RowKit Lou

theorem num7_gives (e : Int) (w : World) : Calls Tryz.prog 30 #[.int .i64 e] w fun x w' => x = .returned (.int .i64 e) ∧ w = w' := by
  go_enter Tryz.func30, Tryz.ntmps30
  go_wp2
  go_ret
  exact ⟨rfl, rfl⟩
set_option maxRecDepth 100000 in
set_option maxHeartbeats 2000000 in
theorem page7_gives (w : World) (v : UInt8) : Calls Tryz.prog 65 #[.int .u8 (v.toNat : Int)] w (GivesB w (pgL v)) := by
  have hv := v.toNat_lt
  have hu : UInt8.ofNat v.toNat = v := by simp
  obtain ⟨F, hF⟩ : ∃ F : Nat → List UInt8, F = fun k => List.replicate k v ++ List.replicate (512 - k) 0 := ⟨_, rfl⟩
  have hF0 : F 0 = List.replicate 512 0 := by rw [hF]; rfl
  have hFn : F 512 = pgL v := by rw [hF]; simp [pgL]
  have hFs : Hid (∀ k, k < 512 → (F k).set k (UInt8.ofNat v.toNat) = F (k + 1)) := Lib.hid (by rw [hF, hu]; exact fun k h => fill_nextP v k h)
  have hFl : Hid (∀ k, k ≤ 512 → (F k).length = 512) := Lib.hid (by rw [hF]; intro k h; simp; omega)
  obtain ⟨x, hx⟩ : ∃ x, x = v.toNat := ⟨_, rfl⟩
  rw [← hx] at hFs hv ⊢
  rw [← hFn]
  clear hF hu hx hFn
  go_enter Tryz.func65, Tryz.ntmps65
  go_wp2_with (refine wp_makeB rfl _ _ rfl w.heap.size .i64 .i64 512 rfl rfl (by omega) (Nat.le_refl _) ?_; intro w1 own1 hg1; have hB1 : Below w.heap.size w w1 := grown_below hg1 (Nat.le_refl _) (fun r hr => by cases hr))
  rw [← hF0] at own1
  have hgw : w.heap.size < w1.heap.size := by
    rcases own1.form with ⟨h1, _⟩ | ⟨g', cap', h1, h2, h3, h4⟩
    · cases h1
    · exact ownG_lt own1 w.heap.size rfl
  clear hF0
  go_loopw [4] (fun i wr => ∃ k : Nat, k ≤ 512 ∧ i = .int .i64 k ∧ OwnB wr w.heap.size (.slice (some ⟨w.heap.size, 0, none⟩) 512 512) (F k) ∧ Below w.heap.size w wr) (fun i _ => 512 - (intOf i).toNat)
  case atStart => exact ⟨0, by omega, rfl, own1, hB1⟩
  case round =>
    obtain ⟨k, hk, rfl, ownr, hBr⟩ := hrel
    by_cases hlt : k < 512
    · have hwk : IntKind.i64.wrap ((k : Int) + 1) = (k : Int) + 1 := wrap_i64_fr _ (by omega) (by omega)
      have hc := ownr.cell k (by rw [hFl.out k hk]; exact hlt)
      have hfz := ownr.free k
      have own2 := ownr.set k x hv
      rw [hFs.out k hlt] at own2
      go_wp2
      exact ⟨⟨k + 1, by omega, by simp, own2, hBr.setCell (p := ⟨w.heap.size, k, none⟩) (Nat.le_refl _) _⟩, by simp [intOf]; omega⟩
    · obtain rfl : k = 512 := by omega
      go_wp2
      go_ret
      exact ⟨_, rfl, ownr, hBr⟩
end Go.Proofs.YtocnabpplbeafaaGreat
