/- Texts that the proof of FileHolds leans on, part 11. -/
import Derived.Test.YtocnabpplbeafaaGreatFileHoldsB10
/- wal: Append writes its frames, whatever stop is set. -/
namespace Go.Proofs.YtocnabpplbeafaaGreat
open Go Go.RowKit Lou

/-- A frame's sectors. -/
def frW (x : FrP) : List (Nat × List UInt8) := wrL (2 + 9 * x.i.toNat) (fEnc x.e x.i x.p x.f x.z x.n x.y) 9
def frsW (fs : List FrP) : List (Nat × List UInt8) := (fs.map frW).flatten
theorem frW_length (x : FrP) : (frW x).length = 9 := wrL_length _ _ _
theorem frsW_length : ∀ fs : List FrP, (frsW fs).length = 9 * fs.length
  | [] => rfl
  | x :: fs => by
    have e : frsW (x :: fs) = frW x ++ frsW fs := rfl
    rw [e, List.length_append, frW_length, frsW_length fs, List.length_cons]
    omega
theorem frsW_drop (fs : List FrP) (k : Nat) (hk : k < fs.length) : frsW (fs.drop k) = frW fs[k] ++ frsW (fs.drop (k + 1)) := by
  rw [List.drop_eq_getElem_cons hk]
  rfl
theorem cut_fromF {ρ : Operand → Value} {w : World} {o : Oper} {x y : Operand} {g n c m : Nat} (ho : o.op = .slice 55 x (some y) none none) (h1 : ρ x = .slice (some ⟨g, 0, none⟩) n c) (h2 : ρ y = .int .i64 (m : Int)) (hm : m < n) (hc : n ≤ c) :
    (execOp ρ o).run Tryz.prog w = .ok (.value (.slice (some ⟨g, m * 7, none⟩) (n - m) (c - m))) w := by
  have ht : Tryz.prog.underlying 55 = some (.slice (Tryz.prog.elem 55)) := by kernel_rfl
  have hq : (Tryz.prog.info? (Tryz.prog.elem 55)).map (·.size) = some 7 := by kernel_rfl
  have h3 : m ≤ n := by omega
  have h4 : ¬ c = m := by omega
  simp [execOp, ho, h1, h2, go_sem, run_sliceAt_slice _ _ _ _ _ _ ht, Result.andThen, h3, h4]
section
variable (w : World) (l d many lb mb : Nat) (s : DS) (fr pg : Int) (sr ep : Nat) (sz : Int)
set_option maxRecDepth 100000 in
set_option maxHeartbeats 16000000 in
theorem app1G_gives (A0 : Option Addr) (n0 c0 fg fc : Nat) (vs : List FrV) (hD : DkS w d many s) (hO : s.Ok) (hl : s.xs.length ≤ 700000) (hlg : BlkIs w l 57 (lgC (some ⟨d, 0, none⟩) fr pg sr ep sz A0 n0 c0)) (hlb : BlkIs w lb 33 #[.pointer (some ⟨l, 0, none⟩)]) (hmb : BlkIs w mb 55 #[.slice (some ⟨fg, 0, none⟩) vs.length fc])
    (hx : InG w w.heap.size 7 (some ⟨fg, 0, none⟩) vs.length fc (vsC vs)) (hb : ∀ v ∈ vs, InB w w.heap.size v.2.1 v.2.2 v.1.y ∧ ∀ g o, v.2.1 = some ⟨g, o, none⟩ → g ≠ d) (hn0 : n0 < vs.length) (hN : vs.length ≤ 2000)
    (hld : l ≠ d) (hlbd : lb ≠ d) (hmbd : mb ≠ d) (hfgd : fg ≠ d) (hpl : planOk fr pg = true) (hNf : (vs.length : Int) ≤ fr)
    (hgood : ∀ j (h : j < vs.length), n0 ≤ j → (vs[j]).1.i = (j : Int) ∧ frOk (vs[j]).1.y.length (vs[j]).1.i (vs[j]).1.p (vs[j]).1.f (vs[j]).1.z = true) (hmany : 2 + 9 * vs.length ≤ many) (hmax : many ≤ 1000000) :
    Calls Tryz.prog 48 #[.pointer (some ⟨mb, 0, none⟩), .pointer (some ⟨lb, 0, none⟩)] w fun e' w' => e' = .returned (.int .i64 (wrs s (frsW ((vs.map (·.1)).drop n0))).2) ∧ DkS w' d many (wrs s (frsW ((vs.map (·.1)).drop n0))).1 ∧ w.grownBy w' (some d) := by
  obtain ⟨N, hNN⟩ : ∃ N, N = vs.length := ⟨_, rfl⟩
  obtain ⟨L, hL⟩ : ∃ L, L = frsW ((vs.map (·.1)).drop n0) := ⟨_, rfl⟩
  rw [← hL]
  have HL := Lib.hid hL
  clear hL
  have hcle := hx.le
  have hcmx := hx.max
  have hElem : ∀ j (h : j < vs.length), w.rangeAt fg (j * 7) (vs[j]).arr.toList := fun j h => by
    have := hx.elem j h
    rw [vsC_elem vs j h, Nat.zero_add] at this
    exact this
  have hfg : fg < w.heap.size := by
    obtain ⟨g', o', e, hg, _⟩ := hx.lies (by omega)
    injection e with e
    injection e with e1 e2
    omega
  rw [← hNN] at hmb hn0 hN hNf hmany hcle
  have HNN := Lib.hid hNN
  clear hNN hx
  have hB0 : Below w.heap.size w w.drew := (Below.refl _ _).drew
  have T0 : ∀ W, Below w.heap.size w W → W.cell? ⟨mb, 0, none⟩ = some (.slice (some ⟨fg, 0, none⟩) N fc) := fun W hW => (hmb.below hW hmb.lt).boxed
  have T1 : ∀ W, Below w.heap.size w W → W.cell? ⟨lb, 0, none⟩ = some (.pointer (some ⟨l, 0, none⟩)) := fun W hW => (hlb.below hW hlb.lt).boxed
  have T6 : ∀ W, Below w.heap.size w W → W.cell? ⟨l, 6, none⟩ = some (.slice A0 n0 c0) := fun W hW => by rw [(hlg.below hW hlg.lt).cell]; rfl
  have hdl := hD.lt
  have hll := hlg.lt
  have hlbl := hlb.lt
  go_enter Tryz.func48, Tryz.ntmps48
  go_wp2_with fail
  refine RegF.start (fun W => Below w.heap.size w W) 99 (by kernel_rfl) ?_
  refine RegF.take0 0 (.slice (some ⟨fg, 0, none⟩) N fc) rfl (by kernel_rfl) (by kernel_rfl) (by kernel_rfl) rfl (fun _ _ _ h => h) hB0 (RegF.yld rfl (fun W hW => by have q := T0 W hW; go_simp)) ?_
  simp only [List.getElem_toArray, List.getElem_cons_zero, Act.put, List.setIfInBounds_toArray, List.set_cons_zero, List.set_cons_succ]
  refine RegF.take0 1 (.pointer (some ⟨l, 0, none⟩)) rfl (by kernel_rfl) (by kernel_rfl) (by kernel_rfl) rfl (fun _ _ _ h => h) hB0 (RegF.yld rfl (fun W hW => by have q := T1 W hW; go_simp)) ?_
  simp only [List.getElem_toArray, List.getElem_cons_succ, List.getElem_cons_zero, Act.put, List.setIfInBounds_toArray, List.set_cons_zero, List.set_cons_succ]
  refine RegF.take0 2 (.pointer (some ⟨l, 0, none⟩)) rfl (by kernel_rfl) (by kernel_rfl) (by kernel_rfl) rfl (fun _ _ _ h => h) hB0 (RegF.yld rfl (fun W hW => by go_simp)) ?_
  simp only [List.getElem_toArray, List.getElem_cons_succ, List.getElem_cons_zero, Act.put, List.setIfInBounds_toArray, List.set_cons_zero, List.set_cons_succ]
  refine RegF.take0 3 (.pointer (some ⟨l, 6, none⟩)) rfl (by kernel_rfl) (by kernel_rfl) (by kernel_rfl) rfl (fun _ _ _ h => h) hB0 (RegF.yld rfl (fun W hW => by go_simp)) ?_
  simp only [List.getElem_toArray, List.getElem_cons_succ, List.getElem_cons_zero, Act.put, List.setIfInBounds_toArray, List.set_cons_zero, List.set_cons_succ]
  refine RegF.take0 4 (.slice A0 n0 c0) rfl (by kernel_rfl) (by kernel_rfl) (by kernel_rfl) rfl (fun _ _ _ h => h) hB0 (RegF.yld rfl (fun W hW => by have q := T6 W hW; go_simp)) ?_
  simp only [List.getElem_toArray, List.getElem_cons_succ, List.getElem_cons_zero, Act.put, List.setIfInBounds_toArray, List.set_cons_zero, List.set_cons_succ]
  refine RegF.take0 5 (.int .i64 (n0 : Int)) rfl (by kernel_rfl) (by kernel_rfl) (by kernel_rfl) rfl (fun _ _ _ h => h) hB0 (RegF.yld rfl (fun W hW => by go_simp)) ?_
  simp only [List.getElem_toArray, List.getElem_cons_succ, List.getElem_cons_zero, Act.put, List.setIfInBounds_toArray, List.set_cons_zero, List.set_cons_succ]
  refine RegF.take0 6 (.slice (some ⟨fg, n0 * 7, none⟩) (N - n0) (fc - n0)) rfl (by kernel_rfl) (by kernel_rfl) (by kernel_rfl) rfl (fun _ _ _ h => h) hB0 (RegF.yld rfl (fun W hW => by exact cut_fromF rfl rfl rfl hn0 hcle)) ?_
  simp only [List.getElem_toArray, List.getElem_cons_succ, List.getElem_cons_zero, Act.put, List.setIfInBounds_toArray, List.set_cons_zero, List.set_cons_succ]
  refine RegF.take0 7 (.int .i64 ((N - n0 : Nat) : Int)) rfl (by kernel_rfl) (by kernel_rfl) (by kernel_rfl) rfl (fun _ _ _ h => h) hB0 (RegF.yld rfl (fun W hW => by go_simp)) ?_
  simp only [List.getElem_toArray, List.getElem_cons_succ, List.getElem_cons_zero, Act.put, List.setIfInBounds_toArray, List.set_cons_zero, List.set_cons_succ]
  refine RegF.one 8 (by kernel_rfl) (RegF.opV (w' := w.drew) (.int .i64 0) rfl rfl (by go_simp) ⟨fun _ => hB0, RegF.done (by kernel_rfl) ?_⟩)
  simp only [List.getElem_toArray, List.getElem_cons_succ, List.getElem_cons_zero, Act.put, List.setIfInBounds_toArray, List.set_cons_zero, List.set_cons_succ]
  clear T0 T6 hB0
  go_wp2
  go_loopw [18] (fun i wr => ∃ k : Nat, k ≤ N - n0 ∧ i = .int .i64 (k : Int) ∧ (∃ s' : DS, DkS wr d many s' ∧ s'.Ok ∧ s'.xs.length ≤ s.xs.length + 9 * k ∧ wrs s L = wrs s' (frsW ((vs.map (·.1)).drop (n0 + k)))) ∧ w.grownBy wr (some d)) (fun i _ => (N - n0) - (intOf i).toNat)
  case atStart => exact ⟨0, by omega, rfl, ⟨s, hD.grow (Below.refl _ _).drew, hO, by omega, by rw [HL.out]; rfl⟩, grownBy_drew w _⟩
  case round =>
    obtain ⟨k, hk, rfl, ⟨s', hDr, hOr, hlr, her⟩, hGr⟩ := hrel
    have hGb : GrowBut (fun k => k = d) w wr := GrowBut.grown hGr (fun r e => by cases e; exact .inl rfl)
    by_cases hlt : k < N - n0
    · have hj : n0 + k < vs.length := by have := HNN.out; omega
      obtain ⟨hgi, hok⟩ := hgood (n0 + k) hj (by omega)
      have hel := hElem (n0 + k) hj
      obtain ⟨hin, hne⟩ := hb (vs[n0 + k]) (List.getElem_mem hj)
      have hdr := frsW_drop (vs.map (·.1)) (n0 + k) (by rw [List.length_map]; exact hj)
      rw [List.getElem_map] at hdr
      rw [hdr, wrs_append] at her
      generalize vs[n0 + k] = v at hgi hok hel hin hne her hdr
      obtain ⟨⟨e, i, p, f, z, nl, y⟩, Ay, ky⟩ := v
      simp only at hgi hok hin hne
      subst hgi
      obtain ⟨J, hJ⟩ : ∃ J, J = n0 + k := ⟨_, rfl⟩
      have hel2 : wr.rangeAt fg (n0 * 7 + k * 7) (frCells e (J : Int) p f z nl Ay y.length ky).toList := fun j u hj => by
        have h1 := hel j u (by rw [← hJ]; exact hj)
        have h2 : (n0 + k) * 7 = n0 * 7 + k * 7 := by omega
        rw [h2] at h1
        exact hGb.cell h1 hfg hfgd
      rw [← hJ] at hok her hdr
      have hyr := hGb.inB hin (fun g o e _ => hne g o e)
      have hlgr := hGb.blk hlg hld
      have hlbr := hGb.blk hlb hlbd
      have hJf : ((J : Nat) : Int) < fr := by omega
      have hJm : 2 + 9 * J + 9 ≤ many := by omega
      have HJ := Lib.hid hJ
      have HER := Lib.hid her
      have HDR := Lib.hid hdr
      have hwk : IntKind.i64.wrap ((k : Int) + 1) = (k : Int) + 1 := wrap_i64_fr _ (by omega) (by omega)
      have hwrs := hGr.size
      clear hel hin hne her hdr hgood hElem hb hlg hlb hmb hJ
      have bz := BlkIs.new wr 97 #[.int .u64 0, .int .i64 0, .int .i64 0, .bool false, .int .i64 0, .int .u32 0, .slice none 0 0]
      have hBa : Below wr.heap.size wr (wr.alloc (.cells #[.int .u64 0, .int .i64 0, .int .i64 0, .bool false, .int .i64 0, .int .u32 0, .slice none 0 0] 97)) := (Below.refl _ _).alloc (Nat.le_refl _) _
      have b3 := bz.setRow (frCells e (J : Int) p f z nl Ay y.length ky)
      have hB3 : Below wr.heap.size wr ((wr.alloc (.cells #[.int .u64 0, .int .i64 0, .int .i64 0, .bool false, .int .i64 0, .int .u32 0, .slice none 0 0] 97)).setRow wr.heap.size (frCells e (J : Int) p f z nl Ay y.length ky)) := below_setRow hBa (Nat.le_refl _) _
      go_wp2_with (first
        | (refine wp_exec rfl (x_loadM rowFrame hel2 rfl rfl rfl) ?_)
        | (refine wp_storeW rfl 97 (.tmp 4) (.tmp 21) rfl wr.heap.size rfl rfl rowFrame bz rfl rfl (frCells_one _ _ _ _ _ _ _ _ _) ?_))
      have hD3 := hDr.grow hB3
      have hlg3 := hlgr.below hB3 hlgr.lt
      have hlb3 := hlbr.below hB3 hlbr.lt
      have hy3 := (hyr.below hB3).more hB3.size
      have hG3 : w.grownBy ((wr.alloc (.cells #[.int .u64 0, .int .i64 0, .int .i64 0, .bool false, .int .i64 0, .int .u32 0, .slice none 0 0] 97)).setRow wr.heap.size (frCells e (J : Int) p f z nl Ay y.length ky)) (some d) := hGr.trans (below_grownBy hB3 d)
      clear hel2 hBa bz T1 hDr hlgr hlbr hyr hGr hGb hB3
      generalize (wr.alloc (.cells #[.int .u64 0, .int .i64 0, .int .i64 0, .bool false, .int .i64 0, .int .u32 0, .slice none 0 0] 97)).setRow wr.heap.size (frCells e (J : Int) p f z nl Ay y.length ky) = W3 at *
      generalize wr.heap.size = fb at *
      have HP : ∀ W, Calls Tryz.prog 49 #[.agg #[.int .i64 fr, .int .i64 pg], .int .i64 (J : Int)] W fun e w' => e = .returned (.tuple #[.int .i64 ((2 + 9 * J : Nat) : Int), .int .i64 0]) ∧ Below W.heap.size W w' := fun W => by
        have := frameAt_gives fr pg (J : Int) W
        have h0 : plE (planOk fr pg) (J : Int) fr = 0 := by rw [hpl]; simp [plE]; omega
        unfold atV at this
        rw [h0, if_pos rfl] at this
        rw [show ((2 + 9 * J : Nat) : Int) = 2 + 9 * (J : Int) by omega]
        exact this
      have T1 : ∀ W, Below W3.heap.size W3 W → W.cell? ⟨lb, 0, none⟩ = some (.pointer (some ⟨l, 0, none⟩)) := fun W hW => (hlb3.below hW hlb3.lt).boxed
      have P1 : ∀ W, Below W3.heap.size W3 W → W.cell? ⟨l, 1, none⟩ = some (.int .i64 fr) := fun W hW => by rw [(hlg3.below hW hlg3.lt).cell]; rfl
      have P2 : ∀ W, Below W3.heap.size W3 W → W.cell? ⟨l, 2, none⟩ = some (.int .i64 pg) := fun W hW => by rw [(hlg3.below hW hlg3.lt).cell]; rfl
      have I1 : ∀ W, Below W3.heap.size W3 W → W.cell? ⟨fb, 1, none⟩ = some (.int .i64 (J : Int)) := fun W hW => by rw [(b3.below hW b3.lt).cell]; rfl
      have hS0 : Below W3.heap.size W3 W3.drew := (Below.refl _ _).drew
      obtain ⟨AT, hAT⟩ : ∃ AT : Int, AT = ((2 + 9 * J : Nat) : Int) := ⟨_, rfl⟩
      rw [← hAT] at HP
      have HAT := Lib.hid hAT
      clear hAT
      refine RegF.start (fun W => Below W3.heap.size W3 W) 99 (by kernel_rfl) ?_
      refine RegF.take0 0 (.pointer (some ⟨l, 0, none⟩)) rfl (by kernel_rfl) (by kernel_rfl) (by kernel_rfl) rfl (fun _ _ _ h => h) hS0 (RegF.yld rfl (fun W hW => by have q := T1 W hW; go_simp)) ?_
      simp only [List.getElem_toArray, List.getElem_cons_zero, Act.put, List.setIfInBounds_toArray, List.set_cons_zero, List.set_cons_succ]
      refine RegF.take0 1 (.pointer (some ⟨l, 0, none⟩)) rfl (by kernel_rfl) (by kernel_rfl) (by kernel_rfl) rfl (fun _ _ _ h => h) hS0 (RegF.yld rfl (fun W hW => by go_simp)) ?_
      simp only [List.getElem_toArray, List.getElem_cons_succ, List.getElem_cons_zero, Act.put, List.setIfInBounds_toArray, List.set_cons_zero, List.set_cons_succ]
      refine RegF.take0 2 (.pointer (some ⟨l, 0, none⟩)) rfl (by kernel_rfl) (by kernel_rfl) (by kernel_rfl) rfl (fun _ _ _ h => h) hS0 (RegF.yld rfl (fun W hW => by go_simp)) ?_
      simp only [List.getElem_toArray, List.getElem_cons_succ, List.getElem_cons_zero, Act.put, List.setIfInBounds_toArray, List.set_cons_zero, List.set_cons_succ]
      refine RegF.take0 3 (.pointer (some ⟨l, 1, none⟩)) rfl (by kernel_rfl) (by kernel_rfl) (by kernel_rfl) rfl (fun _ _ _ h => h) hS0 (RegF.yld rfl (fun W hW => by go_simp)) ?_
      simp only [List.getElem_toArray, List.getElem_cons_succ, List.getElem_cons_zero, Act.put, List.setIfInBounds_toArray, List.set_cons_zero, List.set_cons_succ]
      refine RegF.take0 4 (.agg #[.int .i64 fr, .int .i64 pg]) rfl (by kernel_rfl) (by kernel_rfl) (by kernel_rfl) rfl (fun _ _ _ h => h) hS0 (RegF.yld rfl (fun W hW => by have q1 := P1 W hW; have q2 := P2 W hW; go_simp)) ?_
      simp only [List.getElem_toArray, List.getElem_cons_succ, List.getElem_cons_zero, Act.put, List.setIfInBounds_toArray, List.set_cons_zero, List.set_cons_succ]
      refine RegF.take0 5 (.pointer (some ⟨fb, 1, none⟩)) rfl (by kernel_rfl) (by kernel_rfl) (by kernel_rfl) rfl (fun _ _ _ h => h) hS0 (RegF.yld rfl (fun W hW => by go_simp)) ?_
      simp only [List.getElem_toArray, List.getElem_cons_succ, List.getElem_cons_zero, Act.put, List.setIfInBounds_toArray, List.set_cons_zero, List.set_cons_succ]
      refine RegF.take0 6 (.int .i64 (J : Int)) rfl (by kernel_rfl) (by kernel_rfl) (by kernel_rfl) rfl (fun _ _ _ h => h) hS0 (RegF.yld rfl (fun W hW => by have q1 := I1 W hW; go_simp)) ?_
      simp only [List.getElem_toArray, List.getElem_cons_succ, List.getElem_cons_zero, Act.put, List.setIfInBounds_toArray, List.set_cons_zero, List.set_cons_succ]
      refine RegF.one 7 (by kernel_rfl) ?_
      refine RegF.opC 49 #[.tmp 27, .tmp 29] #[23, 3] rfl rfl rfl (enters_of Tryz.func49 (by kernel_rfl) rfl) #[.agg #[.int .i64 fr, .int .i64 pg], .int .i64 (J : Int)] (by simp only [List.map_toArray, List.map_cons, List.map_nil]; rfl) ((HP W3.drew).mono ?_)
      rintro e1 w4 ⟨rfl, hB4⟩
      have hS1 : Below W3.heap.size W3 w4 := hS0.trans (hB4.mono (Nat.le_refl _))
      refine ⟨_, rfl, fun _ => hS1, ?_⟩
      simp only [List.getElem_toArray, List.getElem_cons_succ, List.getElem_cons_zero, Act.put, List.setIfInBounds_toArray, List.set_cons_zero, List.set_cons_succ]
      refine RegF.one 8 (by kernel_rfl) (RegF.opV (w' := w4) (.tuple #[.int .i64 AT, .int .i64 0]) rfl rfl (by go_simp) ⟨fun _ => hS1, ?_⟩)
      simp only [List.getElem_toArray, List.getElem_cons_succ, List.getElem_cons_zero, Act.put, List.setIfInBounds_toArray, List.set_cons_zero, List.set_cons_succ]
      refine RegF.take0 9 (.int .i64 AT) rfl (by kernel_rfl) (by kernel_rfl) (by kernel_rfl) rfl (fun _ _ _ h => h) hS1 (RegF.yld rfl (fun W hW => by go_simp)) ?_
      simp only [List.getElem_toArray, List.getElem_cons_succ, List.getElem_cons_zero, Act.put, List.setIfInBounds_toArray, List.set_cons_zero, List.set_cons_succ]
      refine RegF.take0 10 (.int .i64 0) rfl (by kernel_rfl) (by kernel_rfl) (by kernel_rfl) rfl (fun _ _ _ h => h) hS1 (RegF.yld rfl (fun W hW => by go_simp)) ?_
      simp only [List.getElem_toArray, List.getElem_cons_succ, List.getElem_cons_zero, Act.put, List.setIfInBounds_toArray, List.set_cons_zero, List.set_cons_succ]
      refine RegF.one 11 (by kernel_rfl) (RegF.opV (w' := w4) (.int .i64 AT) rfl rfl (by go_simp) ⟨fun _ => hS1, ?_⟩)
      simp only [List.getElem_toArray, List.getElem_cons_succ, List.getElem_cons_zero, Act.put, List.setIfInBounds_toArray, List.set_cons_zero, List.set_cons_succ]
      refine RegF.one 12 (by kernel_rfl) (RegF.opV (w' := w4) (.int .i64 0) rfl rfl (by go_simp) ⟨fun _ => hS1, RegF.done (by kernel_rfl) ?_⟩)
      simp only [List.getElem_toArray, List.getElem_cons_succ, List.getElem_cons_zero, Act.put, List.setIfInBounds_toArray, List.set_cons_zero, List.set_cons_succ]
      have b4 := b3.below hS1 b3.lt
      have hy4 := (hy3.below hS1).more hS1.size
      have HE := encode_gives e (J : Int) p f z nl Ay ky y w4 hy4
      have hlen : (fEnc e (J : Int) p f z nl y).length = 576 := by
        unfold fEnc
        rw [if_pos hok]
        exact frameB_length ((frOk_iff _ _ _ _ _).1 hok).1
      have hE0 : fErr (J : Int) p f z y = 0 := by unfold fErr; rw [if_pos hok]
      rw [hE0] at HE
      unfold GivesBE at HE
      rw [hlen] at HE
      have HLEN := Lib.hid hlen
      clear hlen hE0 hok HP P1 P2 I1 hS0
      go_wp2_with (first
        | (refine wp_loadW rfl 97 (.tmp 4) rfl fb rfl rowFrame b4 rfl ?_)
        | (go_at_call 50; refine HE.mono ?_; rintro e2 w5 ⟨A5, c5, rfl, hin5, hB5⟩; have hB35 := hS1.trans (hB5.mono hS1.size); have t1 := T1 w5 hB35))
      have hJ := HJ.out
      have hc5 : w5.cell? ⟨l, 0, none⟩ = some (.pointer (some ⟨d, 0, none⟩)) := by rw [(hlg3.below hB35 hlg3.lt).cell]; rfl
      have HW := wwriteS_gives w5 l d many s' (hD3.grow hB35) hOr (by omega) hc5 hld (Nat.lt_of_lt_of_le hlg3.lt hB35.size) (2 + 9 * J) 9 A5 c5 _ hin5 (by rw [HLEN.out]) (by omega) (by omega) hmax
      rw [HLEN.out, ← HAT.out] at HW
      have hfw : frW ⟨e, (J : Int), p, f, z, nl, y⟩ = wrL (2 + 9 * J) (fEnc e (J : Int) p f z nl y) 9 := by simp only [frW, Int.toNat_natCast]
      have hR := HER.out
      rw [hfw] at hR
      have hO6 : (wrs s' (wrL (2 + 9 * J) (fEnc e (J : Int) p f z nl y) 9)).1.Ok := hOr.wrs
      have hl6 := wrs_len (wrL (2 + 9 * J) (fEnc e (J : Int) p f z nl y) 9) s'
      rw [wrL_length] at hl6
      have hz6 := wrs_err (wrL (2 + 9 * J) (fEnc e (J : Int) p f z nl y) 9) s'
      generalize wrs s' (wrL (2 + 9 * J) (fEnc e (J : Int) p f z nl y) 9) = R at HW hR hO6 hl6 hz6
      obtain ⟨s6, q6⟩ := R
      simp only at HW hR hO6 hl6 hz6
      refine HW.mono ?_
      rintro e3 w6 ⟨rfl, hD6, hg6⟩
      have hGE : w.grownBy w6 (some d) := (hG3.trans (below_grownBy hB35 d)).trans hg6
      have HLR := Lib.hid hR
      clear HE HW T1 hR hfw HER hJ
      rcases hz6 with rfl | rfl
      · go_wp2
        go_roundw
        case rel =>
          refine ⟨k + 1, by omega, by simp, ⟨s6, hD6, hO6, by omega, ?_⟩, hGE⟩
          have h5 : wrs s L = _ := HLR.out
          rw [h5, HJ.out]
          first | rfl | (simp; rfl) | simp [Nat.add_assoc]
        case measure => simp [intOf]; omega
      · go_wp2
        go_ret
        have h6 : wrs s L = (s6, 140) := by rw [HLR.out, if_neg (by decide)]
        rw [h6]
        exact ⟨rfl, hD6, hGE⟩
    · obtain rfl : k = N - n0 := by omega
      have h6 : wrs s L = (s', 0) := by
        rw [her, show n0 + (N - n0) = (vs.map (·.1)).length by rw [List.length_map, ← HNN.out]; omega, List.drop_length]
        rfl
      clear her hgood hElem hb
      go_wp2
      go_ret
      rw [h6]
      exact ⟨rfl, hDr, hGr⟩
end
end Go.Proofs.YtocnabpplbeafaaGreat
/- wal: the things that Append does, one behind the other, whatever stop is set. -/
namespace Go.Proofs.YtocnabpplbeafaaGreat
open Go Go.RowKit Lou

/-- Frames written, synced, a head laid; an error. -/
def appD (s : DS) (L1 L2 : List (Nat × List UInt8)) : DS × Int := if (wrs s L1).2 = 0 then (if (synD (wrs s L1).1).2 = 0 then layD (synD (wrs s L1).1).1 L2 else synD (wrs s L1).1) else wrs s L1
section
variable (w : World) (l d many lb mb : Nat) (s : DS) (fr pg : Int) (sr ep : Nat) (sz : Int)
set_option maxRecDepth 100000 in
set_option maxHeartbeats 8000000 in
theorem app2S_gives (A : Option Addr) (n c : Nat) (Am : Option Addr) (nm cm : Nat) (hD : DkS w d many s) (hO : s.Ok) (hl : s.xs.length ≤ 800000) (hlg : BlkIs w l 57 (lgC (some ⟨d, 0, none⟩) fr pg sr ep sz A n c)) (hlb : BlkIs w lb 33 #[.pointer (some ⟨l, 0, none⟩)]) (hmb : BlkIs w mb 55 #[.slice Am nm cm]) (hld : l ≠ d) (hok : headOk sz (nm : Int) = true) (hm2 : 2 ≤ many) (hmax : many ≤ 1000000) (hsr : sr + 1 < 18446744073709551616) :
    Calls Tryz.prog 53 #[.pointer (some ⟨lb, 0, none⟩), .pointer (some ⟨mb, 0, none⟩)] w fun e w' => e = .returned (.int .i64 (layD s (wrL ((sr + 1) % 2) (hEnc (sr + 1) ep sz (nm : Int)) 1)).2) ∧ DkS w' d many (layD s (wrL ((sr + 1) % 2) (hEnc (sr + 1) ep sz (nm : Int)) 1)).1 ∧ (∃ sr' ep', (((layD s (wrL ((sr + 1) % 2) (hEnc (sr + 1) ep sz (nm : Int)) 1)).2 = 0 ∧ sr' = sr + 1 ∧ ep' = ep) ∨ (¬ (layD s (wrL ((sr + 1) % 2) (hEnc (sr + 1) ep sz (nm : Int)) 1)).2 = 0 ∧ sr' = sr ∧ ep' = ep)) ∧ BlkIs w' l 57 (lgC (some ⟨d, 0, none⟩) fr pg sr' ep' sz A n c)) ∧ GrowBut (fun k => k = d ∨ k = l) w w' := by
  have HL := layS_gives w.drew l d many s (sr + 1) ep sz (nm : Int) fr pg sr ep sz A n c (hD.grow (Below.refl _ _).drew) hO hl hlg.drew hld hok hm2 hmax
  generalize layD s (wrL ((sr + 1) % 2) (hEnc (sr + 1) ep sz (nm : Int)) 1) = R at HL ⊢
  obtain ⟨s6, z⟩ := R
  simp only at HL ⊢
  rw [show ((sr + 1 : Nat) : Int) = (sr : Int) + 1 by omega] at HL
  have hw1 : IntKind.u64.wrap ((sr : Int) + 1) = (sr : Int) + 1 := by rw [IntKind.wrap_u64]; omega
  have T3 : ∀ W, BlkIs W l 57 (lgC (some ⟨d, 0, none⟩) fr pg sr ep sz A n c) → W.cell? ⟨l, 3, none⟩ = some (.int .u64 (sr : Int)) := fun W hW => by rw [hW.cell]; rfl
  have T4 : ∀ W, BlkIs W l 57 (lgC (some ⟨d, 0, none⟩) fr pg sr ep sz A n c) → W.cell? ⟨l, 4, none⟩ = some (.int .u64 (ep : Int)) := fun W hW => by rw [hW.cell]; rfl
  have T5 : ∀ W, BlkIs W l 57 (lgC (some ⟨d, 0, none⟩) fr pg sr ep sz A n c) → W.cell? ⟨l, 5, none⟩ = some (.int .i64 sz) := fun W hW => by rw [hW.cell]; rfl
  have hS0 : BlkIs w.drew l 57 (lgC (some ⟨d, 0, none⟩) fr pg sr ep sz A n c) ∧ BlkIs w.drew lb 33 #[.pointer (some ⟨l, 0, none⟩)] ∧ BlkIs w.drew mb 55 #[.slice Am nm cm] := ⟨hlg.drew, hlb.drew, hmb.drew⟩
  go_enter Tryz.func53, Tryz.ntmps53
  go_wp2_with fail
  refine RegM.start (fun W => BlkIs W l 57 (lgC (some ⟨d, 0, none⟩) fr pg sr ep sz A n c) ∧ BlkIs W lb 33 #[.pointer (some ⟨l, 0, none⟩)] ∧ BlkIs W mb 55 #[.slice Am nm cm]) [17, 18] (by kernel_rfl) ?_
  refine RegM.take1 0 (.pointer (some ⟨l, 0, none⟩)) rfl (by kernel_rfl) (by kernel_rfl) (by kernel_rfl) (by kernel_rfl) (by kernel_rfl) rfl (fun _ _ _ h => h) hS0 (RegF.yld rfl (fun W hW => by obtain ⟨q1, q2, q3⟩ := hW; have q := q2.boxed; go_simp)) ?_
  simp only [List.getElem_toArray, List.getElem_cons_zero, Act.put, List.setIfInBounds_toArray, List.set_cons_zero, List.set_cons_succ]
  refine RegM.take1 1 (.pointer (some ⟨l, 0, none⟩)) rfl (by kernel_rfl) (by kernel_rfl) (by kernel_rfl) (by kernel_rfl) (by kernel_rfl) rfl (fun _ _ _ h => h) hS0 (RegF.yld rfl (fun W hW => by obtain ⟨q1, q2, q3⟩ := hW; have q := q2.boxed; go_simp)) ?_
  simp only [List.getElem_toArray, List.getElem_cons_succ, List.getElem_cons_zero, Act.put, List.setIfInBounds_toArray, List.set_cons_zero, List.set_cons_succ]
  refine RegM.take1 2 (.pointer (some ⟨l, 0, none⟩)) rfl (by kernel_rfl) (by kernel_rfl) (by kernel_rfl) (by kernel_rfl) (by kernel_rfl) rfl (fun _ _ _ h => h) hS0 (RegF.yld rfl (fun W hW => by go_simp)) ?_
  simp only [List.getElem_toArray, List.getElem_cons_succ, List.getElem_cons_zero, Act.put, List.setIfInBounds_toArray, List.set_cons_zero, List.set_cons_succ]
  refine RegM.take1 3 (.pointer (some ⟨l, 3, none⟩)) rfl (by kernel_rfl) (by kernel_rfl) (by kernel_rfl) (by kernel_rfl) (by kernel_rfl) rfl (fun _ _ _ h => h) hS0 (RegF.yld rfl (fun W hW => by go_simp)) ?_
  simp only [List.getElem_toArray, List.getElem_cons_succ, List.getElem_cons_zero, Act.put, List.setIfInBounds_toArray, List.set_cons_zero, List.set_cons_succ]
  refine RegM.take1 4 (.int .u64 (sr : Int)) rfl (by kernel_rfl) (by kernel_rfl) (by kernel_rfl) (by kernel_rfl) (by kernel_rfl) rfl (fun _ _ _ h => h) hS0 (RegF.yld rfl (fun W hW => by obtain ⟨q1, q2, q3⟩ := hW; have q := T3 W q1; go_simp)) ?_
  simp only [List.getElem_toArray, List.getElem_cons_succ, List.getElem_cons_zero, Act.put, List.setIfInBounds_toArray, List.set_cons_zero, List.set_cons_succ]
  refine RegM.take1 5 (.int .u64 ((sr : Int) + 1)) rfl (by kernel_rfl) (by kernel_rfl) (by kernel_rfl) (by kernel_rfl) (by kernel_rfl) rfl (fun _ _ _ h => h) hS0 (RegF.yld rfl (fun W hW => by go_simp)) ?_
  simp only [List.getElem_toArray, List.getElem_cons_succ, List.getElem_cons_zero, Act.put, List.setIfInBounds_toArray, List.set_cons_zero, List.set_cons_succ]
  refine RegM.take1 6 (.pointer (some ⟨l, 0, none⟩)) rfl (by kernel_rfl) (by kernel_rfl) (by kernel_rfl) (by kernel_rfl) (by kernel_rfl) rfl (fun _ _ _ h => h) hS0 (RegF.yld rfl (fun W hW => by obtain ⟨q1, q2, q3⟩ := hW; have q := q2.boxed; go_simp)) ?_
  simp only [List.getElem_toArray, List.getElem_cons_succ, List.getElem_cons_zero, Act.put, List.setIfInBounds_toArray, List.set_cons_zero, List.set_cons_succ]
  refine RegM.take1 7 (.pointer (some ⟨l, 0, none⟩)) rfl (by kernel_rfl) (by kernel_rfl) (by kernel_rfl) (by kernel_rfl) (by kernel_rfl) rfl (fun _ _ _ h => h) hS0 (RegF.yld rfl (fun W hW => by go_simp)) ?_
  simp only [List.getElem_toArray, List.getElem_cons_succ, List.getElem_cons_zero, Act.put, List.setIfInBounds_toArray, List.set_cons_zero, List.set_cons_succ]
  refine RegM.take1 8 (.pointer (some ⟨l, 4, none⟩)) rfl (by kernel_rfl) (by kernel_rfl) (by kernel_rfl) (by kernel_rfl) (by kernel_rfl) rfl (fun _ _ _ h => h) hS0 (RegF.yld rfl (fun W hW => by go_simp)) ?_
  simp only [List.getElem_toArray, List.getElem_cons_succ, List.getElem_cons_zero, Act.put, List.setIfInBounds_toArray, List.set_cons_zero, List.set_cons_succ]
  refine RegM.take1 9 (.int .u64 (ep : Int)) rfl (by kernel_rfl) (by kernel_rfl) (by kernel_rfl) (by kernel_rfl) (by kernel_rfl) rfl (fun _ _ _ h => h) hS0 (RegF.yld rfl (fun W hW => by obtain ⟨q1, q2, q3⟩ := hW; have q := T4 W q1; go_simp)) ?_
  simp only [List.getElem_toArray, List.getElem_cons_succ, List.getElem_cons_zero, Act.put, List.setIfInBounds_toArray, List.set_cons_zero, List.set_cons_succ]
  refine RegM.take1 10 (.pointer (some ⟨l, 0, none⟩)) rfl (by kernel_rfl) (by kernel_rfl) (by kernel_rfl) (by kernel_rfl) (by kernel_rfl) rfl (fun _ _ _ h => h) hS0 (RegF.yld rfl (fun W hW => by obtain ⟨q1, q2, q3⟩ := hW; have q := q2.boxed; go_simp)) ?_
  simp only [List.getElem_toArray, List.getElem_cons_succ, List.getElem_cons_zero, Act.put, List.setIfInBounds_toArray, List.set_cons_zero, List.set_cons_succ]
  refine RegM.take1 11 (.pointer (some ⟨l, 0, none⟩)) rfl (by kernel_rfl) (by kernel_rfl) (by kernel_rfl) (by kernel_rfl) (by kernel_rfl) rfl (fun _ _ _ h => h) hS0 (RegF.yld rfl (fun W hW => by go_simp)) ?_
  simp only [List.getElem_toArray, List.getElem_cons_succ, List.getElem_cons_zero, Act.put, List.setIfInBounds_toArray, List.set_cons_zero, List.set_cons_succ]
  refine RegM.take1 12 (.pointer (some ⟨l, 5, none⟩)) rfl (by kernel_rfl) (by kernel_rfl) (by kernel_rfl) (by kernel_rfl) (by kernel_rfl) rfl (fun _ _ _ h => h) hS0 (RegF.yld rfl (fun W hW => by go_simp)) ?_
  simp only [List.getElem_toArray, List.getElem_cons_succ, List.getElem_cons_zero, Act.put, List.setIfInBounds_toArray, List.set_cons_zero, List.set_cons_succ]
  refine RegM.take1 13 (.int .i64 sz) rfl (by kernel_rfl) (by kernel_rfl) (by kernel_rfl) (by kernel_rfl) (by kernel_rfl) rfl (fun _ _ _ h => h) hS0 (RegF.yld rfl (fun W hW => by obtain ⟨q1, q2, q3⟩ := hW; have q := T5 W q1; go_simp)) ?_
  simp only [List.getElem_toArray, List.getElem_cons_succ, List.getElem_cons_zero, Act.put, List.setIfInBounds_toArray, List.set_cons_zero, List.set_cons_succ]
  refine RegM.take1 14 (.slice Am nm cm) rfl (by kernel_rfl) (by kernel_rfl) (by kernel_rfl) (by kernel_rfl) (by kernel_rfl) rfl (fun _ _ _ h => h) hS0 (RegF.yld rfl (fun W hW => by obtain ⟨q1, q2, q3⟩ := hW; have q := q3.boxed; go_simp)) ?_
  simp only [List.getElem_toArray, List.getElem_cons_succ, List.getElem_cons_zero, Act.put, List.setIfInBounds_toArray, List.set_cons_zero, List.set_cons_succ]
  refine RegM.take1 15 (.int .i64 (nm : Int)) rfl (by kernel_rfl) (by kernel_rfl) (by kernel_rfl) (by kernel_rfl) (by kernel_rfl) rfl (fun _ _ _ h => h) hS0 (RegF.yld rfl (fun W hW => by go_simp)) ?_
  simp only [List.getElem_toArray, List.getElem_cons_succ, List.getElem_cons_zero, Act.put, List.setIfInBounds_toArray, List.set_cons_zero, List.set_cons_succ]
  refine RegM.take1 16 (.agg #[.int .u64 ((sr : Int) + 1), .int .u64 (ep : Int), .int .i64 sz, .int .i64 (nm : Int)]) rfl (by kernel_rfl) (by kernel_rfl) (by kernel_rfl) (by kernel_rfl) (by kernel_rfl) rfl (fun _ _ _ h => h) hS0 (RegF.yld rfl (fun W hW => by go_simp)) ?_
  simp only [List.getElem_toArray, List.getElem_cons_succ, List.getElem_cons_zero, Act.put, List.setIfInBounds_toArray, List.set_cons_zero, List.set_cons_succ]
  refine RegM.one 17 (by kernel_rfl) ?_
  refine RegF.opC 40 #[.tmp 3, .tmp 19] #[33, 89] rfl rfl rfl (enters_of Tryz.func40 (by kernel_rfl) rfl) #[.pointer (some ⟨l, 0, none⟩), .agg #[.int .u64 ((sr : Int) + 1), .int .u64 (ep : Int), .int .i64 sz, .int .i64 (nm : Int)]] (by simp only [List.map_toArray, List.map_cons, List.map_nil]; rfl) (HL.mono ?_)
  rintro e w2 ⟨rfl, hD2, ⟨sr', ep', hq, hb2⟩, hG2⟩
  refine ⟨_, rfl, fun h => (by cases h), ?_⟩
  simp only [List.getElem_toArray, List.getElem_cons_succ, List.getElem_cons_zero, Act.put, List.setIfInBounds_toArray, List.set_cons_zero, List.set_cons_succ]
  refine RegM.one 18 (by kernel_rfl) (RegF.opV (w' := w2) (.int .i64 z) rfl rfl (by go_simp) ⟨fun h => (by cases h), RegM.done (by kernel_rfl) ?_⟩)
  simp only [List.getElem_toArray, List.getElem_cons_succ, List.getElem_cons_zero, Act.put, List.setIfInBounds_toArray, List.set_cons_zero, List.set_cons_succ]
  have hG3 : GrowBut (fun k => k = d ∨ k = l) w w2 := (GrowBut.grown (grownBy_drew w none) (fun r e => by cases e)).trans hG2
  have HQ := Lib.hid hq
  clear HL T3 T4 T5 hS0 hq
  go_wp2
  go_ret
  exact ⟨rfl, hD2, ⟨sr', ep', HQ.out, hb2⟩, hG3⟩
end
section
variable (w : World) (l d many lb mb szb : Nat) (s : DS) (fr pg : Int) (sr ep : Nat) (sz : Int)
set_option maxRecDepth 100000 in
set_option maxHeartbeats 8000000 in
theorem appSG_gives (A0 : Option Addr) (n0 c0 fg fc : Nat) (vs : List FrV) (z : Int) (hD : DkS w d many s) (hO : s.Ok) (hl : s.xs.length ≤ 600000) (hlg : BlkIs w l 57 (lgC (some ⟨d, 0, none⟩) fr pg sr ep sz A0 n0 c0)) (hlb : BlkIs w lb 33 #[.pointer (some ⟨l, 0, none⟩)]) (hmb : BlkIs w mb 55 #[.slice (some ⟨fg, 0, none⟩) vs.length fc]) (hsb : BlkIs w szb 3 #[.int .i64 z])
    (hx : InG w w.heap.size 7 (some ⟨fg, 0, none⟩) vs.length fc (vsC vs)) (hb : ∀ v ∈ vs, InB w w.heap.size v.2.1 v.2.2 v.1.y ∧ ∀ g o, v.2.1 = some ⟨g, o, none⟩ → g ≠ d) (hn0 : n0 < vs.length) (hN : vs.length ≤ 2000)
    (hld : l ≠ d) (hlbd : lb ≠ d) (hmbd : mb ≠ d) (hsbd : szb ≠ d) (hfgd : fg ≠ d) (n1 : l ≠ lb) (n2 : l ≠ mb) (n3 : l ≠ szb) (hpl : planOk fr pg = true) (hNf : (vs.length : Int) ≤ fr)
    (hgood : ∀ j (h : j < vs.length), n0 ≤ j → (vs[j]).1.i = (j : Int) ∧ frOk (vs[j]).1.y.length (vs[j]).1.i (vs[j]).1.p (vs[j]).1.f (vs[j]).1.z = true) (hoh : headOk sz (vs.length : Int) = true) (hmany : 2 + 9 * vs.length ≤ many) (hmax : many ≤ 1000000) (hsr : sr + 1 < 18446744073709551616) :
    Calls Tryz.prog 47 #[.slice (some ⟨w.heap.size, 0, none⟩) 4 4] (w.alloc (.cells (apCs lb mb szb d) 42)) fun e w' => ∃ x : Int, e = .returned (.int .i64 x) ∧ x = (appD s (frsW ((vs.map (·.1)).drop n0)) (wrL ((sr + 1) % 2) (hEnc (sr + 1) ep sz (vs.length : Int)) 1)).2 ∧ DkS w' d many (appD s (frsW ((vs.map (·.1)).drop n0)) (wrL ((sr + 1) % 2) (hEnc (sr + 1) ep sz (vs.length : Int)) 1)).1 ∧
      ((x = 0 ∧ BlkIs w' l 57 (lgC (some ⟨d, 0, none⟩) fr pg (sr + 1) ep z (some ⟨fg, 0, none⟩) vs.length fc)) ∨ (¬ x = 0 ∧ BlkIs w' l 57 (lgC (some ⟨d, 0, none⟩) fr pg sr ep sz A0 n0 c0))) ∧ GrowBut (fun k => k = d ∨ k = l) w w' := by
  have hdl := hD.lt
  have hll := hlg.lt
  have q1 := hlb.lt
  have q2 := hmb.lt
  have q3 := hsb.lt
  obtain ⟨V, hV⟩ : ∃ V, V = w.alloc (.cells (apCs lb mb szb d) 42) := ⟨_, rfl⟩
  have hBV : Below w.heap.size w V := by rw [hV]; exact (Below.refl _ w).alloc (Nat.le_refl _) _
  have f0 : BlkIs V w.heap.size 42 (apCs lb mb szb d) := by rw [hV]; exact BlkIs.new w _ _
  rw [← hV]
  clear hV
  have H1 := app1G_gives V l d many lb mb s fr pg sr ep sz A0 n0 c0 fg fc vs (hD.grow hBV) hO (by omega) (hlg.below hBV hll) (hlb.below hBV q1) (hmb.below hBV q2) (hx.grow hBV) (fun v hv => ⟨((hb v hv).1.below hBV).more hBV.size, (hb v hv).2⟩) hn0 hN hld hlbd hmbd hfgd hpl hNf hgood hmany hmax
  have hfl := frsW_length ((vs.map (·.1)).drop n0)
  rw [List.length_drop, List.length_map] at hfl
  have hwl := wrs_len (frsW ((vs.map (·.1)).drop n0)) s
  rw [hfl] at hwl
  clear hfl
  generalize frsW ((vs.map (·.1)).drop n0) = L1 at *
  generalize hL2 : wrL ((sr + 1) % 2) (hEnc (sr + 1) ep sz (vs.length : Int)) 1 = L2
  obtain ⟨r1, hr1⟩ : ∃ r1, r1 = wrs s L1 := ⟨_, rfl⟩
  obtain ⟨r2, hr2⟩ : ∃ r2, r2 = synD r1.1 := ⟨_, rfl⟩
  obtain ⟨r3, hr3⟩ : ∃ r3, r3 = layD r2.1 L2 := ⟨_, rfl⟩
  have hO1 : r1.1.Ok := by rw [hr1]; exact hO.wrs
  have hO2 : r2.1.Ok := by rw [hr2]; exact hO1.syn
  have hl1 : r1.1.xs.length ≤ 700000 := by rw [hr1]; omega
  have hl2 : r2.1.xs.length ≤ 700000 := by
    rw [hr2]
    unfold synD
    split
    · exact hl1
    · exact Nat.zero_le _
  have hA : appD s L1 L2 = if r1.2 = 0 then (if r2.2 = 0 then r3 else r2) else r1 := by
    rw [hr3, hr2, hr1]
    rfl
  rw [← hr1] at H1
  rw [hA]
  clear hA hr1 hwl hO hx hb hgood
  have HS := steps_gives V w.heap.size 4 (apFs lb mb szb d)
    (fun k W => (BlkIs W lb 33 #[.pointer (some ⟨l, 0, none⟩)] ∧ BlkIs W mb 55 #[.slice (some ⟨fg, 0, none⟩) vs.length fc] ∧ BlkIs W szb 3 #[.int .i64 z] ∧ BlkIs W w.heap.size 42 (apCs lb mb szb d) ∧ GrowBut (fun k => k = d ∨ k = l) w W) ∧
      (k = 0 → W = V) ∧
      (k = 1 → r1.2 = 0 ∧ DkS W d many r1.1 ∧ BlkIs W l 57 (lgC (some ⟨d, 0, none⟩) fr pg sr ep sz A0 n0 c0)) ∧
      (k = 2 → r1.2 = 0 ∧ r2.2 = 0 ∧ DkS W d many r2.1 ∧ BlkIs W l 57 (lgC (some ⟨d, 0, none⟩) fr pg sr ep sz A0 n0 c0)) ∧
      (k = 3 → r1.2 = 0 ∧ r2.2 = 0 ∧ r3.2 = 0 ∧ DkS W d many r3.1 ∧ BlkIs W l 57 (lgC (some ⟨d, 0, none⟩) fr pg (sr + 1) ep sz A0 n0 c0)) ∧
      (k = 4 → r1.2 = 0 ∧ r2.2 = 0 ∧ r3.2 = 0 ∧ DkS W d many r3.1 ∧ BlkIs W l 57 (lgC (some ⟨d, 0, none⟩) fr pg (sr + 1) ep z (some ⟨fg, 0, none⟩) vs.length fc)))
    (fun x W => (∃ r : DS × Int, r = (if r1.2 = 0 then (if r2.2 = 0 then r3 else r2) else r1) ∧ x = r.2 ∧ DkS W d many r.1) ∧ BlkIs W l 57 (lgC (some ⟨d, 0, none⟩) fr pg sr ep sz A0 n0 c0) ∧ GrowBut (fun k => k = d ∨ k = l) w W) (by show 4 ≤ 100; omega)
    (by
      rintro k hk W ⟨⟨_, _, _, h4, _⟩, _⟩
      rw [h4.cell]
      match k, hk with
      | 0, _ => rfl
      | 1, _ => rfl
      | 2, _ => rfl
      | 3, _ => rfl
      | k + 4, h => exact absurd h (by simp [apFs]))
    (by
      rintro k hk W ⟨⟨h1, h2, h3, h4, h5⟩, t0, t1, t2, t3, _⟩
      have hsz := h5.size
      have m0 : some lb ≠ some d := fun e => by injection e with e; exact hlbd e
      have m1 : some mb ≠ some d := fun e => by injection e with e; exact hmbd e
      have m2 : some szb ≠ some d := fun e => by injection e with e; exact hsbd e
      have m3 : some w.heap.size ≠ some d := fun e => by injection e with e; omega
      have m4 : some l ≠ some d := fun e => by injection e with e; exact hld e
      have zz (q : Nat) (hq : q ≠ d) (hq2 : l ≠ q) : ¬ (q = d ∨ q = l) := fun e => by rcases e with e | e; exact hq e; exact hq2 e.symm
      match k, hk with
      | 0, _ =>
        obtain rfl := t0 rfl
        refine ⟨enters_of Tryz.func48 (by kernel_rfl) rfl, H1.mono ?_⟩
        rintro e w2 ⟨rfl, hx, hg2⟩
        have hG2 := h5.trans (GrowBut.grown hg2 (fun r e => by cases e; exact .inl (.inl rfl)))
        have hlw := (hlg.below hBV hll).grown hg2 m4
        by_cases hz : r1.2 = 0
        · exact .inl ⟨by rw [hz], ⟨h1.grown hg2 m0, h2.grown hg2 m1, h3.grown hg2 m2, h4.grown hg2 m3, hG2⟩, (fun e => by cases e), (fun _ => ⟨hz, hx, hlw⟩), (fun e => by cases e), (fun e => by cases e), (fun e => by cases e)⟩
        · exact .inr ⟨_, hz, rfl, ⟨r1, by rw [if_neg hz], rfl, hx⟩, hlw, hG2⟩
      | 1, _ =>
        obtain ⟨hz, hDw, hlw⟩ := t1 rfl
        refine ⟨enters_of Tryz.func52 (by kernel_rfl) rfl, (syncS_gives W d many r1.1 hDw hO1 (by omega)).mono ?_⟩
        rw [← hr2]
        rintro e w2 ⟨rfl, hD2, hg2⟩
        have hG2 := h5.trans (GrowBut.grown hg2 (fun r e => by cases e; exact .inl (.inl rfl)))
        have hlw2 := hlw.grown hg2 m4
        by_cases hz2 : r2.2 = 0
        · exact .inl ⟨by rw [hz2], ⟨h1.grown hg2 m0, h2.grown hg2 m1, h3.grown hg2 m2, h4.grown hg2 m3, hG2⟩, (fun e => by cases e), (fun e => by cases e), (fun _ => ⟨hz, hz2, hD2, hlw2⟩), (fun e => by cases e), (fun e => by cases e)⟩
        · exact .inr ⟨_, hz2, rfl, ⟨r2, by rw [if_pos hz, if_neg hz2], rfl, hD2⟩, hlw2, hG2⟩
      | 2, _ =>
        obtain ⟨hz, hz2, hDw, hlw⟩ := t2 rfl
        have H2 := app2S_gives W l d many lb mb r2.1 fr pg sr ep sz A0 n0 c0 (some ⟨fg, 0, none⟩) vs.length fc hDw hO2 (by omega) hlw h1 h2 hld hoh (by omega) hmax hsr
        rw [hL2, ← hr3] at H2
        refine ⟨enters_of Tryz.func53 (by kernel_rfl) rfl, H2.mono ?_⟩
        rintro e w2 ⟨rfl, hD2, ⟨sr', ep', hq, hl2⟩, hG2⟩
        have hG3 := h5.trans hG2
        rcases hq with ⟨hz3, rfl, rfl⟩ | ⟨hz3, rfl, rfl⟩
        · exact .inl ⟨by rw [hz3], ⟨hG2.blk h1 (zz _ hlbd n1), hG2.blk h2 (zz _ hmbd n2), hG2.blk h3 (zz _ hsbd n3), hG2.blk h4 (zz _ (by omega) (by omega)), hG3⟩, (fun e => by cases e), (fun e => by cases e), (fun e => by cases e), (fun _ => ⟨hz, hz2, hz3, hD2, hl2⟩), (fun e => by cases e)⟩
        · exact .inr ⟨_, hz3, rfl, ⟨r3, by rw [if_pos hz, if_pos hz2], rfl, hD2⟩, hl2, hG3⟩
      | 3, _ =>
        obtain ⟨hz, hz2, hz3, hDw, hlw⟩ := t3 rfl
        refine ⟨enters_of Tryz.func54 (by kernel_rfl) rfl, (app3_gives W l lb mb fr pg (sr + 1) ep sz szb (some ⟨d, 0, none⟩) A0 n0 c0 (some ⟨fg, 0, none⟩) vs.length fc z hlw h1 h2 h3 n1 n2 n3).mono ?_⟩
        rintro e w2 ⟨rfl, rfl, hl2⟩
        have hld' : d ≠ l := fun e => hld e.symm
        have hl1 := hlw.drew.set 6 (.slice (some ⟨fg, 0, none⟩) vs.length fc)
        have zl : w.heap.size ≠ l := by omega
        exact .inl ⟨rfl, ⟨(h1.drew.other (fun e => n1 e.symm) _).other (fun e => n1 e.symm) _, (h2.drew.other (fun e => n2 e.symm) _).other (fun e => n2 e.symm) _, (h3.drew.other (fun e => n3 e.symm) _).other (fun e => n3 e.symm) _, (h4.drew.other zl _).other zl _,
          ((h5.trans (GrowBut.grown (grownBy_drew W none) (fun r e => by cases e))).trans (GrowBut.setCell _ _ _ (.inr rfl))).trans (GrowBut.setCell _ _ _ (.inr rfl))⟩, (fun e => by cases e), (fun e => by cases e), (fun e => by cases e), (fun e => by cases e), (fun _ => ⟨hz, hz2, hz3, ((hDw.grow (Below.refl _ _).drew).setOther hlw.drew (by show 7 ≤ 64; decide) hld' _ _ rfl).setOther hl1 (by simp; show 7 ≤ 64; decide) hld' _ _ rfl, hl2⟩)⟩
      | k + 4, h => exact absurd h (by simp [apFs]))
    ⟨⟨hlb.below hBV q1, hmb.below hBV q2, hsb.below hBV q3, f0, GrowBut.below hBV⟩, (fun _ => rfl), (fun e => by cases e), (fun e => by cases e), (fun e => by cases e), (fun e => by cases e)⟩
  refine HS.mono ?_
  rintro e w2 (⟨rfl, ⟨_, _, _, _, h5⟩, _, _, _, _, r4⟩ | ⟨x, hx, rfl, ⟨r, rfl, rfl, hD2⟩, hl2, h5⟩)
  · obtain ⟨hz, hz2, hz3, hD4, hl4⟩ := r4 rfl
    exact ⟨0, rfl, by rw [if_pos hz, if_pos hz2, hz3], by rw [if_pos hz, if_pos hz2]; exact hD4, .inl ⟨rfl, hl4⟩, h5⟩
  · exact ⟨_, rfl, rfl, hD2, .inr ⟨hx, hl2⟩, h5⟩
end
end Go.Proofs.YtocnabpplbeafaaGreat
/- wal: right, whatever is asked. -/
namespace Go.Proofs.YtocnabpplbeafaaGreat
open Go Go.RowKit Lou

/-- What right asks. -/
def RightC (fr pg s : Int) (n : Nat) (xs : Nat → Int × Option Addr × Nat) : Prop := 1 ≤ n ∧ 0 ≤ s ∧ s ≤ pg ∧ ∀ k, k < n → plE (planOk fr pg) (xs k).1 pg = 0
/-- A truth that says whether p. -/
def BoolIff (p : Prop) (e : Ending) : Prop := ∃ b, e = .returned (.bool b) ∧ (b = true ↔ p)
set_option maxRecDepth 100000 in
set_option maxHeartbeats 8000000 in
theorem right1G_gives (w : World) (lb l : Nat) (D : Option Addr) (fr pg : Int) (sr ep : Nat) (sz : Int) (A : Option Addr) (n c : Nat) (hlb : BlkIs w lb 33 #[.pointer (some ⟨l, 0, none⟩)]) (hlg : BlkIs w l 57 (lgC D fr pg sr ep sz A n c)) (p : Int) (A2 : Option Addr) (c2 : Nat) (q : Int) (hp : plE (planOk fr pg) p pg = q) :
    Calls Tryz.prog 84 #[.agg #[.int .i64 p, .slice A2 512 c2], .pointer (some ⟨lb, 0, none⟩)] w fun e w' => e = .returned (.bool (!decide (q = 0))) ∧ Below w.heap.size w w' := by
  obtain ⟨W0, hW0⟩ : ∃ W0, W0 = w.alloc (.cells #[.int .i64 p, .slice A2 512 c2] 80) := ⟨_, rfl⟩
  have hB0 : Below w.heap.size w W0 := by rw [hW0]; exact (Below.refl _ w).alloc (Nat.le_refl _) _
  have b0 : BlkIs W0 w.heap.size 80 #[.int .i64 p, .slice A2 512 c2] := by rw [hW0]; exact BlkIs.new w _ _
  have hlb0 := hlb.below hB0 hlb.lt
  have hlg0 := hlg.below hB0 hlg.lt
  obtain ⟨at_, hat⟩ : ∃ at_, at_ = if q = 0 then 2 + 9 * fr + 8 * p else 0 := ⟨_, rfl⟩
  have HP : ∀ W, Calls Tryz.prog 85 #[.agg #[.int .i64 fr, .int .i64 pg], .int .i64 p] W fun e w' => e = .returned (.tuple #[.int .i64 at_, .int .i64 q]) ∧ Below W.heap.size W w' := fun W => by
    have := pageAt_gives fr pg p W
    unfold atV at this
    rw [hp, ← hat] at this
    exact this
  clear hat
  go_enter Tryz.func84, Tryz.ntmps84
  go_wp2_with fail
  rw [← hW0]
  clear hW0
  have hS0 : Below W0.heap.size W0 W0.drew := (Below.refl _ _).drew
  refine RegF.start (fun W => Below W0.heap.size W0 W) 99 (by kernel_rfl) ?_
  refine RegF.take0 0 (.pointer (some ⟨l, 0, none⟩)) rfl (by kernel_rfl) (by kernel_rfl) (by kernel_rfl) rfl (fun _ _ _ h => h) hS0 (RegF.yld rfl (fun W hW => by have q := (hlb0.below hW hlb0.lt).boxed; go_simp)) ?_
  simp only [List.getElem_toArray, List.getElem_cons_zero, Act.put, List.setIfInBounds_toArray, List.set_cons_zero, List.set_cons_succ]
  refine RegF.take0 1 (.pointer (some ⟨l, 0, none⟩)) rfl (by kernel_rfl) (by kernel_rfl) (by kernel_rfl) rfl (fun _ _ _ h => h) hS0 (RegF.yld rfl (fun W hW => by go_simp)) ?_
  simp only [List.getElem_toArray, List.getElem_cons_succ, List.getElem_cons_zero, Act.put, List.setIfInBounds_toArray, List.set_cons_zero, List.set_cons_succ]
  refine RegF.take0 2 (.pointer (some ⟨l, 0, none⟩)) rfl (by kernel_rfl) (by kernel_rfl) (by kernel_rfl) rfl (fun _ _ _ h => h) hS0 (RegF.yld rfl (fun W hW => by go_simp)) ?_
  simp only [List.getElem_toArray, List.getElem_cons_succ, List.getElem_cons_zero, Act.put, List.setIfInBounds_toArray, List.set_cons_zero, List.set_cons_succ]
  refine RegF.take0 3 (.pointer (some ⟨l, 1, none⟩)) rfl (by kernel_rfl) (by kernel_rfl) (by kernel_rfl) rfl (fun _ _ _ h => h) hS0 (RegF.yld rfl (fun W hW => by go_simp)) ?_
  simp only [List.getElem_toArray, List.getElem_cons_succ, List.getElem_cons_zero, Act.put, List.setIfInBounds_toArray, List.set_cons_zero, List.set_cons_succ]
  refine RegF.take0 4 (.agg #[.int .i64 fr, .int .i64 pg]) rfl (by kernel_rfl) (by kernel_rfl) (by kernel_rfl) rfl (fun _ _ _ h => h) hS0 (RegF.yld rfl (fun W hW => by have h := hlg0.below hW hlg0.lt; have q1 : W.cell? ⟨l, 1, none⟩ = some (.int .i64 fr) := (by rw [h.cell]; rfl); have q2 : W.cell? ⟨l, 2, none⟩ = some (.int .i64 pg) := (by rw [h.cell]; rfl); go_simp)) ?_
  simp only [List.getElem_toArray, List.getElem_cons_succ, List.getElem_cons_zero, Act.put, List.setIfInBounds_toArray, List.set_cons_zero, List.set_cons_succ]
  refine RegF.take0 5 (.pointer (some ⟨w.heap.size, 0, none⟩)) rfl (by kernel_rfl) (by kernel_rfl) (by kernel_rfl) rfl (fun _ _ _ h => h) hS0 (RegF.yld rfl (fun W hW => by go_simp)) ?_
  simp only [List.getElem_toArray, List.getElem_cons_succ, List.getElem_cons_zero, Act.put, List.setIfInBounds_toArray, List.set_cons_zero, List.set_cons_succ]
  refine RegF.take0 6 (.int .i64 p) rfl (by kernel_rfl) (by kernel_rfl) (by kernel_rfl) rfl (fun _ _ _ h => h) hS0 (RegF.yld rfl (fun W hW => by have h := b0.below hW b0.lt; have q1 : W.cell? ⟨w.heap.size, 0, none⟩ = some (.int .i64 p) := (by rw [h.cell]; rfl); go_simp)) ?_
  simp only [List.getElem_toArray, List.getElem_cons_succ, List.getElem_cons_zero, Act.put, List.setIfInBounds_toArray, List.set_cons_zero, List.set_cons_succ]
  refine RegF.one 7 (by kernel_rfl) ?_
  refine RegF.opC 85 #[.tmp 11, .tmp 13] #[23, 3] rfl rfl rfl (enters_of Tryz.func85 (by kernel_rfl) rfl) #[.agg #[.int .i64 fr, .int .i64 pg], .int .i64 p] (by simp only [List.map_toArray, List.map_cons, List.map_nil]; rfl) ((HP W0.drew).mono ?_)
  rintro e w1 ⟨rfl, hB1⟩
  have hS1 : Below W0.heap.size W0 w1 := hS0.trans (hB1.mono (Nat.le_refl _))
  refine ⟨_, rfl, fun _ => hS1, ?_⟩
  simp only [List.getElem_toArray, List.getElem_cons_succ, List.getElem_cons_zero, Act.put, List.setIfInBounds_toArray, List.set_cons_zero, List.set_cons_succ]
  refine RegF.one 8 (by kernel_rfl) (RegF.opV (w' := w1) (.tuple #[.int .i64 at_, .int .i64 q]) rfl rfl (by go_simp) ⟨fun _ => hS1, ?_⟩)
  simp only [List.getElem_toArray, List.getElem_cons_succ, List.getElem_cons_zero, Act.put, List.setIfInBounds_toArray, List.set_cons_zero, List.set_cons_succ]
  refine RegF.take0 9 (.int .i64 at_) rfl (by kernel_rfl) (by kernel_rfl) (by kernel_rfl) rfl (fun _ _ _ h => h) hS1 (RegF.yld rfl (fun W hW => by go_simp)) ?_
  simp only [List.getElem_toArray, List.getElem_cons_succ, List.getElem_cons_zero, Act.put, List.setIfInBounds_toArray, List.set_cons_zero, List.set_cons_succ]
  refine RegF.take0 10 (.int .i64 q) rfl (by kernel_rfl) (by kernel_rfl) (by kernel_rfl) rfl (fun _ _ _ h => h) hS1 (RegF.yld rfl (fun W hW => by go_simp)) ?_
  simp only [List.getElem_toArray, List.getElem_cons_succ, List.getElem_cons_zero, Act.put, List.setIfInBounds_toArray, List.set_cons_zero, List.set_cons_succ]
  refine RegF.one 11 (by kernel_rfl) (RegF.opV (w' := w1) (.int .i64 at_) rfl rfl (by go_simp) ⟨fun _ => hS1, ?_⟩)
  simp only [List.getElem_toArray, List.getElem_cons_succ, List.getElem_cons_zero, Act.put, List.setIfInBounds_toArray, List.set_cons_zero, List.set_cons_succ]
  refine RegF.one 12 (by kernel_rfl) (RegF.opV (w' := w1) (.int .i64 q) rfl rfl (by go_simp) ⟨fun _ => hS1, RegF.done (by kernel_rfl) ?_⟩)
  simp only [List.getElem_toArray, List.getElem_cons_succ, List.getElem_cons_zero, Act.put, List.setIfInBounds_toArray, List.set_cons_zero, List.set_cons_succ]
  have h := b0.below hS1 b0.lt
  have q1 : w1.cell? ⟨w.heap.size, 1, none⟩ = some (.slice A2 512 c2) := by rw [h.cell]; rfl
  have hBf := hB0.trans (hS1.mono hB0.size)
  clear HP hp
  by_cases hq : q = 0
  · subst hq
    go_wp2
    go_ret
    exact ⟨rfl, hBf⟩
  · go_wp2
    go_ret
    refine ⟨?_, hBf⟩
    simp [hq]
set_option maxRecDepth 100000 in
set_option maxHeartbeats 8000000 in
theorem indexG_gives (w : World) (lb g o n c : Nat) (xs : Nat → Int × Option Addr × Nat) (hn : n ≤ 1000) (hx : PwIn w g o n xs) (hg : g < w.heap.size) (bad : Nat → Bool)
    (HF : ∀ k W, k < n → Below w.heap.size w W → Calls Tryz.prog 84 #[.agg #[.int .i64 (xs k).1, .slice (xs k).2.1 512 (xs k).2.2], .pointer (some ⟨lb, 0, none⟩)] W fun e w' => e = .returned (.bool (bad k)) ∧ Below W.heap.size W w') :
    Calls Tryz.prog 112 #[.slice (some ⟨g, o, none⟩) n c, .func (.func 84) #[] #[.pointer (some ⟨lb, 0, none⟩)]] w fun e w' => (∃ r : Int, e = .returned (.int .i64 r) ∧ ((r = -1 ∧ ∀ k, k < n → bad k = false) ∨ (0 ≤ r ∧ ∃ k, k < n ∧ bad k = true))) ∧ Below w.heap.size w w' := by
  have hent : ∀ args w, (callFunc 84 args).run Tryz.prog w = .ok (.enter 84 args) w := enters_of Tryz.func84 (by kernel_rfl) rfl
  go_enter Tryz.func112, Tryz.ntmps112
  go_wp2
  go_loopw [8] (fun i wr => ∃ k : Nat, k ≤ n ∧ i = .int .i64 (k : Int) ∧ (∀ j, j < k → bad j = false) ∧ Below w.heap.size w wr) (fun i _ => n - (intOf i).toNat)
  case atStart => exact ⟨0, by omega, rfl, (fun j hj => absurd hj (Nat.not_lt_zero j)), Below.refl _ _⟩
  case round =>
    obtain ⟨k, hk, rfl, hno, hB⟩ := hrel
    by_cases hlt : k < n
    · have hr := (hx.below hB hg) k hlt
      have HK := HF k wr hlt hB
      have hwk : IntKind.i64.wrap ((k : Int) + 1) = (k : Int) + 1 := wrap_i64_fr _ (by omega) (by omega)
      generalize xs k = x at *
      clear HF hx
      go_wp2_with (first
        | (refine wp_exec rfl (x_loadM rowPW hr rfl rfl rfl) ?_))
      refine HK.mono ?_
      rintro e w2 ⟨rfl, hB2⟩
      have hBf := hB.trans (hB2.mono hB.size)
      have HNO := Lib.hid hno
      clear hno
      cases hb : bad k
      · go_wp2
        go_roundw
        case rel =>
          refine ⟨k + 1, by omega, by simp, fun j hj => ?_, hBf⟩
          by_cases hjk : j < k
          · exact HNO.out j hjk
          · obtain rfl : j = k := by omega
            exact hb
        case measure => simp [intOf]; omega
      · have HB := Lib.hid hb
        clear hb
        go_wp2
        go_ret
        exact ⟨⟨_, rfl, .inr ⟨by omega, k, hlt, HB.out⟩⟩, hBf⟩
    · obtain rfl : k = n := by omega
      have HNO := Lib.hid hno
      clear HF hno
      go_wp2
      go_ret
      exact ⟨⟨_, rfl, .inl ⟨rfl, HNO.out⟩⟩, hB⟩
set_option maxRecDepth 100000 in
theorem containsG_gives (w : World) (lb g o n c : Nat) (xs : Nat → Int × Option Addr × Nat) (hn : n ≤ 1000) (hx : PwIn w g o n xs) (hg : g < w.heap.size) (bad : Nat → Bool)
    (HF : ∀ k W, k < n → Below w.heap.size w W → Calls Tryz.prog 84 #[.agg #[.int .i64 (xs k).1, .slice (xs k).2.1 512 (xs k).2.2], .pointer (some ⟨lb, 0, none⟩)] W fun e w' => e = .returned (.bool (bad k)) ∧ Below W.heap.size W w') :
    Calls Tryz.prog 83 #[.slice (some ⟨g, o, none⟩) n c, .func (.func 84) #[] #[.pointer (some ⟨lb, 0, none⟩)]] w fun e w' => BoolIff (∃ k, k < n ∧ bad k = true) e ∧ Below w.heap.size w w' := by
  have HI := indexG_gives w lb g o n c xs hn hx hg bad HF
  clear HF hx
  go_enter Tryz.func83, Tryz.ntmps83
  go_wp2_with (go_at_call 112; refine HI.mono ?_; rintro e w' ⟨⟨r, rfl, hr⟩, hB⟩; have HR := Lib.hid hr; clear hr)
  have hge : (0 ≤ r) = (∃ k, k < n ∧ bad k = true) := by
    refine propext ?_
    rcases HR.out with ⟨rfl, h⟩ | ⟨h0, h⟩
    · refine ⟨fun h' => absurd h' (by omega), ?_⟩
      rintro ⟨k, hk, hb⟩
      rw [h k hk] at hb
      cases hb
    · exact ⟨fun _ => h, fun _ => h0⟩
  go_ret
  refine ⟨⟨decide (0 ≤ r), rfl, ?_⟩, hB⟩
  rw [decide_eq_true_iff, hge]
set_option maxRecDepth 100000 in
set_option maxHeartbeats 8000000 in
theorem lrightG_gives (w : World) (l : Nat) (D : Option Addr) (fr pg : Int) (sr ep : Nat) (sz : Int) (A : Option Addr) (n0 c0 : Nat) (hlg : BlkIs w l 57 (lgC D fr pg sr ep sz A n0 c0)) (A1 : Option Addr) (n c : Nat) (xs : Nat → Int × Option Addr × Nat) (hn : n ≤ 1000) (hA : 1 ≤ n → ∃ g o, A1 = some ⟨g, o, none⟩ ∧ PwIn w g o n xs ∧ g < w.heap.size)
    (s : Int) :
    Calls Tryz.prog 43 #[.pointer (some ⟨l, 0, none⟩), .int .i64 s, .slice A1 n c] w fun e w' => BoolIff (RightC fr pg s n xs) e ∧ Below w.heap.size w w' := by
  have hB0 : Below w.heap.size w (w.alloc (.cells #[.pointer (some ⟨l, 0, none⟩)] 33)) := (Below.refl _ w).alloc (Nat.le_refl _) _
  have b0 := BlkIs.new w 33 #[.pointer (some ⟨l, 0, none⟩)]
  have hlg0 := hlg.below hB0 hlg.lt
  have k2 : (w.alloc (.cells #[.pointer (some ⟨l, 0, none⟩)] 33)).cell? ⟨l, 2, none⟩ = some (.int .i64 pg) := by rw [hlg0.cell]; rfl
  rcases Nat.eq_zero_or_pos n with h0 | h0
  · subst h0
    go_enter Tryz.func43, Tryz.ntmps43
    go_wp2
    go_ret
    exact ⟨⟨false, rfl, (fun h => by cases h), fun h => absurd h.1 (by omega)⟩, hB0⟩
  · obtain ⟨g, o, rfl, hx, hg⟩ := hA h0
    have h0i : (0 : Int) < (n : Int) := by omega
    have hBp : ∀ k, (!decide (plE (planOk fr pg) (xs k).1 pg = 0)) = true ↔ ¬ plE (planOk fr pg) (xs k).1 pg = 0 := fun k => by simp
    have HC := containsG_gives (w.alloc (.cells #[.pointer (some ⟨l, 0, none⟩)] 33)) w.heap.size g o n c xs hn (hx.below hB0 hg) (by simp; omega) (fun k => !decide (plE (planOk fr pg) (xs k).1 pg = 0)) (fun k W hk hB => right1G_gives W w.heap.size l D fr pg sr ep sz A n0 c0 (b0.below hB b0.lt) (hlg0.below hB hlg0.lt) (xs k).1 (xs k).2.1 (xs k).2.2 _ rfl)
    have HB : Hid (∀ k, (!decide (plE (planOk fr pg) (xs k).1 pg = 0)) = true ↔ ¬ plE (planOk fr pg) (xs k).1 pg = 0) := Lib.hid hBp
    clear hx hBp hA
    by_cases hs : 0 ≤ s
    · by_cases hs2 : s ≤ pg
      · go_enter Tryz.func43, Tryz.ntmps43
        go_wp2_with (go_at_call 83; refine HC.mono ?_; rintro e w' ⟨⟨b, rfl, hb⟩, hB⟩; have HB2 := Lib.hid hb; clear hb)
        go_ret
        refine ⟨⟨_, rfl, ?_⟩, hB0.trans (hB.mono hB0.size)⟩
        have hb := HB2.out
        cases b
        · simp only [Bool.not_false, true_iff]
          refine ⟨h0, hs, hs2, fun k hk => ?_⟩
          by_cases hz : plE (planOk fr pg) (xs k).1 pg = 0
          · exact hz
          · have := hb.2 ⟨k, hk, (HB.out k).2 hz⟩
            cases this
        · obtain ⟨k, hk, hz⟩ := hb.1 rfl
          simp only [Bool.not_true]
          constructor
          · intro h
            cases h
          · rintro ⟨_, _, _, h⟩
            exact absurd (h k hk) ((HB.out k).1 hz)
      · have hs3 : pg < s := by omega
        clear HC
        go_enter Tryz.func43, Tryz.ntmps43
        go_wp2
        go_ret
        exact ⟨⟨false, rfl, (fun h => by cases h), fun h => absurd h.2.2.1 (by omega)⟩, hB0⟩
    · clear HC
      go_enter Tryz.func43, Tryz.ntmps43
      go_wp2
      go_ret
      exact ⟨⟨false, rfl, (fun h => by cases h), fun h => absurd h.2.1 (by omega)⟩, hB0⟩
end Go.Proofs.YtocnabpplbeafaaGreat
