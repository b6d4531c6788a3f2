/- Texts that the proof of WalHolds leans on, part 17. -/
import Derived.Deep.Slices
import Derived.Deep.Grids
import Derived.ChangeArms
import Derived.Test.YtocnabpplbeafaaGreatWalHoldsB16
/- loupelaw06.WalHolds: the walk. -/
namespace Go.Proofs.YtocnabpplbeafaaGreat
open Go Go.RowKit Lou

theorem GrowBut.up {B d l : Nat} {w0 w w' : World} (hB : Below B w0 w) (hG : GrowBut (fun k => k = d ∨ k = l) w w') (hd : B ≤ d) (hl : B ≤ l) (hw : B ≤ w.heap.size) : Below B w0 w' :=
  hB.trans (hG.toBelow hw (fun k e => by rcases e with rfl | rfl <;> assumption))
/-- What an act appends. -/
def acPw (x : AcV) : Nat → Int × List UInt8 := pwOf x.ps x.bs
theorem acPw_len (x : AcV) : ∀ k, k < x.ps.length → (acPw x k).2.length = 512 := fun k _ => by
  show (List.replicate 512 _).length = 512
  exact List.length_replicate
/-- The log and its disk, in a world. -/
structure WhIs (W0 : World) (d l many : Nat) (fr pg : Int) (s : DS) (S : LgS) (W : World) : Prop where
  up : Below W0.heap.size W0 W
  dk : DkS W d many s
  lg : LogIs W l d fr pg S
  gd : W0.heap.size ≤ d
  gl : W0.heap.size ≤ l
theorem WhIs.grow {W0 W W' : World} {d l many : Nat} {fr pg : Int} {s : DS} {S : LgS} (h : WhIs W0 d l many fr pg s S W) (hB : Below W.heap.size W W') : WhIs W0 d l many fr pg s S W' :=
  ⟨h.up.trans (hB.mono h.up.size), h.dk.grow hB, h.lg.grow hB, h.gd, h.gl⟩
theorem LogIs.turned {w w' : World} {l d : Nat} {fr pg : Int} {S : LgS} (h : LogIs w l d fr pg S) (hg : w.grownBy w' (some d)) : LogIs w' l d fr pg S := by
  obtain ⟨hld, A, c, vs, hlg, hF, hvs⟩ := h
  have hG : GrowBut (fun k => k = d) w w' := GrowBut.grown hg (fun r e => by injection e with e; exact .inl e.symm)
  exact ⟨hld, A, c, vs, hG.blk hlg hld, hF.keep hG (fun k h _ => .inl h), hvs⟩
theorem WhIs.turned {W0 W W' : World} {d l many : Nat} {fr pg : Int} {s s' : DS} {S : LgS} (h : WhIs W0 d l many fr pg s S W) (hg : W.grownBy W' (some d)) (hD : DkS W' d many s') : WhIs W0 d l many fr pg s' S W' :=
  ⟨h.up.trans (grown_below hg h.up.size (fun r e => by injection e with e; rw [← e]; exact h.gd)), hD, h.lg.turned hg, h.gd, h.gl⟩
theorem ok_stop (G : Nat → List UInt8) (L : Nat) (hL : L ≤ 1000) : (⟨G, [], (L : Int), true⟩ : DS).Ok := ⟨by show (-1000000 : Int) ≤ (L : Int); omega, by show (L : Int) ≤ 9223372036854775807; omega, fun _ => by show (0 : Int) ≤ (L : Int); omega⟩
theorem ok_free (G : Nat → List UInt8) : (⟨G, [], 0, false⟩ : DS).Ok := ⟨by show (-1000000 : Int) ≤ 0; decide, by show (0 : Int) ≤ 9223372036854775807; decide, fun h => by cases h⟩
/-- How far the acts have come. -/
def WhRel (W0 : World) (d l many : Nat) (fr pg : Int) (i : Value) (last : Nat) (W : World) : Prop := ∃ k : Nat, k ≤ last ∧ i = .int .i64 (k : Int) ∧ ∃ G S, StP fr pg G S k ∧ WhIs W0 d l many fr pg ⟨G, [], 0, false⟩ S W
/-- The act's pages are appended: writes, then Append, of whatever log. -/
theorem append_ac {W0 W : World} {d l many : Nat} {fr pg : Int} {s : DS} {S : LgS} (h : WhIs W0 d l many fr pg s S W) (hO : s.Ok) (hl : s.xs.length ≤ 500000) {i : Nat} {G : Nat → List UInt8} (hS : StP fr pg G S i) (hi : i ≤ 1000) (hpl : planOk fr pg = true) (hm : (many : Int) = 2 + 9 * fr + 8 * pg) (hmax : many ≤ 1000000)
    (x : AcV) (h6 : x.ps.length ≤ 6) {W1 : World} {e : Ending} (hW : WrsOut x.ps x.bs W e W1) : ∃ A1 c xs, e = .returned (.slice A1 x.ps.length c) ∧ Below W.heap.size W W1 ∧ (∀ k, k < x.ps.length → (acPw x k).1 = (xs k).1) ∧ ∀ z, Calls Tryz.prog 14 #[.pointer (some ⟨l, 0, none⟩), .int .i64 z, .slice A1 x.ps.length c] W1 fun e w' => ∃ r s' S', e = .returned (.int .i64 r) ∧ AppOut fr pg s S x.ps.length xs (acPw x) z r s' S' ∧ WhIs W0 d l many fr pg s' S' w' := by
  have hpr := (planOk_iff fr pg).1 hpl
  obtain ⟨A1, c, xs, rfl, h1, h2, hB, _⟩ := hW
  have hs := hS.sr
  have hz := hS.sz
  refine ⟨A1, c, xs, rfl, hB, fun k hk => (h2 k hk).1, fun z => ?_⟩
  refine (append_gives W1 l d many s fr pg S (h.lg.grow hB) (h.dk.grow hB) hO hl A1 x.ps.length c xs (acPw x) (by omega) h1 h2 hpl z hS.fs ⟨hz.1, by omega⟩ (by omega) hmax (by omega)).mono ?_
  rintro e w' ⟨r, s', S', rfl, h3, h4, h5, h6⟩
  exact ⟨r, s', S', rfl, h3, ⟨GrowBut.up (h.up.trans (hB.mono h.up.size)) h6 h.gd h.gl (Nat.le_trans h.up.size hB.size), h4, h5, h.gd, h.gl⟩⟩
theorem reset_ac {W0 W : World} {d l many : Nat} {fr pg : Int} {S : LgS} {G : Nat → List UInt8} (h : WhIs W0 d l many fr pg ⟨G, [], 0, false⟩ S W) {i : Nat} (hS : StP fr pg G S i) (hi : i ≤ 1000) (hpl : planOk fr pg = true) (hm : (many : Int) = 2 + 9 * fr + 8 * pg) (hmax : many ≤ 1000000) :
    Calls Tryz.prog 13 #[.pointer (some ⟨l, 0, none⟩)] W fun e w' => ∃ r G' S', e = .returned (.int .i64 r) ∧ StP fr pg G' S' (i + 1) ∧ WhIs W0 d l many fr pg ⟨G', [], 0, false⟩ S' w' := by
  have hpr := (planOk_iff fr pg).1 hpl
  have hs := hS.sr
  have he := hS.ep
  have hz := hS.sz
  refine (reset_gives W l d many _ fr pg S h.lg h.dk (ok_free G) (Nat.zero_le _) ⟨hz.1, by omega⟩ (by omega) hmax (by omega) (by omega)).mono ?_
  rintro e w' ⟨r, s', S', rfl, h3, h4, h5, h6⟩
  obtain ⟨G', rfl, hS2⟩ := rst_plain hS hi hpl 0 h3
  exact ⟨r, G', S', rfl, hS2, ⟨GrowBut.up h.up h6 h.gd h.gl h.up.size, h4, h5, h.gd, h.gl⟩⟩
set_option maxRecDepth 100000 in
set_option maxHeartbeats 16000000 in
theorem lawWH_walk (w : World) (fr pg : Int) (A : Option Addr) (c : Nat) (xs : List AcV) (h : InG w w.heap.size 5 A xs.length c (acsV xs)) (hx : ∀ x ∈ xs, AcIs w w.heap.size x) (s0 s1 : Int) :
    Calls Tryz.prog 3 #[.agg #[.int .i64 fr, .int .i64 pg], .slice A xs.length c, .agg #[.int .i64 s0, .int .i64 s1]] w fun e w' => e = .returned (.bool true) ∧ Below w.heap.size w w' := by
  obtain ⟨W0, hW0⟩ : ∃ W0, W0 = (w.alloc (.cells #[.int .i64 fr, .int .i64 pg] 23)).alloc (.cells #[.int .i64 s0, .int .i64 s1] 25) := ⟨_, rfl⟩
  have hB0 : Below w.heap.size w W0 := by rw [hW0]; exact ((Below.refl _ w).alloc (Nat.le_refl _) _).alloc (by simp) _
  have b0 : BlkIs W0 w.heap.size 23 #[.int .i64 fr, .int .i64 pg] := by rw [hW0]; exact (BlkIs.new w _ _).alloc _
  have b1 : BlkIs W0 (w.heap.size + 1) 25 #[.int .i64 s0, .int .i64 s1] := by
    have := BlkIs.new (w.alloc (.cells #[.int .i64 fr, .int .i64 pg] 23)) 25 #[.int .i64 s0, .int .i64 s1]
    rw [World.size_alloc] at this
    rw [hW0]
    exact this
  have h0 := h.below hB0
  have hl := Nat.le_trans h.le h.max
  have HS := small_gives W0 fr pg A c xs (h0.more hB0.size) hl 5
  generalize hSP : SmallP fr pg xs 5 = SP at *
  have HSP := Lib.hid hSP
  clear hSP
  go_enter Tryz.func3, Tryz.ntmps3
  go_wp2_with fail
  rw [← hW0]
  clear hW0
  have hE : ∀ {w1 w9 : World}, Below W0.heap.size W0 w1 → Below w1.heap.size w1 w9 → Below w.heap.size w w9 := fun {w1 w9} h1 h9 => hB0.trans ((h1.trans (h9.mono h1.size)).mono hB0.size)
  have HR : ∀ b : Bool, (b = true ↔ SP) → Calls Tryz.prog 7 #[.agg #[.int .i64 fr, .int .i64 pg], .slice A xs.length c, .int .i64 5] W0 fun e w' => e = .returned (.bool b) ∧ Below W0.heap.size W0 w' := fun b hb => by
    refine HS.mono ?_
    rintro e w' ⟨r, rfl, hB, hr⟩
    have : r = b := by cases r <;> cases b <;> simp_all
    subst this
    exact ⟨rfl, hB⟩
  clear HS
  by_cases hsp : SP
  · replace HR := HR true (by simp [hsp])
    have hsm := hsp
    rw [← HSP.out] at hsm
    obtain ⟨hxs, hpl, hfr6, hpg4, hx5⟩ := hsm
    have hpr := (planOk_iff fr pg).1 hpl
    obtain ⟨many, hmany⟩ : ∃ many : Nat, (many : Int) = 2 + 9 * fr + 8 * pg := ⟨(2 + 9 * fr + 8 * pg).toNat, by omega⟩
    have hmax : many ≤ 1000000 := by omega
    have hm1 : 1 ≤ many := by omega
    have hm4 : many ≤ 40000 := by omega
    have HSec : ∀ W, Calls Tryz.prog 10 #[.agg #[.int .i64 fr, .int .i64 pg]] W fun e w' => e = .returned (.int .i64 (many : Int)) ∧ Below W.heap.size W w' := fun W => by
      rw [hmany]
      exact refSectors_gives fr pg W hpr.1 hpr.2
    have HO : ∀ W d, DkIs W d many (fun _ => zer64) [] 0 false → Calls Tryz.prog 11 #[.pointer (some ⟨d, 0, none⟩), .agg #[.int .i64 fr, .int .i64 pg]] W fun e w' => ∃ l, e = .returned (.tuple #[.pointer (some ⟨l, 0, none⟩), .int .i64 0]) ∧ W.heap.size ≤ l ∧ DkS w' d many ⟨laid (fun _ => zer64) (wrL 1 (hEnc 1 1 0 0) 1), [], 0, false⟩ ∧ LogIs w' l d fr pg ⟨1, 1, 0, []⟩ ∧ W.grownBy w' (some d) := fun W d hD => by
      refine (open_newG W fr pg d many 0 hD hpl hmany hmax (by decide) (by decide)).mono ?_
      rintro e w' ⟨l, rfl, hll, hD2, hb, hg⟩
      have hdl := hD.lt
      exact ⟨l, rfl, hll, hD2, ⟨by omega, none, 0, [], hb, FrsIs.mt _ _, rfl⟩, hg⟩
    have HST := StP.begun (fr := fr) (pg := pg) (by omega) (by omega)
    generalize laid (fun _ => zer64) (wrL 1 (hEnc 1 1 0 0) 1) = G0 at *
    have HPL := Lib.hid hpl
    have HMN := Lib.hid hmany
    have HXS := Lib.hid hxs
    clear hsp hpl hmany hxs
    by_cases n0 : xs.length = 0
    · go_wp2_with (first
          | (refine wp_loadW rfl 23 (.tmp 3) rfl w.heap.size rfl rowPlan b0 rfl ?_)
          | (go_at_call 7; refine HR.mono ?_; rintro e w1 ⟨rfl, hB1⟩; have q0 : w1.cell? ⟨w.heap.size + 1, 0, none⟩ = some (.int .i64 s0) := (by rw [(b1.below hB1 b1.lt).cell]; rfl); have q1 : w1.cell? ⟨w.heap.size + 1, 1, none⟩ = some (.int .i64 s1) := (by rw [(b1.below hB1 b1.lt).cell]; rfl))
          | (go_at_call 8; refine (works6_gives _).mono ?_; rintro e w9 ⟨rfl, hB9⟩))
      go_ret
      exact ⟨rfl, hE hB1 hB9⟩
    · by_cases a0 : s0 < 0
      · go_wp2_with (first
            | (refine wp_loadW rfl 23 (.tmp 3) rfl w.heap.size rfl rowPlan b0 rfl ?_)
            | (go_at_call 7; refine HR.mono ?_; rintro e w1 ⟨rfl, hB1⟩; have q0 : w1.cell? ⟨w.heap.size + 1, 0, none⟩ = some (.int .i64 s0) := (by rw [(b1.below hB1 b1.lt).cell]; rfl); have q1 : w1.cell? ⟨w.heap.size + 1, 1, none⟩ = some (.int .i64 s1) := (by rw [(b1.below hB1 b1.lt).cell]; rfl))
            | (go_at_call 8; refine (works6_gives _).mono ?_; rintro e w9 ⟨rfl, hB9⟩))
        go_ret
        exact ⟨rfl, hE hB1 hB9⟩
      · by_cases a1 : 200 < s0
        · go_wp2_with (first
              | (refine wp_loadW rfl 23 (.tmp 3) rfl w.heap.size rfl rowPlan b0 rfl ?_)
              | (go_at_call 7; refine HR.mono ?_; rintro e w1 ⟨rfl, hB1⟩; have q0 : w1.cell? ⟨w.heap.size + 1, 0, none⟩ = some (.int .i64 s0) := (by rw [(b1.below hB1 b1.lt).cell]; rfl); have q1 : w1.cell? ⟨w.heap.size + 1, 1, none⟩ = some (.int .i64 s1) := (by rw [(b1.below hB1 b1.lt).cell]; rfl))
              | (go_at_call 8; refine (works6_gives _).mono ?_; rintro e w9 ⟨rfl, hB9⟩))
          go_ret
          exact ⟨rfl, hE hB1 hB9⟩
        · by_cases a2 : s1 < 0
          · go_wp2_with (first
                | (refine wp_loadW rfl 23 (.tmp 3) rfl w.heap.size rfl rowPlan b0 rfl ?_)
                | (go_at_call 7; refine HR.mono ?_; rintro e w1 ⟨rfl, hB1⟩; have q0 : w1.cell? ⟨w.heap.size + 1, 0, none⟩ = some (.int .i64 s0) := (by rw [(b1.below hB1 b1.lt).cell]; rfl); have q1 : w1.cell? ⟨w.heap.size + 1, 1, none⟩ = some (.int .i64 s1) := (by rw [(b1.below hB1 b1.lt).cell]; rfl))
                | (go_at_call 8; refine (works6_gives _).mono ?_; rintro e w9 ⟨rfl, hB9⟩))
            go_ret
            exact ⟨rfl, hE hB1 hB9⟩
          · by_cases a3 : 10 < s1
            · go_wp2_with (first
                  | (refine wp_loadW rfl 23 (.tmp 3) rfl w.heap.size rfl rowPlan b0 rfl ?_)
                  | (go_at_call 7; refine HR.mono ?_; rintro e w1 ⟨rfl, hB1⟩; have q0 : w1.cell? ⟨w.heap.size + 1, 0, none⟩ = some (.int .i64 s0) := (by rw [(b1.below hB1 b1.lt).cell]; rfl); have q1 : w1.cell? ⟨w.heap.size + 1, 1, none⟩ = some (.int .i64 s1) := (by rw [(b1.below hB1 b1.lt).cell]; rfl))
                  | (go_at_call 8; refine (works6_gives _).mono ?_; rintro e w9 ⟨rfl, hB9⟩))
              go_ret
              exact ⟨rfl, hE hB1 hB9⟩
            · have hn0 : ((xs.length : Int) == 0) = false := by
                rw [beq_eq_false_iff_ne]
                omega
              obtain ⟨last, hlast⟩ : ∃ last, last + 1 = xs.length := ⟨xs.length - 1, by omega⟩
              have hwl : IntKind.i64.wrap ((xs.length : Int) - 1) = (last : Int) := by
                rw [wrap_i64_fr _ (by omega) (by omega)]
                omega
              have HLA := Lib.hid hlast
              clear hlast
              go_wp2_with (first
                | (refine wp_loadW rfl 23 (.tmp 3) rfl w.heap.size rfl rowPlan (by first | exact b0 | exact b0.below hB1 b0.lt | exact b0.below hB2 b0.lt | exact b0.below hB3 b0.lt) rfl ?_)
                | (go_at_call 7; refine HR.mono ?_; rintro e w1 ⟨rfl, hB1⟩; have q0 : w1.cell? ⟨w.heap.size + 1, 0, none⟩ = some (.int .i64 s0) := (by rw [(b1.below hB1 b1.lt).cell]; rfl); have q1 : w1.cell? ⟨w.heap.size + 1, 1, none⟩ = some (.int .i64 s1) := (by rw [(b1.below hB1 b1.lt).cell]; rfl))
                | (go_at_call 10; refine (HSec _).mono ?_; rintro e w2 ⟨rfl, hB12⟩; have hB2 := hB1.trans (hB12.mono hB1.size))
                | (go_at_call 9; refine (new_gives _ many hm1 hm4).mono ?_; rintro e w3 ⟨d, rfl, hd2, hD3, hB23⟩; have hB3 := hB2.trans (hB23.mono hB2.size))
                | (go_at_call 11; refine (HO _ d hD3).mono ?_; rintro e w4 ⟨l, rfl, hl3, hD4, hL4, hg34⟩; have hgd := Nat.le_trans hB2.size hd2; have hB4 := hB3.trans (grown_below hg34 hB3.size (fun r e => by injection e with e; rw [← e]; exact hgd)))
                | (go_at_call 12; refine (num6_gives _ _).mono ?_; rintro e w' ⟨rfl, rfl⟩))
              go_loopw [12] (fun i wr => WhRel W0 d l many fr pg i last wr) (fun i _ => last - (intOf i).toNat)
              case atStart => exact ⟨0, by omega, rfl, G0, _, HST, hB4, hD4, hL4, hgd, by have := hB3.size; omega⟩
              case round =>
                clear hB1 hB12 hB2 hB23 hB3 hD3 hd2 hl3 hD4 hL4 hg34 hB4 HR HSec HO HST q0 q1 hn0 hwl w1 w2 w3 w4
                obtain ⟨k, hk, rfl, G, S, hS, hW⟩ := hrel
                by_cases hlt : k < last
                · have hLA := HLA.out
                  have hkx : k < xs.length := by omega
                  obtain ⟨g, o, rfl, hg, _⟩ := h0.lies (by omega)
                  have hr := h0.elem k hkx
                  rw [acsV_elem xs k hkx] at hr
                  have hAc := hx _ (List.getElem_mem hkx)
                  have hx6 := (HXS.out _ (List.getElem_mem hkx)).1
                  generalize xs[k] = x at *
                  have hwk : IntKind.i64.wrap ((k : Int) + 1) = (k : Int) + 1 := wrap_i64_fr _ (by omega) (by omega)
                  have hRg : ∀ W, Below W0.heap.size W0 W → W.rangeAt g (o + k * 5) (acC x) := fun W hW j v hj => (hW.cell (p := ⟨g, o + k * 5 + j, none⟩) (Nat.lt_of_lt_of_le hg hB0.size)).trans (hr j v hj)
                  have d0 : wr.cell? ⟨g, o + k * 5, none⟩ = some (.int .i64 x.what) := hRg wr hW.up 0 _ rfl
                  have d1 : ∀ W, Below W0.heap.size W0 W → W.cell? ⟨g, o + k * 5 + 1, none⟩ = some (.int .i64 x.size) := fun W hW => hRg W hW 1 _ rfl
                  have HWr : ∀ W, Below W0.heap.size W0 W → Calls Tryz.prog 15 #[.agg #[.int .i64 x.what, .int .i64 x.size, .slice x.P x.ps.length x.pc, .slice x.B x.bs.length x.bc, .slice x.K x.ks.length x.kc]] W (WrsOut x.ps x.bs W) := fun W hW => by
                    have hBW := hB0.trans (hW.mono hB0.size)
                    exact writes_gives W x.what x.size x.P x.pc x.ps x.B x.bc x.bs x.K x.ks.length x.kc ((hAc.pages.below hBW).more hBW.size) ((hAc.bytes.below hBW).more hBW.size) (by omega)
                  have HLA2 := Lib.hid hLA
                  clear hLA HLA hr hAc
                  go_wp2_with fail
                  · refine (reset_ac hW hS (by omega) HPL.out HMN.out hmax).mono ?_
                    rintro e w6 ⟨r, G', S', rfl, hS6, hW6⟩
                    clear HWr hRg d0 d1
                    go_wp2
                    exact ⟨⟨k + 1, by omega, by simp, G', S', hS6, hW6⟩, by simp [intOf]; omega⟩
                  · have hWd := hW.grow (Below.refl _ wr).drew
                    have hSd := hWd.up
                    refine RegF.start (fun W => Below W0.heap.size W0 W) 99 (by kernel_rfl) ?_
                    refine RegF.take0 0 (.pointer (some ⟨l, 0, none⟩)) rfl (by kernel_rfl) (by kernel_rfl) (by kernel_rfl) rfl (fun _ _ _ h => h) hSd (RegF.yld rfl (fun W hW => by go_simp)) ?_
                    simp only [List.getElem_toArray, List.getElem_cons_zero, Act.put, List.setIfInBounds_toArray, List.set_cons_zero, List.set_cons_succ]
                    refine RegF.take0 1 (.slice (some ⟨g, o, none⟩) xs.length c) rfl (by kernel_rfl) (by kernel_rfl) (by kernel_rfl) rfl (fun _ _ _ h => h) hSd (RegF.yld rfl (fun W hW => by go_simp)) ?_
                    simp only [List.getElem_toArray, List.getElem_cons_succ, List.getElem_cons_zero, Act.put, List.setIfInBounds_toArray, List.set_cons_zero, List.set_cons_succ]
                    refine RegF.take0 2 (.int .i64 (k : Int)) rfl (by kernel_rfl) (by kernel_rfl) (by kernel_rfl) rfl (fun _ _ _ h => h) hSd (RegF.yld rfl (fun W hW => by go_simp)) ?_
                    simp only [List.getElem_toArray, List.getElem_cons_succ, List.getElem_cons_zero, Act.put, List.setIfInBounds_toArray, List.set_cons_zero, List.set_cons_succ]
                    refine RegF.take0 3 (.pointer (some ⟨g, o + k * 5, none⟩)) rfl (by kernel_rfl) (by kernel_rfl) (by kernel_rfl) rfl (fun _ _ _ h => h) hSd (RegF.yld rfl (fun W hW => by go_simp)) ?_
                    simp only [List.getElem_toArray, List.getElem_cons_succ, List.getElem_cons_zero, Act.put, List.setIfInBounds_toArray, List.set_cons_zero, List.set_cons_succ]
                    refine RegF.take0 4 (.pointer (some ⟨g, o + k * 5 + 1, none⟩)) rfl (by kernel_rfl) (by kernel_rfl) (by kernel_rfl) rfl (fun _ _ _ h => h) hSd (RegF.yld rfl (fun W hW => by go_simp)) ?_
                    simp only [List.getElem_toArray, List.getElem_cons_succ, List.getElem_cons_zero, Act.put, List.setIfInBounds_toArray, List.set_cons_zero, List.set_cons_succ]
                    refine RegF.take0 5 (.int .i64 x.size) rfl (by kernel_rfl) (by kernel_rfl) (by kernel_rfl) rfl (fun _ _ _ h => h) hSd (RegF.yld rfl (fun W hW => by have q := d1 W hW; go_simp)) ?_
                    simp only [List.getElem_toArray, List.getElem_cons_succ, List.getElem_cons_zero, Act.put, List.setIfInBounds_toArray, List.set_cons_zero, List.set_cons_succ]
                    refine RegF.take0 6 (.slice (some ⟨g, o, none⟩) xs.length c) rfl (by kernel_rfl) (by kernel_rfl) (by kernel_rfl) rfl (fun _ _ _ h => h) hSd (RegF.yld rfl (fun W hW => by go_simp)) ?_
                    simp only [List.getElem_toArray, List.getElem_cons_succ, List.getElem_cons_zero, Act.put, List.setIfInBounds_toArray, List.set_cons_zero, List.set_cons_succ]
                    refine RegF.take0 7 (.int .i64 (k : Int)) rfl (by kernel_rfl) (by kernel_rfl) (by kernel_rfl) rfl (fun _ _ _ h => h) hSd (RegF.yld rfl (fun W hW => by go_simp)) ?_
                    simp only [List.getElem_toArray, List.getElem_cons_succ, List.getElem_cons_zero, Act.put, List.setIfInBounds_toArray, List.set_cons_zero, List.set_cons_succ]
                    refine RegF.take0 8 (.pointer (some ⟨g, o + k * 5, none⟩)) rfl (by kernel_rfl) (by kernel_rfl) (by kernel_rfl) rfl (fun _ _ _ h => h) hSd (RegF.yld rfl (fun W hW => by go_simp)) ?_
                    simp only [List.getElem_toArray, List.getElem_cons_succ, List.getElem_cons_zero, Act.put, List.setIfInBounds_toArray, List.set_cons_zero, List.set_cons_succ]
                    refine RegF.take0 9 (.agg #[.int .i64 x.what, .int .i64 x.size, .slice x.P x.ps.length x.pc, .slice x.B x.bs.length x.bc, .slice x.K x.ks.length x.kc]) rfl (by kernel_rfl) (by kernel_rfl) (by kernel_rfl) rfl (fun _ _ _ h => h) hSd (RegF.yld rfl (fun W hW => by exact x_loadM rowAc (hRg W hW) rfl rfl rfl)) ?_
                    simp only [List.getElem_toArray, List.getElem_cons_succ, List.getElem_cons_zero, Act.put, List.setIfInBounds_toArray, List.set_cons_zero, List.set_cons_succ]
                    refine RegF.one 10 (by kernel_rfl) ?_
                    refine RegF.opC 15 #[.tmp 99] #[41] rfl rfl rfl (enters_of Tryz.func15 (by kernel_rfl) rfl) #[.agg #[.int .i64 x.what, .int .i64 x.size, .slice x.P x.ps.length x.pc, .slice x.B x.bs.length x.bc, .slice x.K x.ks.length x.kc]] (by simp only [List.map_toArray, List.map_cons, List.map_nil]; rfl) ((HWr _ hSd).mono ?_)
                    intro e w5 hWo
                    obtain ⟨A1, c1, ys, rfl, hB5, hys, HAp⟩ := append_ac hWd (ok_free G) (Nat.zero_le _) hS (by omega) HPL.out HMN.out hmax x hx6 hWo
                    have hS5 := (hWd.grow hB5).up
                    refine ⟨_, rfl, fun _ => hS5, ?_⟩
                    simp only [List.getElem_toArray, List.getElem_cons_succ, List.getElem_cons_zero, Act.put, List.setIfInBounds_toArray, List.set_cons_zero, List.set_cons_succ]
                    refine RegF.one 11 (by kernel_rfl) ?_
                    refine RegF.opC 14 #[.tmp 90, .tmp 95, .tmp 100] #[33, 3, 44] rfl rfl rfl (enters_of Tryz.func14 (by kernel_rfl) rfl) #[.pointer (some ⟨l, 0, none⟩), .int .i64 x.size, .slice A1 x.ps.length c1] (by simp only [List.map_toArray, List.map_cons, List.map_nil]; rfl) ((HAp x.size).mono ?_)
                    rintro e w6 ⟨r, s', S', rfl, hOut, hW6⟩
                    obtain ⟨G', rfl, hS6, _⟩ := app_plain hS (by omega) HPL.out hys (acPw_len x) 0 hOut
                    refine ⟨_, rfl, fun _ => hW6.up, RegF.done (by kernel_rfl) ?_⟩
                    simp only [List.getElem_toArray, List.getElem_cons_succ, List.getElem_cons_zero, Act.put, List.setIfInBounds_toArray, List.set_cons_zero, List.set_cons_succ]
                    clear HWr HAp hOut hRg d0 d1 hWd hSd hWo hys
                    go_wp2
                    exact ⟨⟨k + 1, by omega, by simp, G', S', hS6, hW6⟩, by simp [intOf]; omega⟩
                · have hkl : k = last := by omega
                  subst hkl
                  have hkx : k < xs.length := by have := HLA.out; omega
                  obtain ⟨g, o, rfl, hg, _⟩ := h0.lies (by omega)
                  have hr := h0.elem k hkx
                  rw [acsV_elem xs k hkx] at hr
                  have hAc := hx _ (List.getElem_mem hkx)
                  have hx6 := (HXS.out _ (List.getElem_mem hkx)).1
                  have hx80 := (HXS.out _ (List.getElem_mem hkx)).2
                  generalize xs[k] = x at *
                  have hRg : ∀ W, Below W0.heap.size W0 W → W.rangeAt g (o + k * 5) (acC x) := fun W hW j v hj => (hW.cell (p := ⟨g, o + k * 5 + j, none⟩) (Nat.lt_of_lt_of_le hg hB0.size)).trans (hr j v hj)
                  have d1 : ∀ W, Below W0.heap.size W0 W → W.cell? ⟨g, o + k * 5 + 1, none⟩ = some (.int .i64 x.size) := fun W hW => hRg W hW 1 _ rfl
                  have d4 : ∀ W, Below W0.heap.size W0 W → W.cell? ⟨g, o + k * 5 + 4, none⟩ = some (.slice x.K x.ks.length x.kc) := fun W hW => hRg W hW 4 _ rfl
                  have HWr : ∀ W, Below W0.heap.size W0 W → Calls Tryz.prog 15 #[.agg #[.int .i64 x.what, .int .i64 x.size, .slice x.P x.ps.length x.pc, .slice x.B x.bs.length x.bc, .slice x.K x.ks.length x.kc]] W (WrsOut x.ps x.bs W) := fun W hW => by
                    have hBW := hB0.trans (hW.mono hB0.size)
                    exact writes_gives W x.what x.size x.P x.pc x.ps x.B x.bc x.bs x.K x.ks.length x.kc ((hAc.pages.below hBW).more hBW.size) ((hAc.bytes.below hBW).more hBW.size) (by omega)
                  have hKp : ∀ W, Below W0.heap.size W0 W → InG W W.heap.size 1 x.K x.ks.length x.kc (x.ks.map Value.bool) := fun W hW => by
                    have hBW := hB0.trans (hW.mono hB0.size)
                    exact (hAc.keep.below hBW).more hBW.size
                  obtain ⟨P, hP⟩ : ∃ P : Nat, (P : Int) = pg := ⟨pg.toNat, by omega⟩
                  have HT : ∀ (W : World) (l d i : Nat) (G : Nat → List UInt8) (S : LgS), StP fr pg G S i → LogIs W l d fr pg S → Calls Tryz.prog 16 #[.pointer (some ⟨l, 0, none⟩), .int .i64 pg] W fun e w' => e = .returned (.string (str (toldL S P))) ∧ Below W.heap.size W w' := fun W l d i G S hS hL => by
                    have hf := hS.fs
                    have h := told_gives W l d fr pg S hL (by omega) hS.y P (by omega)
                    rw [hP] at h
                    exact h
                  have HOL : ∀ (W : World) (d : Nat) (s : DS) (S : LgS) (hz : Nat), DkS W d many s → s.stopped = false → s.xs = [] → (S.fs.length : Int) ≤ fr → LogOn s.g S hz → Calls Tryz.prog 11 #[.pointer (some ⟨d, 0, none⟩), .agg #[.int .i64 fr, .int .i64 pg]] W fun e w' => ∃ l, e = .returned (.tuple #[.pointer (some ⟨l, 0, none⟩), .int .i64 0]) ∧ W.heap.size ≤ l ∧ DkS w' d many s ∧ LogIs w' l d fr pg S ∧ Below W.heap.size W w' := fun W d s S hz hD hst hxs hfl hO => by
                    have hO' : LogOn (laid s.g s.xs) S hz := by rw [hxs]; exact hO
                    exact open_old W fr pg d many s S hz hD hst (by rw [hxs]; exact Nat.zero_le _) HPL.out HMN.out hmax hfl hO'
                  have HP := Lib.hid hP
                  have hk5 : k ≤ 1000 := by have := HLA.out; omega
                  clear hP hr hAc h0 h hx hlt hk HXS
                  have c0 : ∀ W, Below W0.heap.size W0 W → W.cell? ⟨w.heap.size, 1, none⟩ = some (.int .i64 pg) := fun W hW => by rw [(b0.below hW b0.lt).cell]; rfl
                  have c0r := c0 wr hW.up
                  obtain ⟨AH, hAH⟩ : ∃ AH, AH = str (toldL S P) := ⟨_, rfl⟩
                  have HAH := Lib.hid hAH
                  have HT0 := HT wr l d k G S hS hW.lg
                  rw [← hAH] at HT0
                  clear hAH
                  go_wp2_with (first
                    | (go_at_call 16; refine HT0.mono ?_; rintro e w5 ⟨rfl, hB5⟩))
                  have hW5 := hW.grow hB5
                  have hWd := hW5.grow (Below.refl _ w5).drew
                  have hSd := hWd.up
                  obtain ⟨hz, hli⟩ := id hS.li
                  have hPl : ∀ W, Below W0.heap.size W0 W → W.rangeAt w.heap.size 0 [.int .i64 fr, .int .i64 pg] := fun W hW j v hj => by
                    rw [Nat.zero_add, (b0.below hW b0.lt).cell]
                    simpa using hj
                  clear HT0 hB5 hW5
                  refine RegF.start (fun W => Below W0.heap.size W0 W) 99 (by kernel_rfl) ?_
                  generalize w5.drew = wd at *
                  refine RegF.take0 0 (.pointer (some ⟨d, 0, none⟩)) rfl (by kernel_rfl) (by kernel_rfl) (by kernel_rfl) rfl (fun _ _ _ h => h) hSd (RegF.yld rfl (fun W hW => by go_simp)) ?_
                  simp only [List.getElem_toArray, List.getElem_cons_zero, Act.put, List.setIfInBounds_toArray, List.set_cons_zero, List.set_cons_succ]
                  refine RegF.take0 2 (.agg #[.int .i64 fr, .int .i64 pg]) rfl (by kernel_rfl) (by kernel_rfl) (by kernel_rfl) rfl (fun _ _ _ h => h) hSd (RegF.yld rfl (fun W hW => by exact x_loadM rowPlan (hPl W hW) rfl rfl rfl)) ?_
                  simp only [List.getElem_toArray, List.getElem_cons_succ, List.getElem_cons_zero, Act.put, List.setIfInBounds_toArray, List.set_cons_zero, List.set_cons_succ]
                  refine RegF.one 1 (by kernel_rfl) ?_
                  refine RegF.opC 17 #[.tmp 107] #[28] rfl rfl rfl (enters_of Tryz.func17 (by kernel_rfl) rfl) #[.pointer (some ⟨d, 0, none⟩)] (by simp only [List.map_toArray, List.map_cons, List.map_nil]; rfl) ((copy_gives _ d many G [] 0 false hWd.dk (Nat.zero_le _)).mono ?_)
                  rintro e w6 ⟨q, rfl, hq, hDq, hB6⟩
                  have hW6 := hWd.grow hB6
                  refine ⟨_, rfl, fun _ => hW6.up, ?_⟩
                  simp only [List.getElem_toArray, List.getElem_cons_succ, List.getElem_cons_zero, Act.put, List.setIfInBounds_toArray, List.set_cons_zero, List.set_cons_succ]
                  refine RegF.one 3 (by kernel_rfl) ?_
                  refine RegF.opC 11 #[.tmp 108, .tmp 109] #[28, 23] rfl rfl rfl (enters_of Tryz.func11 (by kernel_rfl) rfl) #[.pointer (some ⟨q, 0, none⟩), .agg #[.int .i64 fr, .int .i64 pg]] (by simp only [List.map_toArray, List.map_cons, List.map_nil]; rfl) ((HOL w6 q ⟨G, [], 0, false⟩ S hz hDq rfl rfl hS.fs hli.on).mono ?_)
                  rintro e w7 ⟨l2, rfl, hl2, hDq7, hLq7, hB7⟩
                  have hW7 := hW6.grow hB7
                  have hC7 : WhIs wd q l2 many fr pg ⟨G, [], 0, false⟩ S w7 := ⟨hB6.trans (hB7.mono hB6.size), hDq7, hLq7, hq, Nat.le_trans hB6.size hl2⟩
                  have hS7 := hW7.up
                  refine ⟨_, rfl, fun _ => hS7, ?_⟩
                  simp only [List.getElem_toArray, List.getElem_cons_succ, List.getElem_cons_zero, Act.put, List.setIfInBounds_toArray, List.set_cons_zero, List.set_cons_succ]
                  refine RegF.take0 4 (.tuple #[.pointer (some ⟨l2, 0, none⟩), .int .i64 0]) rfl (by kernel_rfl) (by kernel_rfl) (by kernel_rfl) rfl (fun _ _ _ h => h) hS7 (RegF.yld rfl (fun W hW => by go_simp)) ?_
                  simp only [List.getElem_toArray, List.getElem_cons_succ, List.getElem_cons_zero, Act.put, List.setIfInBounds_toArray, List.set_cons_zero, List.set_cons_succ]
                  refine RegF.take0 5 (.pointer (some ⟨l2, 0, none⟩)) rfl (by kernel_rfl) (by kernel_rfl) (by kernel_rfl) rfl (fun _ _ _ h => h) hS7 (RegF.yld rfl (fun W hW => by go_simp)) ?_
                  simp only [List.getElem_toArray, List.getElem_cons_succ, List.getElem_cons_zero, Act.put, List.setIfInBounds_toArray, List.set_cons_zero, List.set_cons_succ]
                  refine RegF.take0 6 (.int .i64 0) rfl (by kernel_rfl) (by kernel_rfl) (by kernel_rfl) rfl (fun _ _ _ h => h) hS7 (RegF.yld rfl (fun W hW => by go_simp)) ?_
                  simp only [List.getElem_toArray, List.getElem_cons_succ, List.getElem_cons_zero, Act.put, List.setIfInBounds_toArray, List.set_cons_zero, List.set_cons_succ]
                  refine RegF.one 7 (by kernel_rfl) (RegF.opV (w' := w7) (.pointer (some ⟨l2, 0, none⟩)) rfl rfl (by go_simp) ⟨fun _ => hS7, ?_⟩)
                  simp only [List.getElem_toArray, List.getElem_cons_succ, List.getElem_cons_zero, Act.put, List.setIfInBounds_toArray, List.set_cons_zero, List.set_cons_succ]
                  refine RegF.one 8 (by kernel_rfl) (RegF.opV (w' := w7) (.int .i64 0) rfl rfl (by go_simp) ⟨fun _ => hS7, RegF.done (by kernel_rfl) ?_⟩)
                  simp only [List.getElem_toArray, List.getElem_cons_succ, List.getElem_cons_zero, Act.put, List.setIfInBounds_toArray, List.set_cons_zero, List.set_cons_succ]
                  have HT7 := HT w7 l2 q k G S hS hC7.lg
                  rw [← HAH.out] at HT7
                  have c07 := c0 w7 hS7
                  clear hDq hB6 hW6 hDq7 hLq7 hB7 hW7 c0r hSd
                  go_wp2_with (first
                    | (go_at_call 12; refine (num6_gives _ _).mono ?_; rintro e w' ⟨rfl, rfl⟩)
                    | (go_at_call 16; refine HT7.mono ?_; rintro e w8 ⟨rfl, hB8⟩))
                  have hC8 := hC7.grow hB8
                  have hCd := hC8.grow (Below.refl _ w8).drew
                  have hSd := (hWd.grow hCd.up).up
                  clear hC7 hC8 hB8 hS7 HT7 c07
                  refine RegF.start (fun W => Below W0.heap.size W0 W) 99 (by kernel_rfl) ?_
                  generalize w8.drew = w8 at *
                  refine RegF.take0 0 (.pointer (some ⟨l2, 0, none⟩)) rfl (by kernel_rfl) (by kernel_rfl) (by kernel_rfl) rfl (fun _ _ _ h => h) hSd (RegF.yld rfl (fun W hW => by go_simp)) ?_
                  simp only [List.getElem_toArray, List.getElem_cons_zero, Act.put, List.setIfInBounds_toArray, List.set_cons_zero, List.set_cons_succ]
                  refine RegF.take0 1 (.slice (some ⟨g, o, none⟩) xs.length c) rfl (by kernel_rfl) (by kernel_rfl) (by kernel_rfl) rfl (fun _ _ _ h => h) hSd (RegF.yld rfl (fun W hW => by go_simp)) ?_
                  simp only [List.getElem_toArray, List.getElem_cons_succ, List.getElem_cons_zero, Act.put, List.setIfInBounds_toArray, List.set_cons_zero, List.set_cons_succ]
                  refine RegF.take0 2 (.int .i64 (k : Int)) rfl (by kernel_rfl) (by kernel_rfl) (by kernel_rfl) rfl (fun _ _ _ h => h) hSd (RegF.yld rfl (fun W hW => by go_simp)) ?_
                  simp only [List.getElem_toArray, List.getElem_cons_succ, List.getElem_cons_zero, Act.put, List.setIfInBounds_toArray, List.set_cons_zero, List.set_cons_succ]
                  refine RegF.take0 3 (.pointer (some ⟨g, o + k * 5, none⟩)) rfl (by kernel_rfl) (by kernel_rfl) (by kernel_rfl) rfl (fun _ _ _ h => h) hSd (RegF.yld rfl (fun W hW => by go_simp)) ?_
                  simp only [List.getElem_toArray, List.getElem_cons_succ, List.getElem_cons_zero, Act.put, List.setIfInBounds_toArray, List.set_cons_zero, List.set_cons_succ]
                  refine RegF.take0 4 (.pointer (some ⟨g, o + k * 5 + 1, none⟩)) rfl (by kernel_rfl) (by kernel_rfl) (by kernel_rfl) rfl (fun _ _ _ h => h) hSd (RegF.yld rfl (fun W hW => by go_simp)) ?_
                  simp only [List.getElem_toArray, List.getElem_cons_succ, List.getElem_cons_zero, Act.put, List.setIfInBounds_toArray, List.set_cons_zero, List.set_cons_succ]
                  refine RegF.take0 5 (.int .i64 x.size) rfl (by kernel_rfl) (by kernel_rfl) (by kernel_rfl) rfl (fun _ _ _ h => h) hSd (RegF.yld rfl (fun W hW => by have q := d1 W hW; go_simp)) ?_
                  simp only [List.getElem_toArray, List.getElem_cons_succ, List.getElem_cons_zero, Act.put, List.setIfInBounds_toArray, List.set_cons_zero, List.set_cons_succ]
                  refine RegF.take0 6 (.slice (some ⟨g, o, none⟩) xs.length c) rfl (by kernel_rfl) (by kernel_rfl) (by kernel_rfl) rfl (fun _ _ _ h => h) hSd (RegF.yld rfl (fun W hW => by go_simp)) ?_
                  simp only [List.getElem_toArray, List.getElem_cons_succ, List.getElem_cons_zero, Act.put, List.setIfInBounds_toArray, List.set_cons_zero, List.set_cons_succ]
                  refine RegF.take0 7 (.int .i64 (k : Int)) rfl (by kernel_rfl) (by kernel_rfl) (by kernel_rfl) rfl (fun _ _ _ h => h) hSd (RegF.yld rfl (fun W hW => by go_simp)) ?_
                  simp only [List.getElem_toArray, List.getElem_cons_succ, List.getElem_cons_zero, Act.put, List.setIfInBounds_toArray, List.set_cons_zero, List.set_cons_succ]
                  refine RegF.take0 8 (.pointer (some ⟨g, o + k * 5, none⟩)) rfl (by kernel_rfl) (by kernel_rfl) (by kernel_rfl) rfl (fun _ _ _ h => h) hSd (RegF.yld rfl (fun W hW => by go_simp)) ?_
                  simp only [List.getElem_toArray, List.getElem_cons_succ, List.getElem_cons_zero, Act.put, List.setIfInBounds_toArray, List.set_cons_zero, List.set_cons_succ]
                  refine RegF.take0 9 (.agg #[.int .i64 x.what, .int .i64 x.size, .slice x.P x.ps.length x.pc, .slice x.B x.bs.length x.bc, .slice x.K x.ks.length x.kc]) rfl (by kernel_rfl) (by kernel_rfl) (by kernel_rfl) rfl (fun _ _ _ h => h) hSd (RegF.yld rfl (fun W hW => by exact x_loadM rowAc (hRg W hW) rfl rfl rfl)) ?_
                  simp only [List.getElem_toArray, List.getElem_cons_succ, List.getElem_cons_zero, Act.put, List.setIfInBounds_toArray, List.set_cons_zero, List.set_cons_succ]
                  refine RegF.one 10 (by kernel_rfl) ?_
                  refine RegF.opC 15 #[.tmp 134] #[41] rfl rfl rfl (enters_of Tryz.func15 (by kernel_rfl) rfl) #[.agg #[.int .i64 x.what, .int .i64 x.size, .slice x.P x.ps.length x.pc, .slice x.B x.bs.length x.bc, .slice x.K x.ks.length x.kc]] (by simp only [List.map_toArray, List.map_cons, List.map_nil]; rfl) ((HWr _ hSd).mono ?_)
                  intro e w9 hWo
                  obtain ⟨A1, c1, ys, rfl, hB9, hys, HAp⟩ := append_ac hCd (ok_free G) (Nat.zero_le _) hS (by omega) HPL.out HMN.out hmax x hx6 hWo
                  have hS9 := (hWd.grow (hCd.grow hB9).up).up
                  refine ⟨_, rfl, fun _ => hS9, ?_⟩
                  simp only [List.getElem_toArray, List.getElem_cons_succ, List.getElem_cons_zero, Act.put, List.setIfInBounds_toArray, List.set_cons_zero, List.set_cons_succ]
                  refine RegF.one 11 (by kernel_rfl) ?_
                  refine RegF.opC 14 #[.tmp 125, .tmp 130, .tmp 135] #[33, 3, 44] rfl rfl rfl (enters_of Tryz.func14 (by kernel_rfl) rfl) #[.pointer (some ⟨l2, 0, none⟩), .int .i64 x.size, .slice A1 x.ps.length c1] (by simp only [List.map_toArray, List.map_cons, List.map_nil]; rfl) ((HAp x.size).mono ?_)
                  rintro e w10 ⟨r, s', S', rfl, hOut, hC10⟩
                  obtain ⟨G', rfl, hS', hcase⟩ := app_plain hS (by omega) HPL.out hys (acPw_len x) 0 hOut
                  have hW10 := hWd.grow hC10.up
                  have hS10 := hW10.up
                  refine ⟨_, rfl, fun _ => hS10, ?_⟩
                  simp only [List.getElem_toArray, List.getElem_cons_succ, List.getElem_cons_zero, Act.put, List.setIfInBounds_toArray, List.set_cons_zero, List.set_cons_succ]
                  refine RegF.one 12 (by kernel_rfl) ?_
                  refine RegF.opC 12 #[.tmp 136] #[29] rfl rfl rfl (enters_of Tryz.func12 (by kernel_rfl) rfl) #[.int .i64 r] (by simp only [List.map_toArray, List.map_cons, List.map_nil]; rfl) ((num6_gives r w10).mono ?_)
                  rintro e w' ⟨rfl, rfl⟩
                  refine ⟨_, rfl, fun _ => hS10, ?_⟩
                  simp only [List.getElem_toArray, List.getElem_cons_succ, List.getElem_cons_zero, Act.put, List.setIfInBounds_toArray, List.set_cons_zero, List.set_cons_succ]
                  obtain ⟨M, hM⟩ : ∃ M : Prop, M = MayApp fr pg S x.size x.ps.length (acPw x) := ⟨_, rfl⟩
                  have HM := Lib.hid hM
                  rw [← hM] at hcase
                  clear hM hOut HAp hWo hys hB9 hS9 hCd hSd
                  have c010 := c0 w10 hS10
                  have q0 : w10.cell? ⟨w.heap.size + 1, 0, none⟩ = some (.int .i64 s0) := by rw [(b1.below hS10 b1.lt).cell]; rfl
                  obtain ⟨L0, rfl⟩ : ∃ L0 : Nat, s0 = (L0 : Int) := ⟨s0.toNat, by omega⟩
                  obtain ⟨L1, rfl⟩ : ∃ L1 : Nat, s1 = (L1 : Int) := ⟨s1.toNat, by omega⟩
                  rcases hcase with ⟨rfl, hMt, hSe⟩ | ⟨hr0, hMf, hSe, hGe⟩
                  case' inl =>
                    refine RegF.one 13 (by kernel_rfl) (RegF.opV (w' := w10) (.bool true) rfl rfl (by go_simp) ⟨fun _ => hS10, RegF.done (by kernel_rfl) ?_⟩)
                    simp only [List.getElem_toArray, List.getElem_cons_succ, List.getElem_cons_zero, Act.put, List.setIfInBounds_toArray, List.set_cons_zero, List.set_cons_succ]
                    rw [hSe] at hS' hC10
                    have HTN := HT w10 l2 q (k + 1) G' _ hS' hC10.lg
                    obtain ⟨WT, hWT⟩ : ∃ WT, WT = str (toldL (newS S x.size x.ps.length (acPw x)) P) := ⟨_, rfl⟩
                    have HWT : Hid ((M ∧ WT = str (toldL (newS S x.size x.ps.length (acPw x)) P)) ∨ (¬ M ∧ WT = AH)) := Lib.hid (.inl ⟨hMt, hWT⟩)
                    rw [← hWT] at HTN
                    clear hWT hMt hS' hC10 hSe
                    go_wp2_with (first
                      | (go_at_call 16; refine HTN.mono ?_; rintro e w11 ⟨rfl, hB11⟩; have hW11 := hW10.grow hB11; have q011 : w11.cell? ⟨w.heap.size + 1, 0, none⟩ = some (.int .i64 (L0 : Int)) := (by rw [(b1.below hW11.up b1.lt).cell]; rfl)))
                    clear HTN hB11 hW10 hS10 c010 q0
                  case' inr =>
                    refine RegF.one 13 (by kernel_rfl) (RegF.opV (w' := w10) (.bool false) rfl rfl (by have q : (r == 0) = false := (by rw [beq_eq_false_iff_ne]; exact hr0); go_simp) ⟨fun _ => hS10, RegF.done (by kernel_rfl) ?_⟩)
                    simp only [List.getElem_toArray, List.getElem_cons_succ, List.getElem_cons_zero, Act.put, List.setIfInBounds_toArray, List.set_cons_zero, List.set_cons_succ]
                    obtain ⟨WT, hWT⟩ : ∃ WT, WT = AH := ⟨_, rfl⟩
                    have HWT : Hid ((M ∧ WT = str (toldL (newS S x.size x.ps.length (acPw x)) P)) ∨ (¬ M ∧ WT = AH)) := Lib.hid (.inr ⟨hMf, hWT⟩)
                    have hW11 := hW10
                    clear hr0 hMf hS' hC10 hSe hGe
                    go_wp2_with fail
                    clear hW10 hS10 c010
                  all_goals
                    refine (stop_gives _ d many G [] 0 false hW11.dk L0).mono ?_
                    rintro e w12 ⟨rfl, hD12, hg12⟩
                    have hW12 : WhIs W0 d l many fr pg ⟨G, [], (L0 : Int), true⟩ S w12 := hW11.turned hg12 hD12
                    have hWd2 := hW12.grow (Below.refl _ w12).drew
                    have hSd := hWd2.up
                    clear hW11 hD12 hg12 hW12
                    go_wp2_with fail
                    refine RegF.start (fun W => Below W0.heap.size W0 W) 99 (by kernel_rfl) ?_
                    generalize w12.drew = w12 at *
                    refine RegF.take0 0 (.pointer (some ⟨l, 0, none⟩)) rfl (by kernel_rfl) (by kernel_rfl) (by kernel_rfl) rfl (fun _ _ _ h => h) hSd (RegF.yld rfl (fun W hW => by go_simp)) ?_
                    simp only [List.getElem_toArray, List.getElem_cons_zero, Act.put, List.setIfInBounds_toArray, List.set_cons_zero, List.set_cons_succ]
                    refine RegF.take0 1 (.slice (some ⟨g, o, none⟩) xs.length c) rfl (by kernel_rfl) (by kernel_rfl) (by kernel_rfl) rfl (fun _ _ _ h => h) hSd (RegF.yld rfl (fun W hW => by go_simp)) ?_
                    simp only [List.getElem_toArray, List.getElem_cons_succ, List.getElem_cons_zero, Act.put, List.setIfInBounds_toArray, List.set_cons_zero, List.set_cons_succ]
                    refine RegF.take0 2 (.int .i64 (k : Int)) rfl (by kernel_rfl) (by kernel_rfl) (by kernel_rfl) rfl (fun _ _ _ h => h) hSd (RegF.yld rfl (fun W hW => by go_simp)) ?_
                    simp only [List.getElem_toArray, List.getElem_cons_succ, List.getElem_cons_zero, Act.put, List.setIfInBounds_toArray, List.set_cons_zero, List.set_cons_succ]
                    refine RegF.take0 3 (.pointer (some ⟨g, o + k * 5, none⟩)) rfl (by kernel_rfl) (by kernel_rfl) (by kernel_rfl) rfl (fun _ _ _ h => h) hSd (RegF.yld rfl (fun W hW => by go_simp)) ?_
                    simp only [List.getElem_toArray, List.getElem_cons_succ, List.getElem_cons_zero, Act.put, List.setIfInBounds_toArray, List.set_cons_zero, List.set_cons_succ]
                    refine RegF.take0 4 (.pointer (some ⟨g, o + k * 5 + 1, none⟩)) rfl (by kernel_rfl) (by kernel_rfl) (by kernel_rfl) rfl (fun _ _ _ h => h) hSd (RegF.yld rfl (fun W hW => by go_simp)) ?_
                    simp only [List.getElem_toArray, List.getElem_cons_succ, List.getElem_cons_zero, Act.put, List.setIfInBounds_toArray, List.set_cons_zero, List.set_cons_succ]
                    refine RegF.take0 5 (.int .i64 x.size) rfl (by kernel_rfl) (by kernel_rfl) (by kernel_rfl) rfl (fun _ _ _ h => h) hSd (RegF.yld rfl (fun W hW => by have q := d1 W hW; go_simp)) ?_
                    simp only [List.getElem_toArray, List.getElem_cons_succ, List.getElem_cons_zero, Act.put, List.setIfInBounds_toArray, List.set_cons_zero, List.set_cons_succ]
                    refine RegF.take0 6 (.slice (some ⟨g, o, none⟩) xs.length c) rfl (by kernel_rfl) (by kernel_rfl) (by kernel_rfl) rfl (fun _ _ _ h => h) hSd (RegF.yld rfl (fun W hW => by go_simp)) ?_
                    simp only [List.getElem_toArray, List.getElem_cons_succ, List.getElem_cons_zero, Act.put, List.setIfInBounds_toArray, List.set_cons_zero, List.set_cons_succ]
                    refine RegF.take0 7 (.int .i64 (k : Int)) rfl (by kernel_rfl) (by kernel_rfl) (by kernel_rfl) rfl (fun _ _ _ h => h) hSd (RegF.yld rfl (fun W hW => by go_simp)) ?_
                    simp only [List.getElem_toArray, List.getElem_cons_succ, List.getElem_cons_zero, Act.put, List.setIfInBounds_toArray, List.set_cons_zero, List.set_cons_succ]
                    refine RegF.take0 8 (.pointer (some ⟨g, o + k * 5, none⟩)) rfl (by kernel_rfl) (by kernel_rfl) (by kernel_rfl) rfl (fun _ _ _ h => h) hSd (RegF.yld rfl (fun W hW => by go_simp)) ?_
                    simp only [List.getElem_toArray, List.getElem_cons_succ, List.getElem_cons_zero, Act.put, List.setIfInBounds_toArray, List.set_cons_zero, List.set_cons_succ]
                    refine RegF.take0 9 (.agg #[.int .i64 x.what, .int .i64 x.size, .slice x.P x.ps.length x.pc, .slice x.B x.bs.length x.bc, .slice x.K x.ks.length x.kc]) rfl (by kernel_rfl) (by kernel_rfl) (by kernel_rfl) rfl (fun _ _ _ h => h) hSd (RegF.yld rfl (fun W hW => by exact x_loadM rowAc (hRg W hW) rfl rfl rfl)) ?_
                    simp only [List.getElem_toArray, List.getElem_cons_succ, List.getElem_cons_zero, Act.put, List.setIfInBounds_toArray, List.set_cons_zero, List.set_cons_succ]
                    refine RegF.one 10 (by kernel_rfl) ?_
                    refine RegF.opC 15 #[.tmp 156] #[41] rfl rfl rfl (enters_of Tryz.func15 (by kernel_rfl) rfl) #[.agg #[.int .i64 x.what, .int .i64 x.size, .slice x.P x.ps.length x.pc, .slice x.B x.bs.length x.bc, .slice x.K x.ks.length x.kc]] (by simp only [List.map_toArray, List.map_cons, List.map_nil]; rfl) ((HWr _ hSd).mono ?_)
                    intro e w13 hWo
                    obtain ⟨A3, c3, zs, rfl, hB13, hzs, HAp⟩ := append_ac hWd2 (ok_stop G L0 (by omega)) (Nat.zero_le _) hS (by omega) HPL.out HMN.out hmax x hx6 hWo
                    have hS13 := (hWd2.grow hB13).up
                    refine ⟨_, rfl, fun _ => hS13, ?_⟩
                    simp only [List.getElem_toArray, List.getElem_cons_succ, List.getElem_cons_zero, Act.put, List.setIfInBounds_toArray, List.set_cons_zero, List.set_cons_succ]
                    refine RegF.one 11 (by kernel_rfl) ?_
                    refine RegF.opC 14 #[.tmp 147, .tmp 152, .tmp 157] #[33, 3, 44] rfl rfl rfl (enters_of Tryz.func14 (by kernel_rfl) rfl) #[.pointer (some ⟨l, 0, none⟩), .int .i64 x.size, .slice A3 x.ps.length c3] (by simp only [List.map_toArray, List.map_cons, List.map_nil]; rfl) ((HAp x.size).mono ?_)
                    rintro e w14 ⟨r2, s2, S3, rfl, hOut, hW14⟩
                    obtain ⟨tt, htt⟩ : ∃ tt, tt = x.ks.length % 64 := ⟨_, rfl⟩
                    obtain ⟨S2, hz2, hLO, hend⟩ := app_crash hS (by omega) HPL.out hzs (acPw_len x) (L0 : Int) true hOut x.ks tt
                    have hloose := app_loose (L0 : Int) true hOut
                    have hS14 := hW14.up
                    refine ⟨_, rfl, fun _ => hS14, ?_⟩
                    simp only [List.getElem_toArray, List.getElem_cons_succ, List.getElem_cons_zero, Act.put, List.setIfInBounds_toArray, List.set_cons_zero, List.set_cons_succ]
                    refine RegF.one 12 (by kernel_rfl) (RegF.opV (w' := w14) (.int .i64 r2) rfl rfl (by go_simp) ⟨fun _ => hS14, RegF.done (by kernel_rfl) ?_⟩)
                    simp only [List.getElem_toArray, List.getElem_cons_succ, List.getElem_cons_zero, Act.put, List.setIfInBounds_toArray, List.set_cons_zero, List.set_cons_succ]
                    rw [← HM.out] at hend
                    have HEND := Lib.hid hend
                    have HMOD := Lib.hid (show Int.tmod (x.ks.length : Int) 64 = (tt : Int) by rw [htt]; exact (Int.ofNat_tmod x.ks.length 64).symm)
                    have HWRT := Lib.hid (show IntKind.i64.wrap (tt : Int) = (tt : Int) from wrap_i64_fr _ (by omega) (by omega))
                    have htt63 : tt ≤ 63 := by omega
                    have hD14 := hW14.dk
                    clear hend htt hOut HAp hWo hzs hB13 hS13 hSd hWd2 hW14 d1 HWr
                    go_wp2_with fail
                    have hSd := hS14.drew
                    have hDd := hD14.grow (Below.refl _ w14).drew
                    have hgd := hW.gd
                    refine RegF.start (fun W => Below W0.heap.size W0 W) 99 (by kernel_rfl) ?_
                    generalize w14.drew = w15 at *
                    refine RegF.take0 0 (.pointer (some ⟨d, 0, none⟩)) rfl (by kernel_rfl) (by kernel_rfl) (by kernel_rfl) rfl (fun _ _ _ h => h) hSd (RegF.yld rfl (fun W hW => by go_simp)) ?_
                    simp only [List.getElem_toArray, List.getElem_cons_zero, Act.put, List.setIfInBounds_toArray, List.set_cons_zero, List.set_cons_succ]
                    refine RegF.take0 1 (.slice (some ⟨g, o, none⟩) xs.length c) rfl (by kernel_rfl) (by kernel_rfl) (by kernel_rfl) rfl (fun _ _ _ h => h) hSd (RegF.yld rfl (fun W hW => by go_simp)) ?_
                    simp only [List.getElem_toArray, List.getElem_cons_succ, List.getElem_cons_zero, Act.put, List.setIfInBounds_toArray, List.set_cons_zero, List.set_cons_succ]
                    refine RegF.take0 2 (.int .i64 (k : Int)) rfl (by kernel_rfl) (by kernel_rfl) (by kernel_rfl) rfl (fun _ _ _ h => h) hSd (RegF.yld rfl (fun W hW => by go_simp)) ?_
                    simp only [List.getElem_toArray, List.getElem_cons_succ, List.getElem_cons_zero, Act.put, List.setIfInBounds_toArray, List.set_cons_zero, List.set_cons_succ]
                    refine RegF.take0 3 (.pointer (some ⟨g, o + k * 5, none⟩)) rfl (by kernel_rfl) (by kernel_rfl) (by kernel_rfl) rfl (fun _ _ _ h => h) hSd (RegF.yld rfl (fun W hW => by go_simp)) ?_
                    simp only [List.getElem_toArray, List.getElem_cons_succ, List.getElem_cons_zero, Act.put, List.setIfInBounds_toArray, List.set_cons_zero, List.set_cons_succ]
                    refine RegF.take0 4 (.pointer (some ⟨g, o + k * 5 + 4, none⟩)) rfl (by kernel_rfl) (by kernel_rfl) (by kernel_rfl) rfl (fun _ _ _ h => h) hSd (RegF.yld rfl (fun W hW => by go_simp)) ?_
                    simp only [List.getElem_toArray, List.getElem_cons_succ, List.getElem_cons_zero, Act.put, List.setIfInBounds_toArray, List.set_cons_zero, List.set_cons_succ]
                    refine RegF.take0 5 (.slice x.K x.ks.length x.kc) rfl (by kernel_rfl) (by kernel_rfl) (by kernel_rfl) rfl (fun _ _ _ h => h) hSd (RegF.yld rfl (fun W hW => by have q := d4 W hW; go_simp)) ?_
                    simp only [List.getElem_toArray, List.getElem_cons_succ, List.getElem_cons_zero, Act.put, List.setIfInBounds_toArray, List.set_cons_zero, List.set_cons_succ]
                    refine RegF.take0 6 (.int .i64 (x.ks.length : Int)) rfl (by kernel_rfl) (by kernel_rfl) (by kernel_rfl) rfl (fun _ _ _ h => h) hSd (RegF.yld rfl (fun W hW => by go_simp)) ?_
                    simp only [List.getElem_toArray, List.getElem_cons_succ, List.getElem_cons_zero, Act.put, List.setIfInBounds_toArray, List.set_cons_zero, List.set_cons_succ]
                    refine RegF.take0 7 (.int .i64 (tt : Int)) rfl (by kernel_rfl) (by kernel_rfl) (by kernel_rfl) rfl (fun _ _ _ h => h) hSd (RegF.yld rfl (fun W hW => by have q := HMOD.out; have q2 := HWRT.out; go_simp)) ?_
                    simp only [List.getElem_toArray, List.getElem_cons_succ, List.getElem_cons_zero, Act.put, List.setIfInBounds_toArray, List.set_cons_zero, List.set_cons_succ]
                    refine RegF.take0 8 (.slice (some ⟨g, o, none⟩) xs.length c) rfl (by kernel_rfl) (by kernel_rfl) (by kernel_rfl) rfl (fun _ _ _ h => h) hSd (RegF.yld rfl (fun W hW => by go_simp)) ?_
                    simp only [List.getElem_toArray, List.getElem_cons_succ, List.getElem_cons_zero, Act.put, List.setIfInBounds_toArray, List.set_cons_zero, List.set_cons_succ]
                    refine RegF.take0 9 (.int .i64 (k : Int)) rfl (by kernel_rfl) (by kernel_rfl) (by kernel_rfl) rfl (fun _ _ _ h => h) hSd (RegF.yld rfl (fun W hW => by go_simp)) ?_
                    simp only [List.getElem_toArray, List.getElem_cons_succ, List.getElem_cons_zero, Act.put, List.setIfInBounds_toArray, List.set_cons_zero, List.set_cons_succ]
                    refine RegF.take0 10 (.pointer (some ⟨g, o + k * 5, none⟩)) rfl (by kernel_rfl) (by kernel_rfl) (by kernel_rfl) rfl (fun _ _ _ h => h) hSd (RegF.yld rfl (fun W hW => by go_simp)) ?_
                    simp only [List.getElem_toArray, List.getElem_cons_succ, List.getElem_cons_zero, Act.put, List.setIfInBounds_toArray, List.set_cons_zero, List.set_cons_succ]
                    refine RegF.take0 11 (.pointer (some ⟨g, o + k * 5 + 4, none⟩)) rfl (by kernel_rfl) (by kernel_rfl) (by kernel_rfl) rfl (fun _ _ _ h => h) hSd (RegF.yld rfl (fun W hW => by go_simp)) ?_
                    simp only [List.getElem_toArray, List.getElem_cons_succ, List.getElem_cons_zero, Act.put, List.setIfInBounds_toArray, List.set_cons_zero, List.set_cons_succ]
                    refine RegF.take0 12 (.slice x.K x.ks.length x.kc) rfl (by kernel_rfl) (by kernel_rfl) (by kernel_rfl) rfl (fun _ _ _ h => h) hSd (RegF.yld rfl (fun W hW => by have q := d4 W hW; go_simp)) ?_
                    simp only [List.getElem_toArray, List.getElem_cons_succ, List.getElem_cons_zero, Act.put, List.setIfInBounds_toArray, List.set_cons_zero, List.set_cons_succ]
                    refine RegF.one 13 (by kernel_rfl) ?_
                    refine RegF.opC 19 #[.tmp 159, .tmp 166, .tmp 171] #[28, 3, 39] rfl rfl rfl (enters_of Tryz.func19 (by kernel_rfl) rfl) #[.pointer (some ⟨d, 0, none⟩), .int .i64 (tt : Int), .slice x.K x.ks.length x.kc] (by simp only [List.map_toArray, List.map_cons, List.map_nil]; rfl) ((crash_gives w15 d many s2.g s2.xs s2.left s2.st hDd tt htt63 x.K x.kc x.ks (hKp _ hSd) (by omega)).mono ?_)
                    rintro e w16 ⟨rfl, hD16, hg16⟩
                    have hS16 : Below W0.heap.size W0 w16 := hSd.trans (grown_below hg16 hSd.size (fun r e => by injection e with e; rw [← e]; exact hgd))
                    refine ⟨_, rfl, fun _ => hS16, ?_⟩
                    simp only [List.getElem_toArray, List.getElem_cons_succ, List.getElem_cons_zero, Act.put, List.setIfInBounds_toArray, List.set_cons_zero, List.set_cons_succ]
                    refine RegF.one 14 (by kernel_rfl) (RegF.opV (w' := w16) (.int .i64 0) rfl rfl (by go_simp) ⟨fun _ => hS16, RegF.done (by kernel_rfl) ?_⟩)
                    simp only [List.getElem_toArray, List.getElem_cons_succ, List.getElem_cons_zero, Act.put, List.setIfInBounds_toArray, List.set_cons_zero, List.set_cons_succ]
                    obtain ⟨G3, hG3⟩ : ∃ G3, G3 = crD s2 x.ks tt := ⟨_, rfl⟩
                    have hD16' : DkIs w16 d many G3 [] 0 false := by rw [hG3]; exact hD16
                    rw [← hG3] at hLO
                    clear hG3 hD16 hDd hD14 hS14 hSd hg16 hloose hKp d4 hRg
                    have q016 : w16.cell? ⟨w.heap.size + 1, 1, none⟩ = some (.int .i64 (L1 : Int)) := by rw [(b1.below hS16 b1.lt).cell]; rfl
                    have HLO := Lib.hid hLO
                    clear hLO
                    go_wp2_with fail
                    have hfl2 : (S2.fs.length : Int) ≤ fr := by
                      rcases HEND.out with ⟨_, e⟩ | ⟨hm, e⟩
                      · rw [e]; exact hS.fs
                      · rw [HM.out] at hm
                        have hlen := addK_length S.ep x.size S.fs x.ps.length (acPw x) x.ps.length
                        have h2 := hm.2
                        rw [e]
                        show ((addK S.ep x.size S.fs x.ps.length (acPw x) x.ps.length).length : Int) ≤ fr
                        omega
                    have HO1 : ∀ W, DkS W d many ⟨G3, [], (L1 : Int), true⟩ → Calls Tryz.prog 11 #[.pointer (some ⟨d, 0, none⟩), .agg #[.int .i64 fr, .int .i64 pg]] W fun e w' => ∃ v1 v2, e = .returned (.tuple #[v1, v2]) ∧ DkS w' d many ⟨G3, [], (L1 : Int), true⟩ ∧ Below W.heap.size W w' := fun W hD => by
                      by_cases hL1 : L1 = 0
                      · refine (open_stop W fr pg d many ⟨G3, [], (L1 : Int), true⟩ hD (by subst hL1; rfl) HPL.out HMN.out hmax).mono ?_
                        rintro e w' ⟨rfl, hB⟩
                        exact ⟨_, _, rfl, hD.grow hB, hB⟩
                      · refine (HOL W d ⟨G3, [], (L1 : Int), true⟩ S2 hz2 hD (by unfold DS.stopped; simp; omega) rfl hfl2 HLO.out).mono ?_
                        rintro e w' ⟨l3, rfl, _, hD2, _, hB⟩
                        exact ⟨_, _, rfl, hD2, hB⟩
                    have HC2 : ∀ W, DkS W d many ⟨G3, [], (L1 : Int), true⟩ → Calls Tryz.prog 19 #[.pointer (some ⟨d, 0, none⟩), .int .i64 0, .slice none 0 0] W fun e w' => e = .returned (.int .i64 0) ∧ DkS w' d many ⟨G3, [], 0, false⟩ ∧ W.grownBy w' (some d) := fun W hD => by
                      have h := crash_gives W d many G3 [] (L1 : Int) true hD 0 (by omega) none 0 [] (InG.mt _ _ _) (Nat.zero_le _)
                      refine h.mono ?_
                      rintro e w' ⟨rfl, hD2, hg⟩
                      have e2 := crD_none (s := ⟨G3, [], (L1 : Int), true⟩) rfl [] 0
                      unfold crD at e2
                      have hD3 : DkIs w' d many (laid G3 (torn G3 (keptTo [] [] ([] : List (Nat × List UInt8)).length) 0)) [] 0 false := hD2
                      rw [e2] at hD3
                      exact ⟨rfl, hD3, hg⟩
                    obtain ⟨NW, hNW⟩ : ∃ NW, NW = str (toldL S2 P) := ⟨_, rfl⟩
                    have HT2 : ∀ (W : World) (l3 : Nat), LogIs W l3 d fr pg S2 → Calls Tryz.prog 16 #[.pointer (some ⟨l3, 0, none⟩), .int .i64 pg] W fun e w' => e = .returned (.string NW) ∧ Below W.heap.size W w' := fun W l3 hL => by
                      have hy : ∀ x ∈ S2.fs, x.y.length = 512 := fun x hx => by
                        obtain ⟨j, hj, rfl⟩ := List.getElem_of_mem hx
                        exact ((frOk_iff _ _ _ _ _).1 (HLO.out.fr.ok j hj).2.2.1).1
                      have h := told_gives W l3 d fr pg S2 hL HLO.out.hn hy P (by have := HP.out; omega)
                      rw [HP.out, ← hNW] at h
                      exact h
                    have HFin : Hid ((NW = AH ∧ ¬ r2 = 0) ∨ NW = WT) := Lib.hid (by
                      rcases HEND.out with ⟨h1, e⟩ | ⟨hm, e⟩
                      · left
                        exact ⟨by rw [hNW, e, HAH.out], h1⟩
                      · right
                        rcases HWT.out with ⟨_, e2⟩ | ⟨h2, _⟩
                        · rw [hNW, e, e2]
                        · exact absurd hm h2)
                    clear hNW
                    refine (stop_gives w16 d many G3 [] 0 false hD16' L1).mono ?_
                    rintro e w17 ⟨rfl, hD17, hg17⟩
                    have hS17 : Below W0.heap.size W0 w17 := hS16.trans (grown_below hg17 hS16.size (fun r e => by injection e with e; rw [← e]; exact hgd))
                    have HC := fun W h => HOL W d ⟨G3, [], 0, false⟩ S2 hz2 h rfl rfl hfl2 HLO.out
                    clear hg17 hD16' hS16 q016 HOL HSP
                    have b17 := b0.below hS17 b0.lt
                    go_wp2_with (first
                      | (refine wp_loadW rfl 23 (.tmp 3) rfl w.heap.size rfl rowPlan (by first | exact b17 | exact b19) rfl ?_)
                      | (go_at_call 11; refine (HO1 _ hD17).mono ?_; rintro e w18 ⟨v1, v2, rfl, hD18, hB18⟩; have hS18 := hS17.trans (hB18.mono hS17.size); clear HO1)
                      | (go_at_call 19; refine (HC2 _ hD18).mono ?_; rintro e w19 ⟨rfl, hD19, hg19⟩; have hS19 : Below W0.heap.size W0 w19 := hS18.trans (grown_below hg19 hS18.size (fun r e => by injection e with e; rw [← e]; exact hgd)); have b19 := b0.below hS19 b0.lt)
                      | (go_at_call 11; refine (HC _ hD19).mono ?_; rintro e w20 ⟨l3, rfl, _, hD20, hL20, hB20⟩; have hS20 := hS19.trans (hB20.mono hS19.size); have c020 := c0 w20 hS20)
                      | (go_at_call 12; refine (num6_gives _ _).mono ?_; rintro e w' ⟨rfl, rfl⟩))
                    refine (HT2 _ l3 hL20).mono ?_
                    rintro e w21 ⟨rfl, hB21⟩
                    have hS21 := hS20.trans (hB21.mono hS20.size)
                    clear HT2 HC HC2 HT c0 hW hS hPl hli hB20 hL20 hD20 hD19 hD18 hD17 hS20 hS19 hS18 hS17 HLO HEND HWT HAH b17 b19
                    have hF := HFin.out
                    clear HFin
                    by_cases hWN : NW = WT
                    · subst hWN
                      clear hF
                      have e1 : (NW.toList == NW.toList) = true := by simp
                      go_wp2_with (first
                        | (go_at_call 12; refine (num6_gives _ _).mono ?_; rintro e w' ⟨rfl, rfl⟩)
                        | (go_at_call 8; refine (works6_gives _).mono ?_; rintro e w22 ⟨rfl, hB22⟩))
                      all_goals
                        first
                        | (go_ret; exact ⟨rfl, hE hS21 hB22⟩)
                        | (exfalso; simp_all; done)
                    · rcases hF with ⟨rfl, hr2⟩ | hF
                      · have e1 : (NW.toList == NW.toList) = true := by simp
                        have e2 : (r2 == 0) = false := by rw [beq_eq_false_iff_ne]; exact hr2
                        clear hr2
                        go_wp2_with (first
                          | (go_at_call 12; refine (num6_gives _ _).mono ?_; rintro e w' ⟨rfl, rfl⟩)
                          | (go_at_call 8; refine (works6_gives _).mono ?_; rintro e w22 ⟨rfl, hB22⟩))
                        all_goals
                          first
                          | (exfalso; simp at e2; omega)
                          | (go_ret; exact ⟨rfl, hE hS21 hB22⟩)
                      · exact absurd hF hWN
  · replace HR := HR false (by simp [hsp])
    clear hsp
    go_wp2_with (first
        | (refine wp_loadW rfl 23 (.tmp 3) rfl w.heap.size rfl rowPlan b0 rfl ?_)
        | (go_at_call 7; refine HR.mono ?_; rintro e w1 ⟨rfl, hB1⟩; have q0 : w1.cell? ⟨w.heap.size + 1, 0, none⟩ = some (.int .i64 s0) := (by rw [(b1.below hB1 b1.lt).cell]; rfl); have q1 : w1.cell? ⟨w.heap.size + 1, 1, none⟩ = some (.int .i64 s1) := (by rw [(b1.below hB1 b1.lt).cell]; rfl))
        | (go_at_call 8; refine (works6_gives _).mono ?_; rintro e w9 ⟨rfl, hB9⟩))
    go_ret
    exact ⟨rfl, hE hB1 hB9⟩
end Go.Proofs.YtocnabpplbeafaaGreat
/- From a row's own reading of acts (loupelaw06) that came in to their parts. -/
namespace Go.Proofs.YtocnabpplbeafaaGreat
open Go Lou Go.ChangeShapes Go.WideShapes Go.ChangeAt Go.RowKit

theorem flat_getC {α : Type} {C : α → List Value} {sz : Nat} (hC : ∀ x, (C x).length = sz) : ∀ (s : List α) (j : Nat) (v : Value), ((s.map C).flatten)[j]? = some v → ∃ i q, ∃ hi : i < s.length, j = i * sz + q ∧ q < sz ∧ (C s[i])[q]? = some v
  | [], j, v, h => by simp at h
  | x :: s, j, v, h => by
    have e : ((x :: s).map C).flatten = C x ++ (s.map C).flatten := rfl
    rw [e] at h
    by_cases hj : j < (C x).length
    · rw [List.getElem?_append_left hj] at h
      exact ⟨0, j, by simp, by omega, by rw [← hC x]; exact hj, by simpa using h⟩
    · rw [List.getElem?_append_right (by omega)] at h
      obtain ⟨i, q, hi, e1, hq, e2⟩ := flat_getC hC s _ v h
      rw [hC] at e1 hj
      refine ⟨i + 1, q, by simpa using hi, ?_, hq, by simpa using e2⟩
      rw [Nat.succ_mul]
      omega
section
variable {H : Type} {enc : TypeId × Value → H} {W : World} {r : Reach} {b0 b1 : Nat} {held : Bool} {v : Value} {d : DataW H} {p : List MemPlace}
set_option maxRecDepth 100000 in
/-- A row of elements of sz cells each. -/
theorem one_rowC {α : Type} [Inhabited α] (C : α → List Value) {sz : Nat} (hz : 0 < sz) (hC : ∀ x, (C x).length = sz) (h1 : ∀ x, ∀ v ∈ C x, v.oneCell' = true) {T E : TypeId} (hT : Tryz.prog.underlying T = some (.slice E)) (hE : Tryz.prog.cellsOf E = sz)
    (hel : ∀ (n : Nat) (cs : List Value) (x : DataW H × List MemPlace), cs.length = sz → DataW.trod enc Tryz.prog W b1 (fun _ => true) held n E cs = some x → ∃ y : α, cs = C y)
    {n : Nat} {c : Value} {x : DataW H × List MemPlace} (h : DataW.trod enc Tryz.prog W b1 (fun _ => true) held n T [c] = some x) : ∃ A k, ∃ s : List α, c = .slice A s.length k ∧ InG W W.heap.size sz A s.length k ((s.map C).flatten) ∧ (s = [] ∨ ∃ elems sp, x.1 = .slice elems sp ∧ elems.length = s.length) := by
  rcases Go.Deep.open_slice hT h with ⟨hcs, _⟩ | ⟨a, len, cap, m, n', D, Pl, hcs, hb, hl, hm, hmm, hxd, hx⟩
  · simp at hcs
    exact ⟨none, 0, [], hcs, InG.mt _ _ _, .inl rfl⟩
  · simp at hcs
    simp only [if_true] at hmm
    subst hmm
    rw [hE] at hx
    obtain ⟨B, hB⟩ := Go.Deep.choose_lt (α := α) (p := fun i y => ∀ j (hj : j < (C y).length), W.cell? ((a.add (i * sz)).add j) = some (C y)[j]) (fun i hi => by
      obtain ⟨cs', h3, h4⟩ := hx i hi
      obtain ⟨_, hlen, hcell⟩ := World.cells?_some h3
      obtain ⟨y, rfl⟩ := hel _ _ _ hlen h4
      exact ⟨y, fun j hj => (hcell j (by omega)).trans (List.getElem?_eq_getElem hj)⟩)
    refine ⟨some a, m, (List.range len).map B, by simpa using hcs, ?_⟩
    have hln : ((List.range len).map B).length = len := by simp
    refine ⟨?_, .inr ⟨_, _, congrArg Prod.fst hxd, by simp⟩⟩
    refine ⟨by rw [hln]; exact hl, by unfold maxLen at hm; omega, (fun e => by cases e), ?_, ?_, fun h0 => ?_⟩
    · rw [List.length_flatten, List.map_map, hln]
      have : (List.map (List.length ∘ C) ((List.range len).map B)) = List.replicate len sz := by
        rw [List.eq_replicate_iff]
        refine ⟨by simp, fun b hb => ?_⟩
        obtain ⟨y, _, rfl⟩ := List.mem_map.1 hb
        exact hC y
      rw [this, List.sum_replicate_nat]
    · intro v hv
      obtain ⟨l, hl', hv⟩ := List.mem_flatten.1 hv
      obtain ⟨y, _, rfl⟩ := List.mem_map.1 hl'
      exact h1 y v hv
    · rw [hln] at h0
      obtain ⟨b, off, spot⟩ := a
      have hc0 := hB 0 (by omega) 0 (by rw [hC]; exact hz)
      have hspot : spot = none := by simpa [Addr.add] using World.cell?_spot hc0
      subst hspot
      have hbl : b < W.heap.size := by simpa [Addr.add] using cell_block_lt hc0
      refine ⟨b, off, rfl, hbl, fun j v hj => ?_⟩
      obtain ⟨i, q, hi, rfl, hq, e⟩ := flat_getC hC _ j v hj
      have hi' := hi
      rw [hln] at hi'
      have hg : ((List.range len).map B)[i] = B i := by simp
      rw [hg] at e
      obtain ⟨hq2, e⟩ := List.getElem?_eq_some_iff.1 e
      have := hB i (by omega) q hq2
      rw [Addr.add_mid, Addr.add_mid, e] at this
      rw [← Nat.add_assoc]
      exact this
theorem flat_oneC {α : Type} (f : α → Value) : ∀ s : List α, (s.map fun x => [f x]).flatten = s.map f
  | [] => rfl
  | x :: s => by
    have e : ((x :: s).map fun x => [f x]).flatten = f x :: (s.map fun x => [f x]).flatten := rfl
    rw [e, flat_oneC f s]
    rfl
set_option maxRecDepth 100000 in
theorem row_truths {n : Nat} {c : Value} {x : DataW H × List MemPlace} (h : DataW.trod enc Tryz.prog W b1 (fun _ => true) held n 39 [c] = some x) : ∃ A k, ∃ s : List Bool, c = .slice A s.length k ∧ InG W W.heap.size 1 A s.length k (s.map Value.bool) := by
  have hc : Tryz.prog.cellsOf 4 = 1 := by kernel_rfl
  obtain ⟨A, k, s, e, hin, _⟩ := one_rowC (α := Bool) (fun x => [Value.bool x]) (by decide) (fun _ => rfl) (fun x v hv => by simp at hv; subst hv; rfl) Tryz.underlying39 hc (fun n cs x hl ht => by
    obtain ⟨s, g, _⟩ := DataW.trod_bool Tryz.underlying4 ht
    exact ⟨s, g⟩) h
  rw [flat_oneC] at hin
  exact ⟨A, k, s, e, hin⟩
theorem InG.toB {W : World} {B : Nat} {A : Option Addr} {c : Nat} {l : List UInt8} (h : InG W B 1 A l.length c (l.map fun b => Value.int .u8 (b.toNat : Int))) : InB W B A c l :=
  ⟨h.le, h.max, h.nil, fun h0 => by
    obtain ⟨g, o, e, hg, hr⟩ := h.lies h0
    exact ⟨g, o, e, hg, fun j hj => hr j _ (by rw [List.getElem?_map, List.getElem?_eq_getElem hj]; rfl)⟩⟩
set_option maxRecDepth 100000 in
theorem row_ints {n : Nat} {c : Value} {x : DataW H × List MemPlace} (h : DataW.trod enc Tryz.prog W b1 (fun _ => true) held n 37 [c] = some x) : ∃ A k, ∃ s : List Int, c = .slice A s.length k ∧ InG W W.heap.size 1 A s.length k (s.map (Value.int .i64)) := by
  have hc : Tryz.prog.cellsOf 3 = 1 := by kernel_rfl
  obtain ⟨A, k, s, e, hin, _⟩ := one_rowC (α := Int) (fun x => [Value.int .i64 x]) (by decide) (fun _ => rfl) (fun x v hv => by simp at hv; subst hv; rfl) Tryz.underlying37 hc (fun n cs x hl ht => by
    obtain ⟨s, g, _, _⟩ := DataW.trod_int Tryz.underlying3 ht
    exact ⟨s, g⟩) h
  rw [flat_oneC] at hin
  exact ⟨A, k, s, e, hin⟩
set_option maxRecDepth 100000 in
theorem row_bytes6 {n : Nat} {c : Value} {x : DataW H × List MemPlace} (h : DataW.trod enc Tryz.prog W b1 (fun _ => true) held n 38 [c] = some x) : ∃ A k, ∃ s : List UInt8, c = .slice A s.length k ∧ InB W W.heap.size A k s := by
  have hc : Tryz.prog.cellsOf 5 = 1 := by kernel_rfl
  obtain ⟨A, k, s, e, hin, _⟩ := one_rowC (α := UInt8) (fun x => [Value.int .u8 (x.toNat : Int)]) (by decide) (fun _ => rfl) (fun x v hv => by simp at hv; subst hv; rfl) Tryz.underlying38 hc (fun n cs x hl ht => by
    obtain ⟨s, g, _, w⟩ := DataW.trod_int Tryz.underlying5 ht
    have hu := u8_wf w
    refine ⟨UInt8.ofNat s.toNat, ?_⟩
    rw [g]
    congr 2
    simp
    omega) h
  rw [flat_oneC] at hin
  exact ⟨A, k, s, e, hin.toB⟩
instance {W : World} : Inhabited { x : AcV // AcIs W W.heap.size x } := ⟨⟨⟨0, 0, [], none, 0, [], none, 0, [], none, 0⟩, InG.mt _ _ _, InB.mt _ _, InG.mt _ _ _⟩⟩
set_option maxRecDepth 100000 in
theorem ac_of {n : Nat} {cs : List Value} {x : DataW H × List MemPlace} (hl : cs.length = 5) (h : DataW.trod enc Tryz.prog W b1 (fun _ => true) held n 41 cs = some x) : ∃ y : { x : AcV // AcIs W W.heap.size x }, cs = acC y.1 := by
  have h1i : Tryz.prog.cellsOf 3 = 1 := by kernel_rfl
  have h1p : Tryz.prog.cellsOf 37 = 1 := by kernel_rfl
  have h1u : Tryz.prog.cellsOf 38 = 1 := by kernel_rfl
  have h1b : Tryz.prog.cellsOf 39 = 1 := by kernel_rfl
  obtain ⟨xs, m, _, _, _, hlx, hi⟩ := DataW.trod_struct Tryz.underlying41 h
  match cs, hl with
  | [c0, c1, c2, c3, c4], _ =>
    have hx5 : xs.length = 5 := hlx
    have e0 := hi 0 _ rfl
    have e1 := hi 1 _ rfl
    have e2 := hi 2 _ rfl
    have e3 := hi 3 _ rfl
    have e4 := hi 4 _ rfl
    rw [List.getElem?_eq_getElem (by omega)] at e0 e1 e2 e3 e4
    obtain ⟨z0, g0, _, _⟩ := DataW.trod_int Tryz.underlying3 e0
    obtain ⟨z1, g1, _, _⟩ := DataW.trod_int Tryz.underlying3 e1
    replace e2 : DataW.trod enc Tryz.prog W b1 (fun _ => true) held m 37 (([c0, c1, c2, c3, c4].drop 2).take (Tryz.prog.cellsOf 37)) = _ := e2
    rw [h1p] at e2
    obtain ⟨A2, k2, s2, g2, hin2⟩ := row_ints (show DataW.trod enc Tryz.prog W b1 (fun _ => true) held m 37 [c2] = _ from e2)
    replace e3 : DataW.trod enc Tryz.prog W b1 (fun _ => true) held m 38 (([c0, c1, c2, c3, c4].drop 3).take (Tryz.prog.cellsOf 38)) = _ := e3
    rw [h1u] at e3
    obtain ⟨A3, k3, s3, g3, hin3⟩ := row_bytes6 (show DataW.trod enc Tryz.prog W b1 (fun _ => true) held m 38 [c3] = _ from e3)
    replace e4 : DataW.trod enc Tryz.prog W b1 (fun _ => true) held m 39 (([c0, c1, c2, c3, c4].drop 4).take (Tryz.prog.cellsOf 39)) = _ := e4
    rw [h1b] at e4
    obtain ⟨A4, k4, s4, g4, hin4⟩ := row_truths (show DataW.trod enc Tryz.prog W b1 (fun _ => true) held m 39 [c4] = _ from e4)
    replace g0 : ([c0, c1, c2, c3, c4].drop 0).take (Tryz.prog.cellsOf 3) = _ := g0
    replace g1 : ([c0, c1, c2, c3, c4].drop 1).take (Tryz.prog.cellsOf 3) = _ := g1
    rw [h1i] at g0 g1
    simp at g0 g1
    subst g0 g1 g2 g3 g4
    exact ⟨⟨⟨z0, z1, s2, A2, k2, s3, A3, k3, s4, A4, k4⟩, hin2, hin3, hin4⟩, rfl⟩
set_option maxRecDepth 100000 in
theorem open_acts6 (hval : Value.okWide Tryz.prog W r b0 24 v) (h : DataW.Trod enc Tryz.prog W b1 (fun _ => true) held 24 v d p) : ∃ (A : Option Addr) (k : Nat) (xs : List AcV), v = .slice A xs.length k ∧ InG W W.heap.size 5 A xs.length k (acsV xs) ∧ (∀ x ∈ xs, AcIs W W.heap.size x) := by
  obtain ⟨A, n, k, rfl⟩ := okWide_slice Tryz.underlying24 hval
  obtain ⟨fuel, hf⟩ := h
  have hc : Tryz.prog.cellsOf 41 = 5 := by kernel_rfl
  obtain ⟨A', k', s, e, hin, _⟩ := one_rowC (α := { x : AcV // AcIs W W.heap.size x }) (fun x => acC x.1) (by decide) (fun _ => rfl) (fun x => acC_one x.1) Tryz.underlying24 hc (fun n cs x hl ht => ac_of hl ht) (show DataW.trod enc Tryz.prog W b1 (fun _ => true) held fuel 24 [.slice A n k] = _ from hf)
  refine ⟨A', k', s.map (·.1), by rw [List.length_map]; exact e, ?_, fun x hx => ?_⟩
  · rw [List.length_map]
    unfold acsV
    rw [List.map_map]
    exact hin
  · obtain ⟨y, _, rfl⟩ := List.mem_map.1 hx
    exact y.2
end
end Go.Proofs.YtocnabpplbeafaaGreat
