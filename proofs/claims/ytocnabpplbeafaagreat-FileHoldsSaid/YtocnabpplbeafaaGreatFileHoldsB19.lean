/- Texts that the proof of FileHolds leans on, part 19. -/
import Derived.BigQuiet
import Derived.Test.YtocnabpplbeafaaGreatFileHoldsB18
/- loupelaw07.FileHolds: the walk. -/
namespace Go.Proofs.YtocnabpplbeafaaGreat
open Go Go.RowKit Lou

theorem chk_loose {fr x : Int} {P : Nat} {G : Nat → List UInt8} {left : Int} {st : Bool} {S S' : LgS} {s' : DS} (h : ChkOut fr P ⟨G, [], left, st⟩ S x s' S') : s'.xs.length ≤ 8 * P + 1 := by
  obtain ⟨r, hr, _, rfl, _⟩ := h
  have h1 := appD_len ⟨G, [], left, st⟩ (layW fr S P) (wrL ((S.sr + 1) % 2) (hEnc (S.sr + 1) (S.ep + 1) S.sz 0) 1)
  have h2 := layW_length (fr := fr) (S := S) P
  rw [wrL1_length] at h1
  simp only [List.length_nil] at h1
  rw [hr]
  omega
theorem com_loose {fr pg z x : Int} {P n : Nat} {G : Nat → List UInt8} {left : Int} {st : Bool} {S S' : LgS} {s' : DS} {xs : Nat → Int × Option Addr × Nat} {pw : Nat → Int × List UInt8} (h : ComOut fr pg P ⟨G, [], left, st⟩ S n xs pw z x s' S') : s'.xs.length ≤ 9 * n + 8 * P + 2 := by
  rcases h with ⟨ha, _⟩ | ⟨_, _, x1, s1, S1, hc, hend⟩
  · have := app_loose left st ha
    omega
  · rcases hend with ⟨_, _, rfl, _⟩ | ⟨rfl, ha⟩
    · have := chk_loose hc
      omega
    · obtain ⟨r, hr, h0, rfl, _⟩ := hc
      obtain ⟨l2, e2⟩ := appD_zero (s := ⟨G, [], left, st⟩) (L1 := layW fr S P) (L2 := wrL ((S.sr + 1) % 2) (hEnc (S.sr + 1) (S.ep + 1) S.sz 0) 1) (by rw [← hr]; exact h0.symm)
      rw [← hr] at e2
      rw [e2] at ha
      have := app_loose l2 st ha
      omega
/-- How far the acts have come. -/
def FhRel (W0 : World) (d f l many : Nat) (fr pg : Int) (i : Value) (last : Nat) (W : World) : Prop := ∃ k : Nat, k ≤ last ∧ i = .int .i64 (k : Int) ∧ ∃ G S, StP fr pg G S (2 * k) ∧ PgIn pg S ∧ FhIs W0 d f l many fr pg ⟨G, [], 0, false⟩ S W
/-- A stop does not turn the log. -/
theorem FhIs.stopped {W0 W W' : World} {d f l many : Nat} {fr pg : Int} {G : Nat → List UInt8} {S : LgS} {L : Nat} (h : FhIs W0 d f l many fr pg ⟨G, [], 0, false⟩ S W) (hD : DkIs W' d many G [] (L : Int) true) (hg : W.grownBy W' (some d)) : FhIs W0 d f l many fr pg ⟨G, [], (L : Int), true⟩ S W' := h.turned hg hD
set_option maxRecDepth 100000 in
set_option maxHeartbeats 32000000 in
theorem lawFH_walk (w : World) (fr pg : Int) (A : Option Addr) (c : Nat) (xs : List AcV) (h : InG w w.heap.size 5 A xs.length c (acsV xs)) (hx : ∀ x ∈ xs, AcIs w w.heap.size x) (s0 s1 : Int) :
    Calls Tryz.prog 6 #[.agg #[.int .i64 fr, .int .i64 pg], .slice A xs.length c, .agg #[.int .i64 s0, .int .i64 s1]] w fun e w' => e = .returned (.bool true) ∧ Below w.heap.size w w' := by
  obtain ⟨W0, hW0⟩ : ∃ W0, W0 = (w.alloc (.cells #[.int .i64 fr, .int .i64 pg] 23)).alloc (.cells #[.int .i64 s0, .int .i64 s1] 25) := ⟨_, rfl⟩
  have hB0 : Below w.heap.size w W0 := by rw [hW0]; exact ((Below.refl _ w).alloc (Nat.le_refl _) _).alloc (by simp) _
  have b0 : BlkIs W0 w.heap.size 23 #[.int .i64 fr, .int .i64 pg] := by rw [hW0]; exact (BlkIs.new w _ _).alloc _
  have b1 : BlkIs W0 (w.heap.size + 1) 25 #[.int .i64 s0, .int .i64 s1] := by
    have := BlkIs.new (w.alloc (.cells #[.int .i64 fr, .int .i64 pg] 23)) 25 #[.int .i64 s0, .int .i64 s1]
    rw [World.size_alloc] at this
    rw [hW0]
    exact this
  have h0 := h.below hB0
  have hl := Nat.le_trans h.le h.max
  have HS := small7_gives W0 fr pg A c xs (h0.more hB0.size) hl 5
  generalize hSP : SmallP7 fr pg xs 5 = SP at *
  have HSP := Lib.hid hSP
  clear hSP
  go_enter Tryz.func6, Tryz.ntmps6
  go_wp2_with fail
  rw [← hW0]
  clear hW0
  have hE : ∀ {w1 w9 : World}, Below W0.heap.size W0 w1 → Below w1.heap.size w1 w9 → Below w.heap.size w w9 := fun {w1 w9} h1 h9 => hB0.trans ((h1.trans (h9.mono h1.size)).mono hB0.size)
  have HR : ∀ b : Bool, (b = true ↔ SP) → Calls Tryz.prog 27 #[.agg #[.int .i64 fr, .int .i64 pg], .slice A xs.length c, .int .i64 5] W0 fun e w' => e = .returned (.bool b) ∧ Below W0.heap.size W0 w' := fun b hb => by
    refine HS.mono ?_
    rintro e w' ⟨r, rfl, hB, hr⟩
    have : r = b := by cases r <;> cases b <;> simp_all
    subst this
    exact ⟨rfl, hB⟩
  clear HS
  by_cases hsp : SP
  · replace HR := HR true (by simp [hsp])
    have hsm := hsp
    rw [← HSP.out] at hsm
    obtain ⟨hxs, hpl, hfr5, hpg4, hx5⟩ := hsm
    have hpr := (planOk_iff fr pg).1 hpl
    obtain ⟨many, hmany⟩ : ∃ many : Nat, (many : Int) = 2 + 9 * fr + 8 * pg := ⟨(2 + 9 * fr + 8 * pg).toNat, by omega⟩
    obtain ⟨P, hP⟩ : ∃ P : Nat, (P : Int) = pg := ⟨pg.toNat, by omega⟩
    have hmax : many ≤ 100000 := by omega
    have hm1 : 1 ≤ many := by omega
    have hm4 : many ≤ 40000 := by omega
    have hP2 : P ≤ 1000 := by omega
    have hP4 : P ≤ 4 := by omega
    have HSec : ∀ W, Calls Tryz.prog 10 #[.agg #[.int .i64 fr, .int .i64 pg]] W fun e w' => e = .returned (.int .i64 (many : Int)) ∧ Below W.heap.size W w' := fun W => by
      rw [hmany]
      exact refSectors_gives fr pg W hpr.1 hpr.2
    have HPL := Lib.hid hpl
    have HMN := Lib.hid hmany
    have HXS := Lib.hid hxs
    have HPP := Lib.hid hP
    have HST : StP fr pg _ _ (2 * 0) := StP.begun (fr := fr) (pg := pg) (by omega) (by omega)
    have HPG : PgIn pg ⟨1, 1, 0, []⟩ := fun u hu => by cases hu
    have HOp : ∀ W d, Below W0.heap.size W0 W → W0.heap.size ≤ d → DkIs W d many (fun _ => zer64) [] 0 false → _ := fun W d hW hd hD => fopen_new (W0 := W0) W d many fr pg hW hd hD hpl hmany (by omega)
    generalize laid (fun _ => zer64) (wrL 1 (hEnc 1 1 0 0) 1) = G0 at *
    generalize (⟨1, 1, 0, []⟩ : LgS) = S0 at *
    clear hsp hpl hmany hxs hP
    by_cases n0 : xs.length = 0
    · clear HOp HST HPG HSec
      go_wp2_with (first
          | (refine wp_loadW rfl 23 (.tmp 3) rfl w.heap.size rfl rowPlan b0 rfl ?_)
          | (go_at_call 27; refine HR.mono ?_; rintro e w1 ⟨rfl, hB1⟩; have q0 : w1.cell? ⟨w.heap.size + 1, 0, none⟩ = some (.int .i64 s0) := (by rw [(b1.below hB1 b1.lt).cell]; rfl); have q1 : w1.cell? ⟨w.heap.size + 1, 1, none⟩ = some (.int .i64 s1) := (by rw [(b1.below hB1 b1.lt).cell]; rfl))
          | (go_at_call 28; refine (works7_gives _).mono ?_; rintro e w9 ⟨rfl, hB9⟩))
      go_ret
      exact ⟨rfl, hE hB1 hB9⟩
    · skip
      by_cases a0 : s0 < 0
      · clear HOp HST HPG HSec
        go_wp2_with (first
            | (refine wp_loadW rfl 23 (.tmp 3) rfl w.heap.size rfl rowPlan b0 rfl ?_)
            | (go_at_call 27; refine HR.mono ?_; rintro e w1 ⟨rfl, hB1⟩; have q0 : w1.cell? ⟨w.heap.size + 1, 0, none⟩ = some (.int .i64 s0) := (by rw [(b1.below hB1 b1.lt).cell]; rfl); have q1 : w1.cell? ⟨w.heap.size + 1, 1, none⟩ = some (.int .i64 s1) := (by rw [(b1.below hB1 b1.lt).cell]; rfl))
            | (go_at_call 28; refine (works7_gives _).mono ?_; rintro e w9 ⟨rfl, hB9⟩))
        go_ret
        exact ⟨rfl, hE hB1 hB9⟩
      · skip
        by_cases a1 : 300 < s0
        · clear HOp HST HPG HSec
          go_wp2_with (first
              | (refine wp_loadW rfl 23 (.tmp 3) rfl w.heap.size rfl rowPlan b0 rfl ?_)
              | (go_at_call 27; refine HR.mono ?_; rintro e w1 ⟨rfl, hB1⟩; have q0 : w1.cell? ⟨w.heap.size + 1, 0, none⟩ = some (.int .i64 s0) := (by rw [(b1.below hB1 b1.lt).cell]; rfl); have q1 : w1.cell? ⟨w.heap.size + 1, 1, none⟩ = some (.int .i64 s1) := (by rw [(b1.below hB1 b1.lt).cell]; rfl))
              | (go_at_call 28; refine (works7_gives _).mono ?_; rintro e w9 ⟨rfl, hB9⟩))
          go_ret
          exact ⟨rfl, hE hB1 hB9⟩
        · skip
          by_cases a2 : s1 < 0
          · clear HOp HST HPG HSec
            go_wp2_with (first
                | (refine wp_loadW rfl 23 (.tmp 3) rfl w.heap.size rfl rowPlan b0 rfl ?_)
                | (go_at_call 27; refine HR.mono ?_; rintro e w1 ⟨rfl, hB1⟩; have q0 : w1.cell? ⟨w.heap.size + 1, 0, none⟩ = some (.int .i64 s0) := (by rw [(b1.below hB1 b1.lt).cell]; rfl); have q1 : w1.cell? ⟨w.heap.size + 1, 1, none⟩ = some (.int .i64 s1) := (by rw [(b1.below hB1 b1.lt).cell]; rfl))
                | (go_at_call 28; refine (works7_gives _).mono ?_; rintro e w9 ⟨rfl, hB9⟩))
            go_ret
            exact ⟨rfl, hE hB1 hB9⟩
          · skip
            by_cases a3 : 10 < s1
            · clear HOp HST HPG HSec
              go_wp2_with (first
                  | (refine wp_loadW rfl 23 (.tmp 3) rfl w.heap.size rfl rowPlan b0 rfl ?_)
                  | (go_at_call 27; refine HR.mono ?_; rintro e w1 ⟨rfl, hB1⟩; have q0 : w1.cell? ⟨w.heap.size + 1, 0, none⟩ = some (.int .i64 s0) := (by rw [(b1.below hB1 b1.lt).cell]; rfl); have q1 : w1.cell? ⟨w.heap.size + 1, 1, none⟩ = some (.int .i64 s1) := (by rw [(b1.below hB1 b1.lt).cell]; rfl))
                  | (go_at_call 28; refine (works7_gives _).mono ?_; rintro e w9 ⟨rfl, hB9⟩))
              go_ret
              exact ⟨rfl, hE hB1 hB9⟩
            · skip
              have hn0 : ((xs.length : Int) == 0) = false := by
                rw [beq_eq_false_iff_ne]
                omega
              obtain ⟨last, hlast⟩ : ∃ last, last + 1 = xs.length := ⟨xs.length - 1, by omega⟩
              have hwl : IntKind.i64.wrap ((xs.length : Int) - 1) = (last : Int) := by
                rw [wrap_i64_fr _ (by omega) (by omega)]
                omega
              have HLA := Lib.hid hlast
              clear hlast
              go_wp2_with (first
                | (refine wp_loadW rfl 23 (.tmp 3) rfl w.heap.size rfl rowPlan (by first | exact b0 | exact b0.below hB1 b0.lt | exact b0.below hB2 b0.lt | exact b0.below hB3 b0.lt) rfl ?_)
                | (go_at_call 27; refine HR.mono ?_; rintro e w1 ⟨rfl, hB1⟩; have q0 : w1.cell? ⟨w.heap.size + 1, 0, none⟩ = some (.int .i64 s0) := (by rw [(b1.below hB1 b1.lt).cell]; rfl); have q1 : w1.cell? ⟨w.heap.size + 1, 1, none⟩ = some (.int .i64 s1) := (by rw [(b1.below hB1 b1.lt).cell]; rfl))
                | (go_at_call 10; refine (HSec _).mono ?_; rintro e w2 ⟨rfl, hB12⟩; have hB2 := hB1.trans (hB12.mono hB1.size))
                | (go_at_call 9; refine (new_gives _ many hm1 hm4).mono ?_; rintro e w3 ⟨d, rfl, hd2, hD3, hB23⟩; have hB3 := hB2.trans (hB23.mono hB2.size))
                | (go_at_call 29; refine (HOp _ d hB3 (Nat.le_trans hB2.size hd2) hD3).mono ?_; rintro e w4 ⟨f, l, rfl, hF4⟩)
                | (go_at_call 30; refine (num7_gives _ _).mono ?_; rintro e w' ⟨rfl, rfl⟩))
              go_loopw [12] (fun i wr => FhRel W0 d f l many fr pg i last wr) (fun i _ => last - (intOf i).toNat)
              case atStart => exact ⟨0, by omega, rfl, G0, S0, HST, HPG, hF4⟩
              case round =>
                clear hB1 hB12 hB2 hB23 hB3 hD3 hd2 hF4 HR HSec HOp HST HPG q0 q1 hn0 hwl w1 w2 w3 w4
                obtain ⟨k, hk, rfl, G, S, hS, hPg, hF⟩ := hrel
                by_cases hlt : k < last
                · have hLA := HLA.out
                  have hkx : k < xs.length := by omega
                  obtain ⟨g, o, rfl, hg, _⟩ := h0.lies (by omega)
                  have hr := h0.elem k hkx
                  rw [acsV_elem xs k hkx] at hr
                  have hAc := hx _ (List.getElem_mem hkx)
                  have hx6 := (HXS.out _ (List.getElem_mem hkx)).1
                  generalize xs[k] = x at *
                  have hwk : IntKind.i64.wrap ((k : Int) + 1) = (k : Int) + 1 := wrap_i64_fr _ (by omega) (by omega)
                  have hRg : ∀ W, Below W0.heap.size W0 W → W.rangeAt g (o + k * 5) (acC x) := fun W hW j v hj => (hW.cell (p := ⟨g, o + k * 5 + j, none⟩) (Nat.lt_of_lt_of_le hg hB0.size)).trans (hr j v hj)
                  have d0 : wr.cell? ⟨g, o + k * 5, none⟩ = some (.int .i64 x.what) := hRg wr hF.up 0 _ rfl
                  have d1 : ∀ W, Below W0.heap.size W0 W → W.cell? ⟨g, o + k * 5 + 1, none⟩ = some (.int .i64 x.size) := fun W hW => hRg W hW 1 _ rfl
                  have HWr : ∀ W, Below W0.heap.size W0 W → Calls Tryz.prog 32 #[.agg #[.int .i64 x.what, .int .i64 x.size, .slice x.P x.ps.length x.pc, .slice x.B x.bs.length x.bc, .slice x.K x.ks.length x.kc]] W (WrsOut x.ps x.bs W) := fun W hW => by
                    have hBW := hB0.trans (hW.mono hB0.size)
                    exact writes7_gives W x.what x.size x.P x.pc x.ps x.B x.bc x.bs x.K x.ks.length x.kc ((hAc.pages.below hBW).more hBW.size) ((hAc.bytes.below hBW).more hBW.size) (by omega)
                  have HLA2 := Lib.hid hLA
                  clear hLA HLA hr hAc
                  go_wp2_with fail
                  · refine (fchk_ac hF (okF_free G) (Nat.zero_le _) hS hPg (by omega) HPL.out HMN.out hmax HPP.out hP2).mono ?_
                    rintro e w6 ⟨x6, s6, S6, rfl, hC6, hF6⟩
                    obtain ⟨G6, rfl, rfl, hS6, hPg6, _⟩ := chk_tell hS (by omega) HPL.out 0 hC6
                    clear HWr hRg d0 d1 hC6
                    go_wp2
                    exact ⟨⟨k + 1, by omega, by simp, G6, S6, ⟨hS6.li, by have := hS6.sr; omega, by have := hS6.ep; omega, hS6.fs, hS6.sz⟩, hPg6, hF6⟩, by simp [intOf]; omega⟩
                  · have hFd := hF.grow (Below.refl _ wr).drew
                    have hSd := hFd.up
                    refine RegF.start (fun W => Below W0.heap.size W0 W) 99 (by kernel_rfl) ?_
                    refine RegF.take0 0 (.pointer (some ⟨f, 0, none⟩)) rfl (by kernel_rfl) (by kernel_rfl) (by kernel_rfl) rfl (fun _ _ _ h => h) hSd (RegF.yld rfl (fun W hW => by go_simp)) ?_
                    simp only [List.getElem_toArray, List.getElem_cons_zero, Act.put, List.setIfInBounds_toArray, List.set_cons_zero, List.set_cons_succ]
                    refine RegF.take0 1 (.slice (some ⟨g, o, none⟩) xs.length c) rfl (by kernel_rfl) (by kernel_rfl) (by kernel_rfl) rfl (fun _ _ _ h => h) hSd (RegF.yld rfl (fun W hW => by go_simp)) ?_
                    simp only [List.getElem_toArray, List.getElem_cons_succ, List.getElem_cons_zero, Act.put, List.setIfInBounds_toArray, List.set_cons_zero, List.set_cons_succ]
                    refine RegF.take0 2 (.int .i64 (k : Int)) rfl (by kernel_rfl) (by kernel_rfl) (by kernel_rfl) rfl (fun _ _ _ h => h) hSd (RegF.yld rfl (fun W hW => by go_simp)) ?_
                    simp only [List.getElem_toArray, List.getElem_cons_succ, List.getElem_cons_zero, Act.put, List.setIfInBounds_toArray, List.set_cons_zero, List.set_cons_succ]
                    refine RegF.take0 3 (.pointer (some ⟨g, o + k * 5, none⟩)) rfl (by kernel_rfl) (by kernel_rfl) (by kernel_rfl) rfl (fun _ _ _ h => h) hSd (RegF.yld rfl (fun W hW => by go_simp)) ?_
                    simp only [List.getElem_toArray, List.getElem_cons_succ, List.getElem_cons_zero, Act.put, List.setIfInBounds_toArray, List.set_cons_zero, List.set_cons_succ]
                    refine RegF.take0 4 (.pointer (some ⟨g, o + k * 5 + 1, none⟩)) rfl (by kernel_rfl) (by kernel_rfl) (by kernel_rfl) rfl (fun _ _ _ h => h) hSd (RegF.yld rfl (fun W hW => by go_simp)) ?_
                    simp only [List.getElem_toArray, List.getElem_cons_succ, List.getElem_cons_zero, Act.put, List.setIfInBounds_toArray, List.set_cons_zero, List.set_cons_succ]
                    refine RegF.take0 5 (.int .i64 x.size) rfl (by kernel_rfl) (by kernel_rfl) (by kernel_rfl) rfl (fun _ _ _ h => h) hSd (RegF.yld rfl (fun W hW => by have q := d1 W hW; go_simp)) ?_
                    simp only [List.getElem_toArray, List.getElem_cons_succ, List.getElem_cons_zero, Act.put, List.setIfInBounds_toArray, List.set_cons_zero, List.set_cons_succ]
                    refine RegF.take0 6 (.slice (some ⟨g, o, none⟩) xs.length c) rfl (by kernel_rfl) (by kernel_rfl) (by kernel_rfl) rfl (fun _ _ _ h => h) hSd (RegF.yld rfl (fun W hW => by go_simp)) ?_
                    simp only [List.getElem_toArray, List.getElem_cons_succ, List.getElem_cons_zero, Act.put, List.setIfInBounds_toArray, List.set_cons_zero, List.set_cons_succ]
                    refine RegF.take0 7 (.int .i64 (k : Int)) rfl (by kernel_rfl) (by kernel_rfl) (by kernel_rfl) rfl (fun _ _ _ h => h) hSd (RegF.yld rfl (fun W hW => by go_simp)) ?_
                    simp only [List.getElem_toArray, List.getElem_cons_succ, List.getElem_cons_zero, Act.put, List.setIfInBounds_toArray, List.set_cons_zero, List.set_cons_succ]
                    refine RegF.take0 8 (.pointer (some ⟨g, o + k * 5, none⟩)) rfl (by kernel_rfl) (by kernel_rfl) (by kernel_rfl) rfl (fun _ _ _ h => h) hSd (RegF.yld rfl (fun W hW => by go_simp)) ?_
                    simp only [List.getElem_toArray, List.getElem_cons_succ, List.getElem_cons_zero, Act.put, List.setIfInBounds_toArray, List.set_cons_zero, List.set_cons_succ]
                    refine RegF.take0 9 (.agg #[.int .i64 x.what, .int .i64 x.size, .slice x.P x.ps.length x.pc, .slice x.B x.bs.length x.bc, .slice x.K x.ks.length x.kc]) rfl (by kernel_rfl) (by kernel_rfl) (by kernel_rfl) rfl (fun _ _ _ h => h) hSd (RegF.yld rfl (fun W hW => by exact x_loadM rowAc7 (hRg W hW) rfl rfl rfl)) ?_
                    simp only [List.getElem_toArray, List.getElem_cons_succ, List.getElem_cons_zero, Act.put, List.setIfInBounds_toArray, List.set_cons_zero, List.set_cons_succ]
                    refine RegF.one 10 (by kernel_rfl) ?_
                    refine RegF.opC 32 #[.tmp 99] #[73] rfl rfl rfl (enters_of Tryz.func32 (by kernel_rfl) rfl) #[.agg #[.int .i64 x.what, .int .i64 x.size, .slice x.P x.ps.length x.pc, .slice x.B x.bs.length x.bc, .slice x.K x.ks.length x.kc]] (by simp only [List.map_toArray, List.map_cons, List.map_nil]; rfl) ((HWr _ hSd).mono ?_)
                    intro e w5 hWo
                    obtain ⟨A1, c1, ys, rfl, hB5, hys, HAp⟩ := fcommit_wr hFd (okF_free G) (Nat.zero_le _) hS hPg (by omega) HPL.out HMN.out hmax HPP.out hP2 x hx6 hWo
                    have hS5 := (hFd.grow hB5).up
                    refine ⟨_, rfl, fun _ => hS5, ?_⟩
                    simp only [List.getElem_toArray, List.getElem_cons_succ, List.getElem_cons_zero, Act.put, List.setIfInBounds_toArray, List.set_cons_zero, List.set_cons_succ]
                    refine RegF.one 11 (by kernel_rfl) ?_
                    refine RegF.opC 31 #[.tmp 90, .tmp 95, .tmp 100] #[70, 3, 44] rfl rfl rfl (enters_of Tryz.func31 (by kernel_rfl) rfl) #[.pointer (some ⟨f, 0, none⟩), .int .i64 x.size, .slice A1 x.ps.length c1] (by simp only [List.map_toArray, List.map_cons, List.map_nil]; rfl) ((HAp x.size).mono ?_)
                    rintro e w6 ⟨r, s6, S6, rfl, hOut, hF6⟩
                    obtain ⟨G6, rfl, hS6, hPg6, _⟩ := com_plain hS hPg (by omega) HPL.out hys (pwOf_len x.ps x.bs) hOut
                    refine ⟨_, rfl, fun _ => hF6.up, RegF.done (by kernel_rfl) ?_⟩
                    simp only [List.getElem_toArray, List.getElem_cons_succ, List.getElem_cons_zero, Act.put, List.setIfInBounds_toArray, List.set_cons_zero, List.set_cons_succ]
                    clear HWr HAp hOut hRg d0 d1 hFd hSd hWo hys
                    go_wp2
                    exact ⟨⟨k + 1, by omega, by simp, G6, S6, hS6, hPg6, hF6⟩, by simp [intOf]; omega⟩
                · have hkl : k = last := by omega
                  subst hkl
                  have hkx : k < xs.length := by have := HLA.out; omega
                  obtain ⟨g, o, rfl, hg, _⟩ := h0.lies (by omega)
                  have hr := h0.elem k hkx
                  rw [acsV_elem xs k hkx] at hr
                  have hAc := hx _ (List.getElem_mem hkx)
                  have hx6 := (HXS.out _ (List.getElem_mem hkx)).1
                  have hx120 := (HXS.out _ (List.getElem_mem hkx)).2
                  generalize xs[k] = x at *
                  have hRg : ∀ W, Below W0.heap.size W0 W → W.rangeAt g (o + k * 5) (acC x) := fun W hW j v hj => (hW.cell (p := ⟨g, o + k * 5 + j, none⟩) (Nat.lt_of_lt_of_le hg hB0.size)).trans (hr j v hj)
                  have d0 : ∀ W, Below W0.heap.size W0 W → W.cell? ⟨g, o + k * 5, none⟩ = some (.int .i64 x.what) := fun W hW => hRg W hW 0 _ rfl
                  have d1 : ∀ W, Below W0.heap.size W0 W → W.cell? ⟨g, o + k * 5 + 1, none⟩ = some (.int .i64 x.size) := fun W hW => hRg W hW 1 _ rfl
                  have d4 : ∀ W, Below W0.heap.size W0 W → W.cell? ⟨g, o + k * 5 + 4, none⟩ = some (.slice x.K x.ks.length x.kc) := fun W hW => hRg W hW 4 _ rfl
                  have HWr : ∀ W, Below W0.heap.size W0 W → Calls Tryz.prog 32 #[.agg #[.int .i64 x.what, .int .i64 x.size, .slice x.P x.ps.length x.pc, .slice x.B x.bs.length x.bc, .slice x.K x.ks.length x.kc]] W (WrsOut x.ps x.bs W) := fun W hW => by
                    have hBW := hB0.trans (hW.mono hB0.size)
                    exact writes7_gives W x.what x.size x.P x.pc x.ps x.B x.bc x.bs x.K x.ks.length x.kc ((hAc.pages.below hBW).more hBW.size) ((hAc.bytes.below hBW).more hBW.size) (by omega)
                  have hKp : ∀ W, Below W0.heap.size W0 W → InG W W.heap.size 1 x.K x.ks.length x.kc (x.ks.map Value.bool) := fun W hW => by
                    have hBW := hB0.trans (hW.mono hB0.size)
                    exact (hAc.keep.below hBW).more hBW.size
                  have hk5 : 2 * k ≤ 800 := by have := HLA.out; omega
                  clear hr hAc h0 h hx hlt hk HXS
                  have c0 : ∀ W, Below W0.heap.size W0 W → W.cell? ⟨w.heap.size, 1, none⟩ = some (.int .i64 pg) := fun W hW => by rw [(b0.below hW b0.lt).cell]; rfl
                  have hPl : ∀ W, Below W0.heap.size W0 W → W.rangeAt w.heap.size 0 [.int .i64 fr, .int .i64 pg] := fun W hW j v hj => by
                    rw [Nat.zero_add, (b0.below hW b0.lt).cell]
                    simpa using hj
                  obtain ⟨AH, hAH⟩ : ∃ AH, AH = str (tellF G fr S P) := ⟨_, rfl⟩
                  have HAH := Lib.hid hAH
                  have HT0 := ftold_ac hF hS.fs hS.y HPL.out HMN.out hmax HPP.out hP2
                  rw [← hAH] at HT0
                  have c0r := c0 wr hF.up
                  clear hAH
                  go_wp2_with (go_at_call 33; refine HT0.mono ?_; rintro e w5 ⟨rfl, hB5⟩)
                  have hWd := (hF.grow hB5).grow (Below.refl _ w5).drew
                  have hSd := hWd.up
                  obtain ⟨hz, hli⟩ := id hS.li
                  clear HT0 hB5
                  refine RegF.start (fun W => Below W0.heap.size W0 W) 99 (by kernel_rfl) ?_
                  generalize w5.drew = wd at *
                  refine RegF.take0 0 (.pointer (some ⟨d, 0, none⟩)) rfl (by kernel_rfl) (by kernel_rfl) (by kernel_rfl) rfl (fun _ _ _ h => h) hSd (RegF.yld rfl (fun W hW => by go_simp)) ?_
                  simp only [List.getElem_toArray, List.getElem_cons_zero, Act.put, List.setIfInBounds_toArray, List.set_cons_zero, List.set_cons_succ]
                  refine RegF.take0 2 (.agg #[.int .i64 fr, .int .i64 pg]) rfl (by kernel_rfl) (by kernel_rfl) (by kernel_rfl) rfl (fun _ _ _ h => h) hSd (RegF.yld rfl (fun W hW => by exact x_loadM rowPlan (hPl W hW) rfl rfl rfl)) ?_
                  simp only [List.getElem_toArray, List.getElem_cons_succ, List.getElem_cons_zero, Act.put, List.setIfInBounds_toArray, List.set_cons_zero, List.set_cons_succ]
                  refine RegF.one 1 (by kernel_rfl) ?_
                  refine RegF.opC 17 #[.tmp 108] #[28] rfl rfl rfl (enters_of Tryz.func17 (by kernel_rfl) rfl) #[.pointer (some ⟨d, 0, none⟩)] (by simp only [List.map_toArray, List.map_cons, List.map_nil]; rfl) ((copy_gives _ d many G [] 0 false hWd.dk (Nat.zero_le _)).mono ?_)
                  rintro e w6 ⟨q, rfl, hq, hDq, hB6⟩
                  have hW6 := hWd.grow hB6
                  refine ⟨_, rfl, fun _ => hW6.up, ?_⟩
                  simp only [List.getElem_toArray, List.getElem_cons_succ, List.getElem_cons_zero, Act.put, List.setIfInBounds_toArray, List.set_cons_zero, List.set_cons_succ]
                  refine RegF.one 3 (by kernel_rfl) ?_
                  refine RegF.opC 29 #[.tmp 109, .tmp 110] #[28, 23] rfl rfl rfl (enters_of Tryz.func29 (by kernel_rfl) rfl) #[.pointer (some ⟨q, 0, none⟩), .agg #[.int .i64 fr, .int .i64 pg]] (by simp only [List.map_toArray, List.map_cons, List.map_nil]; rfl) ((fopen_old (W0 := wd) w6 q many fr pg ⟨G, [], 0, false⟩ S hz hB6 hq hDq rfl rfl hS.fs hli.on HPL.out HMN.out (by omega)).mono ?_)
                  rintro e w7 ⟨f2, l2, rfl, hC7, hB7⟩
                  have hW7 := hW6.grow hB7
                  have hS7 := hW7.up
                  refine ⟨_, rfl, fun _ => hS7, ?_⟩
                  simp only [List.getElem_toArray, List.getElem_cons_succ, List.getElem_cons_zero, Act.put, List.setIfInBounds_toArray, List.set_cons_zero, List.set_cons_succ]
                  refine RegF.take0 4 (.tuple #[.pointer (some ⟨f2, 0, none⟩), .int .i64 0]) rfl (by kernel_rfl) (by kernel_rfl) (by kernel_rfl) rfl (fun _ _ _ h => h) hS7 (RegF.yld rfl (fun W hW => by go_simp)) ?_
                  simp only [List.getElem_toArray, List.getElem_cons_succ, List.getElem_cons_zero, Act.put, List.setIfInBounds_toArray, List.set_cons_zero, List.set_cons_succ]
                  refine RegF.take0 5 (.pointer (some ⟨f2, 0, none⟩)) rfl (by kernel_rfl) (by kernel_rfl) (by kernel_rfl) rfl (fun _ _ _ h => h) hS7 (RegF.yld rfl (fun W hW => by go_simp)) ?_
                  simp only [List.getElem_toArray, List.getElem_cons_succ, List.getElem_cons_zero, Act.put, List.setIfInBounds_toArray, List.set_cons_zero, List.set_cons_succ]
                  refine RegF.take0 6 (.int .i64 0) rfl (by kernel_rfl) (by kernel_rfl) (by kernel_rfl) rfl (fun _ _ _ h => h) hS7 (RegF.yld rfl (fun W hW => by go_simp)) ?_
                  simp only [List.getElem_toArray, List.getElem_cons_succ, List.getElem_cons_zero, Act.put, List.setIfInBounds_toArray, List.set_cons_zero, List.set_cons_succ]
                  refine RegF.one 7 (by kernel_rfl) (RegF.opV (w' := w7) (.pointer (some ⟨f2, 0, none⟩)) rfl rfl (by go_simp) ⟨fun _ => hS7, ?_⟩)
                  simp only [List.getElem_toArray, List.getElem_cons_succ, List.getElem_cons_zero, Act.put, List.setIfInBounds_toArray, List.set_cons_zero, List.set_cons_succ]
                  refine RegF.one 8 (by kernel_rfl) (RegF.opV (w' := w7) (.int .i64 0) rfl rfl (by go_simp) ⟨fun _ => hS7, RegF.done (by kernel_rfl) ?_⟩)
                  simp only [List.getElem_toArray, List.getElem_cons_succ, List.getElem_cons_zero, Act.put, List.setIfInBounds_toArray, List.set_cons_zero, List.set_cons_succ]
                  have HT7 := ftold_ac hC7 hS.fs hS.y HPL.out HMN.out hmax HPP.out hP2
                  rw [← HAH.out] at HT7
                  have c07 := c0 w7 hS7
                  have eAH : (AH.toList == AH.toList) = true := by simp
                  obtain ⟨L0, rfl⟩ : ∃ L0 : Nat, s0 = (L0 : Int) := ⟨s0.toNat, by omega⟩
                  obtain ⟨L1, rfl⟩ : ∃ L1 : Nat, s1 = (L1 : Int) := ⟨s1.toNat, by omega⟩
                  obtain ⟨tt, htt⟩ : ∃ tt, tt = x.ks.length % 64 := ⟨_, rfl⟩
                  clear hDq hB6 hW6 hB7 c0r hSd
                  by_cases hin : x.what = 3
                  case' pos =>
                    have d08 : ∀ W, Below W0.heap.size W0 W → W.cell? ⟨g, o + k * 5, none⟩ = some (.int .i64 3) := fun W hW => by rw [d0 W hW, hin]
                    go_wp2_with (first
                      | (go_at_call 30; refine (num7_gives _ _).mono ?_; rintro e w' ⟨rfl, rfl⟩)
                      | (go_at_call 33; refine HT7.mono ?_; rintro e w8 ⟨rfl, hB8⟩; have hS8 := (hW7.grow hB8).up; have d080 := d08 w8 hS8))
                    go_quiet (fail)
                    have hB8d : Below w8.heap.size w8 (w8.drewN nq) := ⟨rfl, rfl, rfl, Nat.le_refl _, fun _ _ => rfl⟩
                    have hW10 := (hW7.grow hB8).grow hB8d
                    obtain ⟨WT, hWT⟩ : ∃ WT, WT = AH := ⟨_, rfl⟩
                    obtain ⟨w10, hw10⟩ : ∃ w10, w10 = w8.drewN nq := ⟨_, rfl⟩
                    rw [← hw10] at hW10 ⊢
                    have q0 : w10.cell? ⟨w.heap.size + 1, 0, none⟩ = some (.int .i64 (L0 : Int)) := by rw [(b1.below hW10.up b1.lt).cell]; rfl
                    clear hB8 hS8 d080 hB8d hw10 hC7 hW7 HT7 c07 d08
                    go_wp2_with fail
                    refine (stop_gives _ d many G [] 0 false hW10.dk L0).mono ?_
                    rintro e w12 ⟨rfl, hD12, hg12⟩
                    have hW12 := hW10.stopped hD12 hg12
                    clear hD12 hg12 hW10 q0
                    go_wp2_with fail
                    refine (fchk_ac hW12 (okF_stop G L0 (by omega)) (Nat.zero_le _) hS hPg (by omega) HPL.out HMN.out hmax HPP.out hP2).mono ?_
                    rintro e w14 ⟨x6, s2, S3, rfl, hC6, hW14⟩
                    obtain ⟨r2, hr20⟩ : ∃ r2 : Int, r2 = 0 := ⟨0, rfl⟩
                    have hloose : s2.xs.length ≤ 1000 := by have := chk_loose hC6; omega
                    have HEND : Hid (∃ S2 hz2, LogOn (crD s2 x.ks tt) S2 hz2 ∧ PgIn pg S2 ∧ (S2.fs.length : Int) ≤ fr ∧ ((¬ r2 = 0 ∧ str (tellF (crD s2 x.ks tt) fr S2 P) = AH) ∨ str (tellF (crD s2 x.ks tt) fr S2 P) = WT)) := Lib.hid (by
                      obtain ⟨S2, hz2, h1, h2, h3, h4⟩ := chk_tell_crash hS hPg (by omega) HPL.out (L0 : Int) true hC6 x.ks tt
                      exact ⟨S2, hz2, h1, h2, h3, .inr (by rw [h4, ← HAH.out, hWT])⟩)
                    clear hC6 hW12
                  case' neg =>
                    have hinb : (x.what == 3) = false := by rw [beq_eq_false_iff_ne]; exact hin
                    go_wp2_with (first
                      | (go_at_call 30; refine (num7_gives _ _).mono ?_; rintro e w' ⟨rfl, rfl⟩)
                      | (go_at_call 33; refine HT7.mono ?_; rintro e w8 ⟨rfl, hB8⟩; have hS8 := (hW7.grow hB8).up; have d080 := d0 w8 hS8))
                    have hC8 := hC7.grow hB8
                    have hCd := hC8.grow (Below.refl _ w8).drew
                    have hSd := (hWd.grow hCd.up).up
                    clear hC7 hC8 hB8 hS7 HT7 c07 hW7
                    refine RegF.start (fun W => Below W0.heap.size W0 W) 99 (by kernel_rfl) ?_
                    generalize w8.drew = w8 at *
                    refine RegF.take0 0 (.bool false) rfl (by kernel_rfl) (by kernel_rfl) (by kernel_rfl) rfl (fun _ _ _ h => h) hSd (RegF.yld rfl (fun W hW => by go_simp)) ?_
                    simp only [List.getElem_toArray, List.getElem_cons_zero, Act.put, List.setIfInBounds_toArray, List.set_cons_zero, List.set_cons_succ]
                    refine RegF.take0 1 (.bool true) rfl (by kernel_rfl) (by kernel_rfl) (by kernel_rfl) rfl (fun _ _ _ h => h) hSd (RegF.yld rfl (fun W hW => by go_simp)) ?_
                    simp only [List.getElem_toArray, List.getElem_cons_succ, List.getElem_cons_zero, Act.put, List.setIfInBounds_toArray, List.set_cons_zero, List.set_cons_succ]
                    refine RegF.take0 2 (.bool true) rfl (by kernel_rfl) (by kernel_rfl) (by kernel_rfl) rfl (fun _ _ _ h => h) hSd (RegF.yld rfl (fun W hW => by go_simp)) ?_
                    simp only [List.getElem_toArray, List.getElem_cons_succ, List.getElem_cons_zero, Act.put, List.setIfInBounds_toArray, List.set_cons_zero, List.set_cons_succ]
                    refine RegF.take0 3 (.pointer (some ⟨f2, 0, none⟩)) rfl (by kernel_rfl) (by kernel_rfl) (by kernel_rfl) rfl (fun _ _ _ h => h) hSd (RegF.yldG (by rfl) (fun W hW => by go_simp)) ?_
                    simp only [List.getElem_toArray, List.getElem_cons_succ, List.getElem_cons_zero, Act.put, List.setIfInBounds_toArray, List.set_cons_zero, List.set_cons_succ]
                    refine RegF.take0 4 (.slice (some ⟨g, o, none⟩) xs.length c) rfl (by kernel_rfl) (by kernel_rfl) (by kernel_rfl) rfl (fun _ _ _ h => h) hSd (RegF.yldG (by rfl) (fun W hW => by go_simp)) ?_
                    simp only [List.getElem_toArray, List.getElem_cons_succ, List.getElem_cons_zero, Act.put, List.setIfInBounds_toArray, List.set_cons_zero, List.set_cons_succ]
                    refine RegF.take0 5 (.int .i64 (k : Int)) rfl (by kernel_rfl) (by kernel_rfl) (by kernel_rfl) rfl (fun _ _ _ h => h) hSd (RegF.yldG (by rfl) (fun W hW => by go_simp)) ?_
                    simp only [List.getElem_toArray, List.getElem_cons_succ, List.getElem_cons_zero, Act.put, List.setIfInBounds_toArray, List.set_cons_zero, List.set_cons_succ]
                    refine RegF.take0 6 (.pointer (some ⟨g, o + k * 5, none⟩)) rfl (by kernel_rfl) (by kernel_rfl) (by kernel_rfl) rfl (fun _ _ _ h => h) hSd (RegF.yldG (by rfl) (fun W hW => by go_simp)) ?_
                    simp only [List.getElem_toArray, List.getElem_cons_succ, List.getElem_cons_zero, Act.put, List.setIfInBounds_toArray, List.set_cons_zero, List.set_cons_succ]
                    refine RegF.take0 7 (.pointer (some ⟨g, o + k * 5 + 1, none⟩)) rfl (by kernel_rfl) (by kernel_rfl) (by kernel_rfl) rfl (fun _ _ _ h => h) hSd (RegF.yldG (by rfl) (fun W hW => by go_simp)) ?_
                    simp only [List.getElem_toArray, List.getElem_cons_succ, List.getElem_cons_zero, Act.put, List.setIfInBounds_toArray, List.set_cons_zero, List.set_cons_succ]
                    refine RegF.take0 8 (.int .i64 x.size) rfl (by kernel_rfl) (by kernel_rfl) (by kernel_rfl) rfl (fun _ _ _ h => h) hSd (RegF.yldG (by rfl) (fun W hW => by have q := d1 W hW; go_simp)) ?_
                    simp only [List.getElem_toArray, List.getElem_cons_succ, List.getElem_cons_zero, Act.put, List.setIfInBounds_toArray, List.set_cons_zero, List.set_cons_succ]
                    refine RegF.take0 9 (.slice (some ⟨g, o, none⟩) xs.length c) rfl (by kernel_rfl) (by kernel_rfl) (by kernel_rfl) rfl (fun _ _ _ h => h) hSd (RegF.yldG (by rfl) (fun W hW => by go_simp)) ?_
                    simp only [List.getElem_toArray, List.getElem_cons_succ, List.getElem_cons_zero, Act.put, List.setIfInBounds_toArray, List.set_cons_zero, List.set_cons_succ]
                    refine RegF.take0 10 (.int .i64 (k : Int)) rfl (by kernel_rfl) (by kernel_rfl) (by kernel_rfl) rfl (fun _ _ _ h => h) hSd (RegF.yldG (by rfl) (fun W hW => by go_simp)) ?_
                    simp only [List.getElem_toArray, List.getElem_cons_succ, List.getElem_cons_zero, Act.put, List.setIfInBounds_toArray, List.set_cons_zero, List.set_cons_succ]
                    refine RegF.take0 11 (.pointer (some ⟨g, o + k * 5, none⟩)) rfl (by kernel_rfl) (by kernel_rfl) (by kernel_rfl) rfl (fun _ _ _ h => h) hSd (RegF.yldG (by rfl) (fun W hW => by go_simp)) ?_
                    simp only [List.getElem_toArray, List.getElem_cons_succ, List.getElem_cons_zero, Act.put, List.setIfInBounds_toArray, List.set_cons_zero, List.set_cons_succ]
                    refine RegF.take0 12 (.agg #[.int .i64 x.what, .int .i64 x.size, .slice x.P x.ps.length x.pc, .slice x.B x.bs.length x.bc, .slice x.K x.ks.length x.kc]) rfl (by kernel_rfl) (by kernel_rfl) (by kernel_rfl) rfl (fun _ _ _ h => h) hSd (RegF.yldG (by rfl) (fun W hW => by exact x_loadM rowAc7 (hRg W hW) rfl rfl rfl)) ?_
                    simp only [List.getElem_toArray, List.getElem_cons_succ, List.getElem_cons_zero, Act.put, List.setIfInBounds_toArray, List.set_cons_zero, List.set_cons_succ]
                    refine RegF.one 13 (by kernel_rfl) ?_
                    refine RegF.opCg 32 #[.tmp 143] #[73] rfl rfl rfl (enters_of Tryz.func32 (by kernel_rfl) rfl) #[.agg #[.int .i64 x.what, .int .i64 x.size, .slice x.P x.ps.length x.pc, .slice x.B x.bs.length x.bc, .slice x.K x.ks.length x.kc]] (by simp only [List.map_toArray, List.map_cons, List.map_nil]; rfl) ((HWr _ hSd).mono ?_)
                    intro e w9 hWo
                    obtain ⟨A1, c1, ys, rfl, hB9, hys, HAp⟩ := fcommit_wr hCd (okF_free G) (Nat.zero_le _) hS hPg (by omega) HPL.out HMN.out hmax HPP.out hP2 x hx6 hWo
                    have hS9 := (hWd.grow (hCd.grow hB9).up).up
                    refine ⟨_, rfl, fun _ => hS9, ?_⟩
                    simp only [List.getElem_toArray, List.getElem_cons_succ, List.getElem_cons_zero, Act.put, List.setIfInBounds_toArray, List.set_cons_zero, List.set_cons_succ]
                    refine RegF.one 14 (by kernel_rfl) ?_
                    refine RegF.opCg 31 #[.tmp 134, .tmp 139, .tmp 144] #[70, 3, 44] rfl rfl rfl (enters_of Tryz.func31 (by kernel_rfl) rfl) #[.pointer (some ⟨f2, 0, none⟩), .int .i64 x.size, .slice A1 x.ps.length c1] (by simp only [List.map_toArray, List.map_cons, List.map_nil]; rfl) ((HAp x.size).mono ?_)
                    rintro e w10 ⟨r, s', S', rfl, hOut, hC10⟩
                    obtain ⟨G', rfl, hS', hPg', hcase⟩ := com_plain hS hPg (by omega) HPL.out hys (pwOf_len x.ps x.bs) hOut
                    have hW10 := hWd.grow hC10.up
                    have hS10 := hW10.up
                    refine ⟨_, rfl, fun _ => hS10, ?_⟩
                    simp only [List.getElem_toArray, List.getElem_cons_succ, List.getElem_cons_zero, Act.put, List.setIfInBounds_toArray, List.set_cons_zero, List.set_cons_succ]
                    refine RegF.one 15 (by kernel_rfl) ?_
                    refine RegF.opCg 30 #[.tmp 145] #[29] rfl rfl rfl (enters_of Tryz.func30 (by kernel_rfl) rfl) #[.int .i64 r] (by simp only [List.map_toArray, List.map_cons, List.map_nil]; rfl) ((num7_gives r w10).mono ?_)
                    rintro e w' ⟨rfl, rfl⟩
                    refine ⟨_, rfl, fun _ => hS10, ?_⟩
                    simp only [List.getElem_toArray, List.getElem_cons_succ, List.getElem_cons_zero, Act.put, List.setIfInBounds_toArray, List.set_cons_zero, List.set_cons_succ]
                    obtain ⟨M, hM⟩ : ∃ M : Prop, M = MayCom fr pg x.size x.ps.length (pwOf x.ps x.bs) := ⟨_, rfl⟩
                    have HM := Lib.hid hM
                    rw [← hM] at hcase
                    clear hM hOut HAp hWo hys hB9 hS9 hCd hSd
                    have c010 := c0 w10 hS10
                    have q0 : w10.cell? ⟨w.heap.size + 1, 0, none⟩ = some (.int .i64 (L0 : Int)) := by rw [(b1.below hS10 b1.lt).cell]; rfl
                    rcases hcase with ⟨rfl, hMt, hTe⟩ | ⟨hr0, hMf, hTe⟩
                    case' inl =>
                      refine RegF.one 16 (by kernel_rfl) (RegF.opVg (w' := w10) (.bool true) rfl rfl (by go_simp) ⟨fun _ => hS10, ?_⟩)
                      simp only [List.getElem_toArray, List.getElem_cons_succ, List.getElem_cons_zero, Act.put, List.setIfInBounds_toArray, List.set_cons_zero, List.set_cons_succ]
                      refine RegF.one 17 (by kernel_rfl) (RegF.opVg (w' := w10) (.bool true) rfl rfl (by go_simp) ⟨fun _ => hS10, RegF.done (by kernel_rfl) ?_⟩)
                      simp only [List.getElem_toArray, List.getElem_cons_succ, List.getElem_cons_zero, Act.put, List.setIfInBounds_toArray, List.set_cons_zero, List.set_cons_succ]
                      have HTN := ftold_ac hC10 hS'.fs hS'.y HPL.out HMN.out hmax HPP.out hP2
                      obtain ⟨WT, hWT⟩ : ∃ WT, WT = str (tellF G' fr S' P) := ⟨_, rfl⟩
                      rw [← hWT] at HTN
                      have HWT : Hid ((M ∧ WT = str (wantF (fileY G fr S) x.size x.ps.length (pwOf x.ps x.bs) P)) ∨ (¬ M ∧ WT = AH)) := Lib.hid (.inl ⟨hMt, by rw [hWT, hTe]⟩)
                      clear hWT hMt hTe hS' hPg' hC10
                      go_wp2_with (go_at_call 33; refine HTN.mono ?_; rintro e w11 ⟨rfl, hB11⟩; have hW11 := hW10.grow hB11; have q011 : w11.cell? ⟨w.heap.size + 1, 0, none⟩ = some (.int .i64 (L0 : Int)) := (by rw [(b1.below hW11.up b1.lt).cell]; rfl))
                      clear HTN hB11 hW10 hS10 c010 q0
                    case' inr =>
                      refine RegF.one 16 (by kernel_rfl) (RegF.opVg (w' := w10) (.bool false) rfl rfl (by have q : (r == 0) = false := (by rw [beq_eq_false_iff_ne]; exact hr0); go_simp) ⟨fun _ => hS10, ?_⟩)
                      simp only [List.getElem_toArray, List.getElem_cons_succ, List.getElem_cons_zero, Act.put, List.setIfInBounds_toArray, List.set_cons_zero, List.set_cons_succ]
                      refine RegF.one 17 (by kernel_rfl) (RegF.opVg (w' := w10) (.bool false) rfl rfl (by go_simp) ⟨fun _ => hS10, RegF.done (by kernel_rfl) ?_⟩)
                      simp only [List.getElem_toArray, List.getElem_cons_succ, List.getElem_cons_zero, Act.put, List.setIfInBounds_toArray, List.set_cons_zero, List.set_cons_succ]
                      obtain ⟨WT, hWT⟩ : ∃ WT, WT = AH := ⟨_, rfl⟩
                      have HWT : Hid ((M ∧ WT = str (wantF (fileY G fr S) x.size x.ps.length (pwOf x.ps x.bs) P)) ∨ (¬ M ∧ WT = AH)) := Lib.hid (.inr ⟨hMf, hWT⟩)
                      have hWT2 := hWT
                      have hW11 := hW10
                      clear hr0 hMf hTe hS' hPg' hC10
                      go_wp2_with fail
                      clear hW10 hS10 c010 hWT2
                    all_goals
                      refine (stop_gives _ d many G [] 0 false hW11.dk L0).mono ?_
                      rintro e w12 ⟨rfl, hD12, hg12⟩
                      have hW12 := hW11.stopped hD12 hg12
                      have hWd2 := hW12.grow (Below.refl _ w12).drew
                      have hSd := hWd2.up
                      clear hW11 hD12 hg12 hW12
                      go_wp2_with fail
                      refine RegF.start (fun W => Below W0.heap.size W0 W) 99 (by kernel_rfl) ?_
                      generalize w12.drew = w12 at *
                      refine RegF.take0 0 (.pointer (some ⟨f, 0, none⟩)) rfl (by kernel_rfl) (by kernel_rfl) (by kernel_rfl) rfl (fun _ _ _ h => h) hSd (RegF.yld rfl (fun W hW => by go_simp)) ?_
                      simp only [List.getElem_toArray, List.getElem_cons_zero, Act.put, List.setIfInBounds_toArray, List.set_cons_zero, List.set_cons_succ]
                      refine RegF.take0 1 (.slice (some ⟨g, o, none⟩) xs.length c) rfl (by kernel_rfl) (by kernel_rfl) (by kernel_rfl) rfl (fun _ _ _ h => h) hSd (RegF.yld rfl (fun W hW => by go_simp)) ?_
                      simp only [List.getElem_toArray, List.getElem_cons_succ, List.getElem_cons_zero, Act.put, List.setIfInBounds_toArray, List.set_cons_zero, List.set_cons_succ]
                      refine RegF.take0 2 (.int .i64 (k : Int)) rfl (by kernel_rfl) (by kernel_rfl) (by kernel_rfl) rfl (fun _ _ _ h => h) hSd (RegF.yld rfl (fun W hW => by go_simp)) ?_
                      simp only [List.getElem_toArray, List.getElem_cons_succ, List.getElem_cons_zero, Act.put, List.setIfInBounds_toArray, List.set_cons_zero, List.set_cons_succ]
                      refine RegF.take0 3 (.pointer (some ⟨g, o + k * 5, none⟩)) rfl (by kernel_rfl) (by kernel_rfl) (by kernel_rfl) rfl (fun _ _ _ h => h) hSd (RegF.yld rfl (fun W hW => by go_simp)) ?_
                      simp only [List.getElem_toArray, List.getElem_cons_succ, List.getElem_cons_zero, Act.put, List.setIfInBounds_toArray, List.set_cons_zero, List.set_cons_succ]
                      refine RegF.take0 4 (.pointer (some ⟨g, o + k * 5 + 1, none⟩)) rfl (by kernel_rfl) (by kernel_rfl) (by kernel_rfl) rfl (fun _ _ _ h => h) hSd (RegF.yld rfl (fun W hW => by go_simp)) ?_
                      simp only [List.getElem_toArray, List.getElem_cons_succ, List.getElem_cons_zero, Act.put, List.setIfInBounds_toArray, List.set_cons_zero, List.set_cons_succ]
                      refine RegF.take0 5 (.int .i64 x.size) rfl (by kernel_rfl) (by kernel_rfl) (by kernel_rfl) rfl (fun _ _ _ h => h) hSd (RegF.yld rfl (fun W hW => by have q := d1 W hW; go_simp)) ?_
                      simp only [List.getElem_toArray, List.getElem_cons_succ, List.getElem_cons_zero, Act.put, List.setIfInBounds_toArray, List.set_cons_zero, List.set_cons_succ]
                      refine RegF.take0 6 (.slice (some ⟨g, o, none⟩) xs.length c) rfl (by kernel_rfl) (by kernel_rfl) (by kernel_rfl) rfl (fun _ _ _ h => h) hSd (RegF.yld rfl (fun W hW => by go_simp)) ?_
                      simp only [List.getElem_toArray, List.getElem_cons_succ, List.getElem_cons_zero, Act.put, List.setIfInBounds_toArray, List.set_cons_zero, List.set_cons_succ]
                      refine RegF.take0 7 (.int .i64 (k : Int)) rfl (by kernel_rfl) (by kernel_rfl) (by kernel_rfl) rfl (fun _ _ _ h => h) hSd (RegF.yld rfl (fun W hW => by go_simp)) ?_
                      simp only [List.getElem_toArray, List.getElem_cons_succ, List.getElem_cons_zero, Act.put, List.setIfInBounds_toArray, List.set_cons_zero, List.set_cons_succ]
                      refine RegF.take0 8 (.pointer (some ⟨g, o + k * 5, none⟩)) rfl (by kernel_rfl) (by kernel_rfl) (by kernel_rfl) rfl (fun _ _ _ h => h) hSd (RegF.yld rfl (fun W hW => by go_simp)) ?_
                      simp only [List.getElem_toArray, List.getElem_cons_succ, List.getElem_cons_zero, Act.put, List.setIfInBounds_toArray, List.set_cons_zero, List.set_cons_succ]
                      refine RegF.take0 9 (.agg #[.int .i64 x.what, .int .i64 x.size, .slice x.P x.ps.length x.pc, .slice x.B x.bs.length x.bc, .slice x.K x.ks.length x.kc]) rfl (by kernel_rfl) (by kernel_rfl) (by kernel_rfl) rfl (fun _ _ _ h => h) hSd (RegF.yld rfl (fun W hW => by exact x_loadM rowAc7 (hRg W hW) rfl rfl rfl)) ?_
                      simp only [List.getElem_toArray, List.getElem_cons_succ, List.getElem_cons_zero, Act.put, List.setIfInBounds_toArray, List.set_cons_zero, List.set_cons_succ]
                      refine RegF.one 10 (by kernel_rfl) ?_
                      refine RegF.opC 32 #[.tmp 169] #[73] rfl rfl rfl (enters_of Tryz.func32 (by kernel_rfl) rfl) #[.agg #[.int .i64 x.what, .int .i64 x.size, .slice x.P x.ps.length x.pc, .slice x.B x.bs.length x.bc, .slice x.K x.ks.length x.kc]] (by simp only [List.map_toArray, List.map_cons, List.map_nil]; rfl) ((HWr _ hSd).mono ?_)
                      intro e w13 hWo
                      obtain ⟨A3, c3, zs, rfl, hB13, hzs, HAp⟩ := fcommit_wr hWd2 (okF_stop G L0 (by omega)) (Nat.zero_le _) hS hPg (by omega) HPL.out HMN.out hmax HPP.out hP2 x hx6 hWo
                      have hS13 := (hWd2.grow hB13).up
                      refine ⟨_, rfl, fun _ => hS13, ?_⟩
                      simp only [List.getElem_toArray, List.getElem_cons_succ, List.getElem_cons_zero, Act.put, List.setIfInBounds_toArray, List.set_cons_zero, List.set_cons_succ]
                      refine RegF.one 11 (by kernel_rfl) ?_
                      refine RegF.opC 31 #[.tmp 160, .tmp 165, .tmp 170] #[70, 3, 44] rfl rfl rfl (enters_of Tryz.func31 (by kernel_rfl) rfl) #[.pointer (some ⟨f, 0, none⟩), .int .i64 x.size, .slice A3 x.ps.length c3] (by simp only [List.map_toArray, List.map_cons, List.map_nil]; rfl) ((HAp x.size).mono ?_)
                      rintro e w14 ⟨r2, s2, S3, rfl, hOut, hW14⟩
                      have hloose : s2.xs.length ≤ 1000 := by have := com_loose hOut; omega
                      have HEND : Hid (∃ S2 hz2, LogOn (crD s2 x.ks tt) S2 hz2 ∧ PgIn pg S2 ∧ (S2.fs.length : Int) ≤ fr ∧ ((¬ r2 = 0 ∧ str (tellF (crD s2 x.ks tt) fr S2 P) = AH) ∨ str (tellF (crD s2 x.ks tt) fr S2 P) = WT)) := Lib.hid (by
                        obtain ⟨S2, hz2, h1, h2, h3, h4⟩ := com_crash hS hPg (by omega) HPL.out hzs (pwOf_len x.ps x.bs) (L0 : Int) true hOut x.ks tt
                        refine ⟨S2, hz2, h1, h2, h3, ?_⟩
                        rcases h4 with ⟨h4, h5⟩ | ⟨h4, h5⟩
                        · exact .inl ⟨h4, by rw [h5, HAH.out]⟩
                        · rw [← HM.out] at h4
                          rcases HWT.out with ⟨_, e⟩ | ⟨e, _⟩
                          · exact .inr (by rw [h5, e])
                          · exact absurd h4 e)
                      have hS14 := hW14.up
                      refine ⟨_, rfl, fun _ => hS14, ?_⟩
                      simp only [List.getElem_toArray, List.getElem_cons_succ, List.getElem_cons_zero, Act.put, List.setIfInBounds_toArray, List.set_cons_zero, List.set_cons_succ]
                      refine RegF.one 12 (by kernel_rfl) (RegF.opV (w' := w14) (.int .i64 r2) rfl rfl (by go_simp) ⟨fun _ => hS14, RegF.done (by kernel_rfl) ?_⟩)
                      simp only [List.getElem_toArray, List.getElem_cons_succ, List.getElem_cons_zero, Act.put, List.setIfInBounds_toArray, List.set_cons_zero, List.set_cons_succ]
                      have hr20 : Hid True := Lib.hid trivial
                      clear hOut HAp hWo hzs hB13 hS13 hSd hWd2 HWT HM hS14
                  all_goals
                    have HMOD := Lib.hid (show Int.tmod (x.ks.length : Int) 64 = (tt : Int) by rw [htt]; exact (Int.ofNat_tmod x.ks.length 64).symm)
                    have HWRT := Lib.hid (show IntKind.i64.wrap (tt : Int) = (tt : Int) from wrap_i64_fr _ (by omega) (by omega))
                    have htt63 : tt ≤ 63 := by omega
                    have hD14 := hW14.dk
                    have hS14 := hW14.up
                    have hgd := hW14.gd
                    clear hW14 d1 HWr
                    go_wp2_with fail
                    have hSd := hS14.drew
                    have hDd := hD14.grow (Below.refl _ w14).drew
                    refine RegF.start (fun W => Below W0.heap.size W0 W) 99 (by kernel_rfl) ?_
                    generalize w14.drew = w15 at *
                    refine RegF.take0 0 (.pointer (some ⟨d, 0, none⟩)) rfl (by kernel_rfl) (by kernel_rfl) (by kernel_rfl) rfl (fun _ _ _ h => h) hSd (RegF.yld rfl (fun W hW => by go_simp)) ?_
                    simp only [List.getElem_toArray, List.getElem_cons_zero, Act.put, List.setIfInBounds_toArray, List.set_cons_zero, List.set_cons_succ]
                    refine RegF.take0 1 (.slice (some ⟨g, o, none⟩) xs.length c) rfl (by kernel_rfl) (by kernel_rfl) (by kernel_rfl) rfl (fun _ _ _ h => h) hSd (RegF.yld rfl (fun W hW => by go_simp)) ?_
                    simp only [List.getElem_toArray, List.getElem_cons_succ, List.getElem_cons_zero, Act.put, List.setIfInBounds_toArray, List.set_cons_zero, List.set_cons_succ]
                    refine RegF.take0 2 (.int .i64 (k : Int)) rfl (by kernel_rfl) (by kernel_rfl) (by kernel_rfl) rfl (fun _ _ _ h => h) hSd (RegF.yld rfl (fun W hW => by go_simp)) ?_
                    simp only [List.getElem_toArray, List.getElem_cons_succ, List.getElem_cons_zero, Act.put, List.setIfInBounds_toArray, List.set_cons_zero, List.set_cons_succ]
                    refine RegF.take0 3 (.pointer (some ⟨g, o + k * 5, none⟩)) rfl (by kernel_rfl) (by kernel_rfl) (by kernel_rfl) rfl (fun _ _ _ h => h) hSd (RegF.yld rfl (fun W hW => by go_simp)) ?_
                    simp only [List.getElem_toArray, List.getElem_cons_succ, List.getElem_cons_zero, Act.put, List.setIfInBounds_toArray, List.set_cons_zero, List.set_cons_succ]
                    refine RegF.take0 4 (.pointer (some ⟨g, o + k * 5 + 4, none⟩)) rfl (by kernel_rfl) (by kernel_rfl) (by kernel_rfl) rfl (fun _ _ _ h => h) hSd (RegF.yld rfl (fun W hW => by go_simp)) ?_
                    simp only [List.getElem_toArray, List.getElem_cons_succ, List.getElem_cons_zero, Act.put, List.setIfInBounds_toArray, List.set_cons_zero, List.set_cons_succ]
                    refine RegF.take0 5 (.slice x.K x.ks.length x.kc) rfl (by kernel_rfl) (by kernel_rfl) (by kernel_rfl) rfl (fun _ _ _ h => h) hSd (RegF.yld rfl (fun W hW => by have q := d4 W hW; go_simp)) ?_
                    simp only [List.getElem_toArray, List.getElem_cons_succ, List.getElem_cons_zero, Act.put, List.setIfInBounds_toArray, List.set_cons_zero, List.set_cons_succ]
                    refine RegF.take0 6 (.int .i64 (x.ks.length : Int)) rfl (by kernel_rfl) (by kernel_rfl) (by kernel_rfl) rfl (fun _ _ _ h => h) hSd (RegF.yld rfl (fun W hW => by go_simp)) ?_
                    simp only [List.getElem_toArray, List.getElem_cons_succ, List.getElem_cons_zero, Act.put, List.setIfInBounds_toArray, List.set_cons_zero, List.set_cons_succ]
                    refine RegF.take0 7 (.int .i64 (tt : Int)) rfl (by kernel_rfl) (by kernel_rfl) (by kernel_rfl) rfl (fun _ _ _ h => h) hSd (RegF.yld rfl (fun W hW => by have q := HMOD.out; have q2 := HWRT.out; go_simp)) ?_
                    simp only [List.getElem_toArray, List.getElem_cons_succ, List.getElem_cons_zero, Act.put, List.setIfInBounds_toArray, List.set_cons_zero, List.set_cons_succ]
                    refine RegF.take0 8 (.slice (some ⟨g, o, none⟩) xs.length c) rfl (by kernel_rfl) (by kernel_rfl) (by kernel_rfl) rfl (fun _ _ _ h => h) hSd (RegF.yld rfl (fun W hW => by go_simp)) ?_
                    simp only [List.getElem_toArray, List.getElem_cons_succ, List.getElem_cons_zero, Act.put, List.setIfInBounds_toArray, List.set_cons_zero, List.set_cons_succ]
                    refine RegF.take0 9 (.int .i64 (k : Int)) rfl (by kernel_rfl) (by kernel_rfl) (by kernel_rfl) rfl (fun _ _ _ h => h) hSd (RegF.yld rfl (fun W hW => by go_simp)) ?_
                    simp only [List.getElem_toArray, List.getElem_cons_succ, List.getElem_cons_zero, Act.put, List.setIfInBounds_toArray, List.set_cons_zero, List.set_cons_succ]
                    refine RegF.take0 10 (.pointer (some ⟨g, o + k * 5, none⟩)) rfl (by kernel_rfl) (by kernel_rfl) (by kernel_rfl) rfl (fun _ _ _ h => h) hSd (RegF.yld rfl (fun W hW => by go_simp)) ?_
                    simp only [List.getElem_toArray, List.getElem_cons_succ, List.getElem_cons_zero, Act.put, List.setIfInBounds_toArray, List.set_cons_zero, List.set_cons_succ]
                    refine RegF.take0 11 (.pointer (some ⟨g, o + k * 5 + 4, none⟩)) rfl (by kernel_rfl) (by kernel_rfl) (by kernel_rfl) rfl (fun _ _ _ h => h) hSd (RegF.yld rfl (fun W hW => by go_simp)) ?_
                    simp only [List.getElem_toArray, List.getElem_cons_succ, List.getElem_cons_zero, Act.put, List.setIfInBounds_toArray, List.set_cons_zero, List.set_cons_succ]
                    refine RegF.take0 12 (.slice x.K x.ks.length x.kc) rfl (by kernel_rfl) (by kernel_rfl) (by kernel_rfl) rfl (fun _ _ _ h => h) hSd (RegF.yld rfl (fun W hW => by have q := d4 W hW; go_simp)) ?_
                    simp only [List.getElem_toArray, List.getElem_cons_succ, List.getElem_cons_zero, Act.put, List.setIfInBounds_toArray, List.set_cons_zero, List.set_cons_succ]
                    refine RegF.one 13 (by kernel_rfl) ?_
                    refine RegF.opC 19 #[.tmp 172, .tmp 179, .tmp 184] #[28, 3, 39] rfl rfl rfl (enters_of Tryz.func19 (by kernel_rfl) rfl) #[.pointer (some ⟨d, 0, none⟩), .int .i64 (tt : Int), .slice x.K x.ks.length x.kc] (by simp only [List.map_toArray, List.map_cons, List.map_nil]; rfl) ((crash_gives w15 d many s2.g s2.xs s2.left s2.st hDd tt htt63 x.K x.kc x.ks (hKp _ hSd) (by omega)).mono ?_)
                    rintro e w16 ⟨rfl, hD16, hg16⟩
                    have hS16 : Below W0.heap.size W0 w16 := hSd.trans (grown_below hg16 hSd.size (fun r e => by injection e with e; rw [← e]; exact hgd))
                    refine ⟨_, rfl, fun _ => hS16, ?_⟩
                    simp only [List.getElem_toArray, List.getElem_cons_succ, List.getElem_cons_zero, Act.put, List.setIfInBounds_toArray, List.set_cons_zero, List.set_cons_succ]
                    refine RegF.one 14 (by kernel_rfl) (RegF.opV (w' := w16) (.int .i64 0) rfl rfl (by go_simp) ⟨fun _ => hS16, RegF.done (by kernel_rfl) ?_⟩)
                    simp only [List.getElem_toArray, List.getElem_cons_succ, List.getElem_cons_zero, Act.put, List.setIfInBounds_toArray, List.set_cons_zero, List.set_cons_succ]
                    obtain ⟨S2, hz2, hLO, hPg2, hfl2, hend⟩ := HEND.out
                    obtain ⟨G3, hG3⟩ : ∃ G3, G3 = crD s2 x.ks tt := ⟨_, rfl⟩
                    have hD16' : DkIs w16 d many G3 [] 0 false := by rw [hG3]; exact hD16
                    rw [← hG3] at hLO hend
                    clear hG3 hD16 hDd hD14 hS14 hSd hg16 hloose hKp d4 hRg HEND d0
                    have q016 : w16.cell? ⟨w.heap.size + 1, 1, none⟩ = some (.int .i64 (L1 : Int)) := by rw [(b1.below hS16 b1.lt).cell]; rfl
                    have HLO := Lib.hid hLO
                    obtain ⟨NW, hNW⟩ : ∃ NW, NW = str (tellF G3 fr S2 P) := ⟨_, rfl⟩
                    have HNW := Lib.hid hNW
                    rw [← hNW] at hend
                    have HFin := Lib.hid hend
                    clear hLO hend hNW
                    go_wp2_with fail
                    have HO1 : ∀ W, Below W0.heap.size W0 W → DkS W d many ⟨G3, [], (L1 : Int), true⟩ → Calls Tryz.prog 29 #[.pointer (some ⟨d, 0, none⟩), .agg #[.int .i64 fr, .int .i64 pg]] W fun e w' => ∃ v1 v2, e = .returned (.tuple #[v1, v2]) ∧ DkS w' d many ⟨G3, [], (L1 : Int), true⟩ ∧ Below W.heap.size W w' := fun W hW hD => by
                      by_cases hL1 : L1 = 0
                      · refine (fopen_bad W d fr pg 140 (by decide) (fun V hV => open_stop V fr pg d many ⟨G3, [], (L1 : Int), true⟩ (hD.grow hV) (by subst hL1; rfl) HPL.out HMN.out (by omega))).mono ?_
                        rintro e w' ⟨rfl, hB⟩
                        exact ⟨_, _, rfl, hD.grow hB, hB⟩
                      · refine (fopen_old (W0 := W0) W d many fr pg ⟨G3, [], (L1 : Int), true⟩ S2 hz2 hW hgd hD (by unfold DS.stopped; simp; omega) rfl hfl2 HLO.out HPL.out HMN.out (by omega)).mono ?_
                        rintro e w' ⟨f3, l3, rfl, hF3, hB⟩
                        exact ⟨_, _, rfl, hF3.dk, hB⟩
                    have HC2 : ∀ W, DkS W d many ⟨G3, [], (L1 : Int), true⟩ → Calls Tryz.prog 19 #[.pointer (some ⟨d, 0, none⟩), .int .i64 0, .slice none 0 0] W fun e w' => e = .returned (.int .i64 0) ∧ DkS w' d many ⟨G3, [], 0, false⟩ ∧ W.grownBy w' (some d) := fun W hD => by
                      have h := crash_gives W d many G3 [] (L1 : Int) true hD 0 (by omega) none 0 [] (InG.mt _ _ _) (Nat.zero_le _)
                      refine h.mono ?_
                      rintro e w' ⟨rfl, hD2, hg⟩
                      have e2 := crD_none (s := ⟨G3, [], (L1 : Int), true⟩) rfl [] 0
                      unfold crD at e2
                      have hD3 : DkIs w' d many (laid G3 (torn G3 (keptTo [] [] ([] : List (Nat × List UInt8)).length) 0)) [] 0 false := hD2
                      rw [e2] at hD3
                      exact ⟨rfl, hD3, hg⟩
                    refine (stop_gives w16 d many G3 [] 0 false hD16' L1).mono ?_
                    rintro e w17 ⟨rfl, hD17, hg17⟩
                    have hS17 : Below W0.heap.size W0 w17 := hS16.trans (grown_below hg17 hS16.size (fun r e => by injection e with e; rw [← e]; exact hgd))
                    have HC : ∀ W, Below W0.heap.size W0 W → DkS W d many ⟨G3, [], 0, false⟩ → _ := fun W hW h => fopen_old (W0 := W0) W d many fr pg ⟨G3, [], 0, false⟩ S2 hz2 hW hgd h rfl rfl hfl2 HLO.out HPL.out HMN.out (by omega)
                    clear hg17 hD16' hS16 q016 HSP
                    have b17 := b0.below hS17 b0.lt
                    have hy2 : ∀ u ∈ S2.fs, u.y.length = 512 := fun u hu => by
                      obtain ⟨j, hj, rfl⟩ := List.getElem_of_mem hu
                      exact ((frOk_iff _ _ _ _ _).1 (HLO.out.fr.ok j hj).2.2.1).1
                    go_wp2_with (first
                      | (refine wp_loadW rfl 23 (.tmp 3) rfl w.heap.size rfl rowPlan (by first | exact b17 | exact b19) rfl ?_)
                      | (go_at_call 29; refine (HO1 _ hS17 hD17).mono ?_; rintro e w18 ⟨v1, v2, rfl, hD18, hB18⟩; have hS18 := hS17.trans (hB18.mono hS17.size); clear HO1)
                      | (go_at_call 19; refine (HC2 _ hD18).mono ?_; rintro e w19 ⟨rfl, hD19, hg19⟩; have hS19 : Below W0.heap.size W0 w19 := hS18.trans (grown_below hg19 hS18.size (fun r e => by injection e with e; rw [← e]; exact hgd)); have b19 := b0.below hS19 b0.lt)
                      | (go_at_call 29; refine (HC _ hS19 hD19).mono ?_; rintro e w20 ⟨f3, l3, rfl, hF20, hB20⟩; have hS20 := hF20.up; have c020 := c0 w20 hS20)
                      | (go_at_call 30; refine (num7_gives _ _).mono ?_; rintro e w' ⟨rfl, rfl⟩))
                    have HT2 := ftold_ac hF20 hfl2 hy2 HPL.out HMN.out hmax HPP.out hP2
                    rw [← HNW.out] at HT2
                    refine HT2.mono ?_
                    rintro e w21 ⟨rfl, hB21⟩
                    have hS21 := hS20.trans (hB21.mono hS20.size)
                    clear HT2 HC HC2 c0 hF hS hPl hli hB20 hF20 hD19 hD18 hD17 hS20 hS19 hS18 hS17 HLO HAH b17 b19 hWd hPg hPg2 hy2
                    have hF := HFin.out
                    clear HFin
                    by_cases hWN : NW = WT
                    · subst hWN
                      clear hF
                      have e1 : (NW.toList == NW.toList) = true := by simp
                      go_wp2_with (first
                        | (go_at_call 30; refine (num7_gives _ _).mono ?_; rintro e w' ⟨rfl, rfl⟩)
                        | (go_at_call 28; refine (works7_gives _).mono ?_; rintro e w22 ⟨rfl, hB22⟩))
                      all_goals
                        first
                        | (go_ret; exact ⟨rfl, hE hS21 hB22⟩)
                        | (exfalso; simp_all; done)
                    · rcases hF with ⟨hr2, rfl⟩ | hF
                      · have e2 : (r2 == 0) = false := by rw [beq_eq_false_iff_ne]; exact hr2
                        have e3 : (r2 != 0) = true := by rw [bne, e2]; rfl
                        have e1 : (NW.toList == NW.toList) = true := by simp
                        first
                        | (exfalso; exact hr2 hr20; done)
                        | (clear hr2
                           go_wp2_with (first
                             | (go_at_call 30; refine (num7_gives _ _).mono ?_; rintro e w' ⟨rfl, rfl⟩)
                             | (go_at_call 28; refine (works7_gives _).mono ?_; rintro e w22 ⟨rfl, hB22⟩))
                           all_goals
                             first
                             | (exfalso; simp at e2; omega)
                             | (go_ret; exact ⟨rfl, hE hS21 hB22⟩)
                             | (go_ret; exact ⟨by show Ending.returned (Value.bool (NW.toList == WT.toList || r2 != 0)) = _; rw [e3, Bool.or_true], hE hS21 hB22⟩))
                      · exact absurd hF hWN
  · replace HR := HR false (by simp [hsp])
    clear hsp
    go_wp2_with (first
        | (refine wp_loadW rfl 23 (.tmp 3) rfl w.heap.size rfl rowPlan b0 rfl ?_)
        | (go_at_call 27; refine HR.mono ?_; rintro e w1 ⟨rfl, hB1⟩; have q0 : w1.cell? ⟨w.heap.size + 1, 0, none⟩ = some (.int .i64 s0) := (by rw [(b1.below hB1 b1.lt).cell]; rfl); have q1 : w1.cell? ⟨w.heap.size + 1, 1, none⟩ = some (.int .i64 s1) := (by rw [(b1.below hB1 b1.lt).cell]; rfl))
        | (go_at_call 28; refine (works7_gives _).mono ?_; rintro e w9 ⟨rfl, hB9⟩))
    go_ret
    exact ⟨rfl, hE hB1 hB9⟩
end Go.Proofs.YtocnabpplbeafaaGreat
