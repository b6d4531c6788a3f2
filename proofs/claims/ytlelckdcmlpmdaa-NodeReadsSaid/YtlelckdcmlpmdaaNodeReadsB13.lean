/- Texts that the proof of NodeReads leans on, part 13. -/
import Derived.Test.YtlelckdcmlpmdaaNodeReadsB12
/- louperef12: Decode, of an inner node. -/
namespace Go.Proofs.Ytlelckdcmlpmdaa
open Go Go.RowKit Lou

/-- A row that came in, kept by what grows another row. -/
theorem past_row {W w' : World} {sz n c g : Nat} {cs : List Value} {row : Option Nat} (h : InG W W.heap.size sz (some ⟨g, 0, none⟩) n c cs) (hg : W.grownBy w' row) (hr : ∀ r, row = some r → r < g) : InG w' w'.heap.size sz (some ⟨g, 0, none⟩) n c cs := by
  refine ⟨h.le, h.max, h.nil, h.len, h.one, fun h0 => ?_⟩
  obtain ⟨g', o', e, hl, hc⟩ := h.lies h0
  injection e with e
  injection e with e1 e2
  subst e1 e2
  have hb := hg.block g hl (fun e => by have := hr g e.symm; omega)
  exact ⟨g, 0, rfl, Nat.lt_of_lt_of_le hl hg.size, fun j v hj => by rw [World.cell?_of_block (w := W) hb]; exact hc j v hj⟩
set_option maxRecDepth 100000 in
set_option maxHeartbeats 8000000 in
theorem rdec_inner (w : World) (g o c : Nat) (b : List UInt8) (h : InB w w.heap.size (some ⟨g, o, none⟩) c b) (hl : b.length = 512) (hb : b.head? = some 2) :
    Calls Try.prog 67 #[.slice (some ⟨g, o, none⟩) b.length c] w (DecSpec w b) := by
  have HNo := fun (hx : ∀ x, rdNod b = some x → ¬ FitsIn x b) w' hB => DecSpec.no (w := w) (w' := w') (b := b) hx hB
  have HYes : ∀ x, rdNod b = some x → FitsIn x b → ∀ e w', DecYes w x e w' → DecSpec w b e w' := fun x h1 h2 e w' h3 => .inl ⟨x, h1, h2, h3⟩
  generalize DecSpec w b = PO at *
  obtain ⟨b0, hB0, n0⟩ := rdW_is w
  have hp0 : w.heap.size < w.heap.size + 1 := by omega
  have hz := b0.below n0.g hp0
  have hB1 := hB0.trans (n0.g.mono (by omega))
  have hH : HeadIs b false := hb
  obtain ⟨w0, hw0⟩ : ∃ W, W = w.alloc (.cells zeroN 76) := ⟨_, rfl⟩
  obtain ⟨W1, hW1⟩ : ∃ W, W = rdW w := ⟨_, rfl⟩
  rw [← hw0] at b0 hB0 n0
  rw [← hW1] at hz hB1 n0
  have d0 := head_at (h.below hB1) hb
  replace d0 : W1.cell? ⟨g, o, none⟩ = some (.int .u8 2) := d0
  have a0 : W1.cell? ⟨w.heap.size + 1, 0, none⟩ = some (.bool false) := by rw [n0.b.cell]; rfl
  have f0 := n0.b.free 0
  have HRd : ∀ W, Below w.heap.size w W → ∀ q, EndO b q → Calls Try.prog 130 #[.slice (some ⟨g, o, none⟩) b.length c, .int .i64 (posO b.length q)] W fun e w' => e = .returned (.tuple #[.int .i64 ((nxtN q).1 : Int), .int .i64 (posO b.length (nxtN q).2)]) ∧ W = w' := fun W hW q hq => rread_u W g o c b ((h.below hW).more hW.size) q hq
  have HTx : ∀ W, Below w.heap.size w W → ∀ q, EndO b q → Calls Try.prog 131 #[.slice (some ⟨g, o, none⟩) b.length c, .int .i64 (posO b.length q)] W fun e w' => e = .returned (.tuple #[.string (nxtT q).1, .int .i64 (posO b.length (nxtT q).2)]) ∧ W = w' := fun W hW q hq => rtext_u W g o c b ((h.below hW).more hW.size) q hq
  have hlen : (b.length : Int) = 512 := by omega
  have hp1 : posO b.length (some (b.drop 1)) = 1 := by show ((b.length - (b.drop 1).length : Nat) : Int) = 1; rw [List.length_drop]; omega
  have hE1 : EndO b (some (b.drop 1)) := EndO.one (by omega)
  have HR1 := fun W hW => HRd W hW _ hE1
  rw [hp1] at HR1
  have hEa := hE1.n
  have n1 := n0.store 0 (.bool false)
  have hB2 : Below w.heap.size w (W1.setCell ⟨w.heap.size + 1, 0, none⟩ (.bool false)) := hB1.setCell (by simp) _
  obtain ⟨W2, hW2⟩ : ∃ W, W = W1.setCell ⟨w.heap.size + 1, 0, none⟩ (.bool false) := ⟨_, rfl⟩
  rw [← hW2] at n1 hB2
  have hhd : zeroN.setIfInBounds 0 (.bool false) = #[.bool false, .slice none 0 0, .slice none 0 0, .slice none 0 0] := rfl
  rw [hhd] at n1
  have k1 : W2.cell? ⟨w.heap.size + 1, 0, none⟩ = some (.bool false) := by rw [n1.b.cell]; rfl
  have HR1 := HR1 _ hB2
  unfold rdW zeroN at hW1
  have HW1 := Lib.hid hW1
  have HW2 := Lib.hid hW2
  have HH := Lib.hid hH
  have HNo := Lib.hid HNo
  have HYes := Lib.hid HYes
  have HLB := Lib.hid hl
  have hV0 := InvI.start b
  have hmany := nxtN_le (some (b.drop 1))
  have hkid := nxtN_le (nxtN (some (b.drop 1))).2
  have HR2 := fun W hW => HRd W hW _ hEa
  have hEb := hEa.n
  obtain ⟨many, hmn⟩ : ∃ m, m = (nxtN (some (b.drop 1))).1 := ⟨_, rfl⟩
  obtain ⟨q00, hq00⟩ : ∃ m, m = (nxtN (some (b.drop 1))).2 := ⟨_, rfl⟩
  rw [← hq00] at HR2 hEb hV0 hkid
  obtain ⟨kid, hkd⟩ : ∃ m, m = (nxtN q00).1 := ⟨_, rfl⟩
  obtain ⟨q0, hq0⟩ : ∃ m, m = (nxtN q00).2 := ⟨_, rfl⟩
  rw [← hmn, ← hkd, ← hq0] at hV0
  rw [← hmn] at hmany
  rw [← hkd] at hkid
  rw [← hq0] at hEb
  rw [← hmn, ← hq00] at HR1
  rw [← hkd, ← hq0] at HR2
  obtain ⟨a00, ha00⟩ : ∃ x, x = posO b.length q00 := ⟨_, rfl⟩
  obtain ⟨a01, ha01⟩ : ∃ x, x = posO b.length q0 := ⟨_, rfl⟩
  rw [← ha00] at HR1 HR2
  rw [← ha01] at HR2
  have HA0 := Lib.hid ha01
  have HV0 := Lib.hid hV0
  have HE0 := Lib.hid hEb
  have HR2 := HR2 _ hB2
  have c3i : W2.cell? ⟨w.heap.size + 1, 3, none⟩ = some (.slice none 0 0) := by rw [n1.b.cell]; rfl
  have nA := n1.past (w' := W2.alloc (.cells #[.int .i64 (kid : Int)] 3)) ((Below.refl _ W2).alloc (Nat.le_refl _) _)
  have hpA : w.heap.size + 1 + 1 ≤ (W2.alloc (.cells #[.int .i64 (kid : Int)] 3)).heap.size := nA.b.lt
  clear hmn hq0 ha00 ha01 hV0 hEa hEb hq00 hkd
  clear hW1 hW2 hb hp1 hw0 hz hH hhd n0 hl
  go_enter Try.func67, Try.ntmps67
  go_upto_region 2 with fail
  rw [← HW1.out]
  clear HW1
  go_upto_region 5 with fail
  rw [← HW2.out]
  clear HW2 a0 f0 d0 hB1
  go_upto_region 10 with (first
    | (go_at_call 130; first | (with_reducible refine HR1.mono ?_); rintro e W9 ⟨rfl, rfl⟩ | (with_reducible refine HR2.mono ?_); rintro e W9 ⟨rfl, rfl⟩)
    | (at_builtin; refine wp_appG rfl elIntC (.tmp 50) (.tmp 52) rfl (w.heap.size + 1 + 1) (.slice none 0 0) 0 [] rfl nA.i _ _ 1 1 [.int .i64 (kid : Int)] rfl (row_lit1 W2 3 1 [.int .i64 (kid : Int)] rfl (fun v hv => by obtain rfl := List.mem_singleton.1 hv; rfl)) (by unfold maxLen; omega) (by omega) hpA ?_; intro v8 w8 own8 hg8; obtain ⟨A8, c8, rfl, _⟩ := ownG_in own8 (fun v hv => by rcases List.mem_append.1 hv with h | h; cases h; obtain rfl := List.mem_singleton.1 h; rfl); have nB := nA.growI own8 hg8; have c81 : w8.cell? ⟨w.heap.size + 1, 3, none⟩ = some (.slice none 0 0) := (by rw [nB.b.cell]; rfl); have f81 := nB.b.free 3))
  have nC := nB.store 3 (.slice A8 1 c8)
  obtain ⟨W3, hW3⟩ : ∃ W, w8.setCell ⟨w.heap.size + 1, 3, none⟩ (.slice A8 1 c8) = W := ⟨_, rfl⟩
  rw [hW3] at nC
  replace nC : NSR w0 W3 (w.heap.size + 1) #[.bool false, .slice none 0 0, .slice none 0 0, .slice A8 1 c8] [] none 0 [] none 0 [(kid : Int)] A8 c8 := nC
  go_upto_block 0 with fail
  have e0W : w8.setCell ⟨w.heap.size + 1, 3, none⟩ (.slice A8 (0 + 1) c8) = W3 := hW3
  first | rw [hW3] | rw [e0W]
  clear hW3 e0W nB nA own8 hg8 c81 f81 hpA c3i
  go_wp2_with fail
  go_loopw [8, 6] (fun i at_ wr => ∃ (k : Nat) (a : Int) (kks : List (ByteArray × Int)) (ks : List ByteArray) (is : List Int) (q : Option (List UInt8)) (Ak : Option Addr) (ck : Nat) (Ai : Option Addr) (ci : Nat), k ≤ many ∧ i = .int .i64 k ∧ at_ = .int .i64 a ∧ Hid (a = posO b.length q) ∧ Hid (EndO b q) ∧ Hid (InvI b many k kid kks q) ∧ Hid (ks = kks.map (·.1)) ∧ Hid (is = (kid : Int) :: kks.map (·.2)) ∧ Hid (ks.length = k) ∧ NSR w0 wr (w.heap.size + 1) #[.bool false, .slice none 0 0, .slice Ak ks.length ck, .slice Ai is.length ci] [] none 0 ks Ak ck is Ai ci) (fun i _ _ => many - (intOf i).toNat)
  case atStart => exact ⟨0, a01, [], [], [(kid : Int)], q0, none, 0, A8, c8, by omega, rfl, rfl, HA0, HE0, HV0, Lib.hid rfl, Lib.hid rfl, Lib.hid rfl, nC⟩
  case round =>
    obtain ⟨k, a, kks, ks, is, q, Ak, ck, Ai, ci, hk, rfl, rfl, HA, HE, HV, HKS, HIS, HCL, nr⟩ := hrel
    have hcs : ks.length ≤ 100000 := by have := HCL.out; omega
    have his : is.length ≤ 100001 := by have h1 := HCL.out; have h2 := HKS.out; have h3 := HIS.out; subst h2 h3; rw [List.length_map] at h1; rw [List.length_cons, List.length_map]; omega
    have hz := b0.below nr.g hp0
    have hBw : Below w.heap.size w wr := hB0.trans (nr.g.mono (by omega))
    clear HA0 HV0 HE0 n1 nC HR1 HR2 k1 hB2
    have c0 : wr.cell? ⟨w.heap.size + 1, 0, none⟩ = some (.bool false) := by rw [nr.b.cell]; rfl
    by_cases hlt : k < many
    · have hlt' : (k : Int) < (many : Int) := by omega
      have hwk : IntKind.i64.wrap ((k : Int) + 1) = (k : Int) + 1 := wrapN _ (by omega) (by omega)
      cases q with
      | none =>
        obtain rfl : a = -1 := HA.out
        go_wp2_with (refine wp_storeW rfl 76 (.tmp 2) (.tmp 125) rfl w.heap.size rfl rfl rowNod hz (by rfl) (by rfl) (four_oneC rfl rfl rfl rfl) ?_)
        exact bodyPost_ret (results_cellW_tmp 2 3 rfl rfl rfl rowNod (hz.setRow _) (by rfl)) rfl (HNo.out (no_rest HH.out HV.out) _ (below_setRow hBw (Nat.le_refl _) _))
      | some lk =>
        have hal : 0 ≤ a := by rw [HA.out]; exact posO_some ⟨lk, rfl⟩
        have hal' : ¬ a < 0 := by omega
        rcases hT : nxtT (some lk) with ⟨s, q1⟩
        rcases hN : nxtN q1 with ⟨pg, q2⟩
        have hE1 : EndO b q1 := by have := HE.out.t; rw [hT] at this; exact this
        have hE2 : Hid (EndO b q2) := Lib.hid (by have := hE1.n; rw [hN] at this; exact this)
        have C1 := fun W hW => HTx W hW (some lk) HE.out
        have C2 := fun W hW => HRd W hW q1 hE1
        rw [← HA.out, hT] at C1
        rw [hN] at C2
        simp only at C1 C2
        obtain ⟨a2, ha2⟩ : ∃ x, x = posO b.length q2 := ⟨_, rfl⟩
        rw [← ha2] at C2
        have HA2 := Lib.hid ha2
        generalize posO b.length q1 = a1 at *
        have HVn := Lib.hid (HV.out.key hlt hT hN)
        have D1 := C1 wr hBw
        have D2 := C2 wr hBw
        clear C1 C2 hT hN hE1 ha2
        go_wp2_with (first
          | (go_at_call 131; refine D1.mono ?_; rintro e W9 ⟨rfl, rfl⟩)
          | (go_at_call 130; refine D2.mono ?_; rintro e W9 ⟨rfl, rfl⟩))
        clear D1 D2 c0
        have NR := nr.drew
        have K8 : ∀ r, (Value.slice Ak ks.length ck).ownBlock = some r → r < wr.drew.heap.size := fun r hr => ownG_lt NR.k r hr
        have e2 : wr.drew.cell? ⟨w.heap.size + 1, 2, none⟩ = some (.slice Ak ks.length ck) := by rw [NR.b.cell]; rfl
        have e3 : wr.drew.cell? ⟨w.heap.size + 1, 3, none⟩ = some (.slice Ai is.length ci) := by rw [NR.b.cell]; rfl
        refine RegL.start [(11, ⟨w.heap.size + 1, 2, none⟩, .slice Ak ks.length ck), (13, ⟨w.heap.size + 1, 3, none⟩, .slice Ai is.length ci)] (by kernel_rfl) ?_
        obtain ⟨wd, hwd⟩ : ∃ W, wr.drew = W := ⟨_, rfl⟩
        rw [hwd] at NR K8 e2 e3
        rw [hwd]
        clear hwd nr
        refine RegL.takeP 0 (.pointer (some ⟨w.heap.size + 1, 2, none⟩)) rfl (by kernel_rfl) (by kernel_rfl) (by kernel_rfl) (by kernel_rfl) (fun _ _ _ h => h) (RegL.SL.two (fun _ => e2) (fun _ => e3)) rfl (fun W => by go_simp) ?_
        simp only [List.getElem_toArray, List.getElem_cons_zero, Act.put, List.setIfInBounds_toArray, List.set_cons_zero, List.set_cons_succ]
        refine RegL.takeL 1 11 ⟨w.heap.size + 1, 2, none⟩ (.slice Ak ks.length ck) (.slice Ak ks.length ck) rfl (by kernel_rfl) (by kernel_rfl) (by kernel_rfl) (by kernel_rfl) (by kernel_rfl) rfl (by simp) (fun _ _ _ h => h) (RegL.SL.two (fun _ => e2) (fun _ => e3)) rfl (fun W hW => by go_simp) ?_
        simp only [List.getElem_toArray, List.getElem_cons_succ, List.getElem_cons_zero, Act.put, List.setIfInBounds_toArray, List.set_cons_zero, List.set_cons_succ]
        refine RegL.takeP 2 (.string s) rfl (by kernel_rfl) (by kernel_rfl) (by kernel_rfl) (by kernel_rfl) (fun _ _ _ h => h) (RegL.SL.two (fun _ => e2) (fun _ => e3)) rfl (fun W => by go_simp) ?_
        simp only [List.getElem_toArray, List.getElem_cons_succ, List.getElem_cons_zero, Act.put, List.setIfInBounds_toArray, List.set_cons_zero, List.set_cons_succ]
        refine RegL.takeP 5 (.pointer (some ⟨w.heap.size + 1, 3, none⟩)) rfl (by kernel_rfl) (by kernel_rfl) (by kernel_rfl) (by kernel_rfl) (fun _ _ _ h => h) (RegL.SL.two (fun _ => e2) (fun _ => e3)) rfl (fun W => by go_simp) ?_
        simp only [List.getElem_toArray, List.getElem_cons_succ, List.getElem_cons_zero, Act.put, List.setIfInBounds_toArray, List.set_cons_zero, List.set_cons_succ]
        refine RegL.takeL 6 13 ⟨w.heap.size + 1, 3, none⟩ (.slice Ai is.length ci) (.slice Ai is.length ci) rfl (by kernel_rfl) (by kernel_rfl) (by kernel_rfl) (by kernel_rfl) (by kernel_rfl) rfl (by simp) (fun _ _ _ h => h) (RegL.SL.two (fun _ => e2) (fun _ => e3)) rfl (fun W hW => by go_simp) ?_
        simp only [List.getElem_toArray, List.getElem_cons_succ, List.getElem_cons_zero, Act.put, List.setIfInBounds_toArray, List.set_cons_zero, List.set_cons_succ]
        refine RegL.takeP 7 (.int .i64 (pg : Int)) rfl (by kernel_rfl) (by kernel_rfl) (by kernel_rfl) (by kernel_rfl) (fun _ _ _ h => h) (RegL.SL.two (fun _ => e2) (fun _ => e3)) rfl (fun W => by go_simp) ?_
        simp only [List.getElem_toArray, List.getElem_cons_succ, List.getElem_cons_zero, Act.put, List.setIfInBounds_toArray, List.set_cons_zero, List.set_cons_succ]
        refine RegL.two 3 8 (by kernel_rfl) ?_ ?_
        · have NRb := NR.past (w' := (wd.alloc (.cells #[.string s] 9))) ((Below.refl _ wd).alloc (Nat.le_refl _) _)
          have rl3 := row_lit1 wd 9 1 [.string s] rfl (fun v hv => by obtain rfl := List.mem_singleton.1 hv; rfl)
          have e2b : (wd.alloc (.cells #[.string s] 9)).cell? ⟨w.heap.size + 1, 2, none⟩ = some (.slice Ak ks.length ck) := by rw [NRb.b.cell]; rfl
          have e3b : (wd.alloc (.cells #[.string s] 9)).cell? ⟨w.heap.size + 1, 3, none⟩ = some (.slice Ai is.length ci) := by rw [NRb.b.cell]; rfl
          refine RegF.opV (w' := (wd.alloc (.cells #[.string s] 9))) (.slice (some ⟨wd.heap.size, 0, none⟩) 1 1) rfl rfl (by go_simp) ⟨(RegL.SL.two (fun _ => e2b) (fun _ => e3b)), ?_⟩
          simp only [List.getElem_toArray, List.getElem_cons_succ, List.getElem_cons_zero, Act.put, List.setIfInBounds_toArray, List.set_cons_zero, List.set_cons_succ]
          obtain ⟨g3, hg3⟩ : ∃ n, wd.heap.size = n := ⟨_, rfl⟩
          obtain ⟨Wb, hWb⟩ : ∃ W, (wd.alloc (.cells #[.string s] 9)) = W := ⟨_, rfl⟩
          rw [hWb] at NRb e2b e3b
          have rl3 : InG Wb Wb.heap.size 1 (some ⟨g3, 0, none⟩) 1 1 [.string s] := by rw [← hWb, ← hg3]; exact rl3
          have gl3 : wd.heap.size = g3 ∧ Below wd.heap.size wd Wb := ⟨hg3, by rw [← hWb]; exact (Below.refl _ wd).alloc (Nat.le_refl _) _⟩
          rw [hWb, hg3]
          clear hWb hg3
          refine RegL.two 4 8 (by kernel_rfl) ?_ ?_
          · refine opAppN rfl rfl elStr (.tmp 80) (.tmp 82) rfl (w.heap.size + 1 + 1) (.slice Ak ks.length ck) ks.length (skC ks) rfl NRb.k _ _ 1 1 [.string s] rfl rl3 (by unfold maxLen; omega) (by omega) (by have := NRb.b.lt; omega) ?_
            intro v4 w4 own4 hg4
            obtain ⟨A4, c4, rfl, _⟩ := ownG_in own4 (fun v hv => by rcases List.mem_append.1 hv with h | h; exact skC_one _ v h; obtain rfl := List.mem_singleton.1 h; rfl)
            have NRx := NRb.growK own4 hg4
            have e2x : w4.cell? ⟨w.heap.size + 1, 2, none⟩ = some (.slice Ak ks.length ck) := by rw [NRx.b.cell]; rfl
            have e3x : w4.cell? ⟨w.heap.size + 1, 3, none⟩ = some (.slice Ai is.length ci) := by rw [NRx.b.cell]; rfl
            refine ⟨(RegL.SL.two (fun _ => e2x) (fun _ => e3x)), ?_⟩
            simp only [List.getElem_toArray, List.getElem_cons_succ, List.getElem_cons_zero, Act.put, List.setIfInBounds_toArray, List.set_cons_zero, List.set_cons_succ]
            refine RegL.takeP 10 (.pointer (some ⟨w.heap.size + 1, 2, none⟩)) rfl (by kernel_rfl) (by kernel_rfl) (by kernel_rfl) (by kernel_rfl) (fun _ _ _ h => h) (RegL.SL.two (fun _ => e2x) (fun _ => e3x)) rfl (fun W => by go_simp) ?_
            simp only [List.getElem_toArray, List.getElem_cons_succ, List.getElem_cons_zero, Act.put, List.setIfInBounds_toArray, List.set_cons_zero, List.set_cons_succ]
            refine RegL.one 8 (by kernel_rfl) ?_
            have NRxb := NRx.past (w' := (w4.alloc (.cells #[.int .i64 (pg : Int)] 3))) ((Below.refl _ w4).alloc (Nat.le_refl _) _)
            have rl8 := row_lit1 w4 3 1 [.int .i64 (pg : Int)] rfl (fun v hv => by obtain rfl := List.mem_singleton.1 hv; rfl)
            have e2xb : (w4.alloc (.cells #[.int .i64 (pg : Int)] 3)).cell? ⟨w.heap.size + 1, 2, none⟩ = some (.slice Ak ks.length ck) := by rw [NRxb.b.cell]; rfl
            have e3xb : (w4.alloc (.cells #[.int .i64 (pg : Int)] 3)).cell? ⟨w.heap.size + 1, 3, none⟩ = some (.slice Ai is.length ci) := by rw [NRxb.b.cell]; rfl
            refine RegF.opV (w' := (w4.alloc (.cells #[.int .i64 (pg : Int)] 3))) (.slice (some ⟨w4.heap.size, 0, none⟩) 1 1) rfl rfl (by go_simp) ⟨(RegL.SL.two (fun _ => e2xb) (fun _ => e3xb)), ?_⟩
            simp only [List.getElem_toArray, List.getElem_cons_succ, List.getElem_cons_zero, Act.put, List.setIfInBounds_toArray, List.set_cons_zero, List.set_cons_succ]
            obtain ⟨g8, hg8⟩ : ∃ n, w4.heap.size = n := ⟨_, rfl⟩
            obtain ⟨Wxb, hWxb⟩ : ∃ W, (w4.alloc (.cells #[.int .i64 (pg : Int)] 3)) = W := ⟨_, rfl⟩
            rw [hWxb] at NRxb e2xb e3xb
            have rl8 : InG Wxb Wxb.heap.size 1 (some ⟨g8, 0, none⟩) 1 1 [.int .i64 (pg : Int)] := by rw [← hWxb, ← hg8]; exact rl8
            have gl8 : w4.heap.size = g8 ∧ Below w4.heap.size w4 Wxb := ⟨hg8, by rw [← hWxb]; exact (Below.refl _ w4).alloc (Nat.le_refl _) _⟩
            rw [hWxb, hg8]
            clear hWxb hg8
            refine RegL.one 9 (by kernel_rfl) ?_
            refine opAppN rfl rfl elIntC (.tmp 85) (.tmp 87) rfl (w.heap.size + 1 + 1) (.slice Ai is.length ci) is.length (ikC is) rfl NRxb.i _ _ 1 1 [.int .i64 (pg : Int)] rfl rl8 (by unfold maxLen; omega) (by omega) (by have := NRxb.b.lt; omega) ?_
            intro v9 w9 own9 hg9
            obtain ⟨A9, c9, rfl, _⟩ := ownG_in own9 (fun v hv => by rcases List.mem_append.1 hv with h | h; exact ikC_one _ v h; obtain rfl := List.mem_singleton.1 h; rfl)
            have NRy := NRxb.growI own9 hg9
            have e2y : w9.cell? ⟨w.heap.size + 1, 2, none⟩ = some (.slice Ak ks.length ck) := by rw [NRy.b.cell]; rfl
            have e3y : w9.cell? ⟨w.heap.size + 1, 3, none⟩ = some (.slice Ai is.length ci) := by rw [NRy.b.cell]; rfl
            have fy := NRy.b.free 2
            refine ⟨(RegL.SL.two (fun _ => e2y) (fun _ => e3y)), ?_⟩
            simp only [List.getElem_toArray, List.getElem_cons_succ, List.getElem_cons_zero, Act.put, List.setIfInBounds_toArray, List.set_cons_zero, List.set_cons_succ]
            have NRz := NRy.store 2 (.slice A4 (ks.length + 1) c4)
            have e3z : (w9.setCell ⟨w.heap.size + 1, 2, none⟩ (.slice A4 (ks.length + 1) c4)).cell? ⟨w.heap.size + 1, 3, none⟩ = some (.slice Ai is.length ci) := by rw [NRz.b.cell]; rfl
            have fz := NRz.b.free 3
            refine RegL.one 11 (by kernel_rfl) ?_
            refine RegF.opS (w' := w9.setCell ⟨w.heap.size + 1, 2, none⟩ (.slice A4 (ks.length + 1) c4)) rfl rfl (by go_simp) ⟨RegL.SL.two (fun h => absurd (show true = false from h) (by decide)) (fun _ => e3z), ?_⟩
            simp only [List.getElem_toArray, List.getElem_cons_succ, List.getElem_cons_zero, Act.put]
            obtain ⟨wz, hwz⟩ : ∃ W, w9.setCell ⟨w.heap.size + 1, 2, none⟩ (.slice A4 (ks.length + 1) c4) = W := ⟨_, rfl⟩
            rw [hwz] at NRz e3z fz
            rw [hwz]
            clear hwz
            refine RegL.one 12 (by kernel_rfl) ?_
            refine RegF.opV (.pointer (some ⟨w.heap.size + 1, 3, none⟩)) rfl rfl (by go_simp) ⟨RegL.SL.two (fun h => absurd (show true = false from h) (by decide)) (fun _ => e3z), ?_⟩
            simp only [List.getElem_toArray, List.getElem_cons_succ, List.getElem_cons_zero, Act.put, List.setIfInBounds_toArray, List.set_cons_zero, List.set_cons_succ]
            refine RegL.one 13 (by kernel_rfl) ?_
            refine RegF.opS (w' := wz.setCell ⟨w.heap.size + 1, 3, none⟩ (.slice A9 (is.length + 1) c9)) rfl rfl (by go_simp) ⟨RegL.SL.two (fun h => absurd (show true = false from h) (by decide)) (fun h => absurd (show true = false from h) (by decide)), ?_⟩
            simp only [List.getElem_toArray, List.getElem_cons_succ, List.getElem_cons_zero, Act.put]
            refine RegL.done (by kernel_rfl) ?_
            have NRe := NRz.store 3 (.slice A9 (is.length + 1) c9)
            have hkl : (ks ++ [s]).length = ks.length + 1 := by simp
            have hil : (is ++ [(pg : Int)]).length = is.length + 1 := by simp
            have ez : (((#[.bool false, .slice none 0 0, .slice Ak ks.length ck, .slice Ai is.length ci] : Array Value).setIfInBounds 2 (.slice A4 (ks.length + 1) c4)).setIfInBounds 3 (.slice A9 (is.length + 1) c9)) = #[.bool false, .slice none 0 0, .slice A4 (ks ++ [s]).length c4, .slice A9 (is ++ [(pg : Int)]).length c9] := by rw [hkl, hil]; rfl
            rw [ez] at NRe
            generalize wz.setCell ⟨w.heap.size + 1, 3, none⟩ (.slice A9 (is.length + 1) c9) = we at *
            clear NRz NRy NRx e2y e3y e2x e3x e3z fz fy own4 hg4 own9 hg9
            go_wp2
            exact ⟨⟨k + 1, a2, kks ++ [(s, (pg : Int))], ks ++ [s], is ++ [(pg : Int)], q2, A4, c4, A9, c9, by omega, by simp, rfl, HA2, hE2, HVn, Lib.hid (by rw [List.map_append, HKS.out]; rfl), Lib.hid (by rw [List.map_append, HIS.out]; rfl), Lib.hid (by rw [hkl, HCL.out]), NRe⟩, by simp [intOf]; omega⟩
          · have NRbb := NRb.past (w' := (Wb.alloc (.cells #[.int .i64 (pg : Int)] 3))) ((Below.refl _ Wb).alloc (Nat.le_refl _) _)
            have rl8 := row_lit1 Wb 3 1 [.int .i64 (pg : Int)] rfl (fun v hv => by obtain rfl := List.mem_singleton.1 hv; rfl)
            have e2bb : (Wb.alloc (.cells #[.int .i64 (pg : Int)] 3)).cell? ⟨w.heap.size + 1, 2, none⟩ = some (.slice Ak ks.length ck) := by rw [NRbb.b.cell]; rfl
            have e3bb : (Wb.alloc (.cells #[.int .i64 (pg : Int)] 3)).cell? ⟨w.heap.size + 1, 3, none⟩ = some (.slice Ai is.length ci) := by rw [NRbb.b.cell]; rfl
            refine RegF.opV (w' := (Wb.alloc (.cells #[.int .i64 (pg : Int)] 3))) (.slice (some ⟨Wb.heap.size, 0, none⟩) 1 1) rfl rfl (by go_simp) ⟨(RegL.SL.two (fun _ => e2bb) (fun _ => e3bb)), ?_⟩
            simp only [List.getElem_toArray, List.getElem_cons_succ, List.getElem_cons_zero, Act.put, List.setIfInBounds_toArray, List.set_cons_zero, List.set_cons_succ]
            obtain ⟨g8, hg8⟩ : ∃ n, Wb.heap.size = n := ⟨_, rfl⟩
            obtain ⟨Wbb, hWbb⟩ : ∃ W, (Wb.alloc (.cells #[.int .i64 (pg : Int)] 3)) = W := ⟨_, rfl⟩
            rw [hWbb] at NRbb e2bb e3bb
            have rl8 : InG Wbb Wbb.heap.size 1 (some ⟨g8, 0, none⟩) 1 1 [.int .i64 (pg : Int)] := by rw [← hWbb, ← hg8]; exact rl8
            have gl8 : Wb.heap.size = g8 ∧ Below Wb.heap.size Wb Wbb := ⟨hg8, by rw [← hWbb]; exact (Below.refl _ Wb).alloc (Nat.le_refl _) _⟩
            rw [hWbb, hg8]
            clear hWbb hg8
            have rl3 := rl3.grow gl8.2
            have K8 : ∀ r, (Value.slice Ak ks.length ck).ownBlock = some r → r < g8 := fun r hr => by have h1 := K8 r hr; have h2 := gl3.2.size; have h3 := gl8.1; omega
            refine RegL.one 4 (by kernel_rfl) ?_
            refine opAppN rfl rfl elStr (.tmp 80) (.tmp 82) rfl (w.heap.size + 1 + 1) (.slice Ak ks.length ck) ks.length (skC ks) rfl NRbb.k _ _ 1 1 [.string s] rfl rl3 (by unfold maxLen; omega) (by omega) (by have := NRbb.b.lt; omega) ?_
            intro v4 w4 own4 hg4
            obtain ⟨A4, c4, rfl, _⟩ := ownG_in own4 (fun v hv => by rcases List.mem_append.1 hv with h | h; exact skC_one _ v h; obtain rfl := List.mem_singleton.1 h; rfl)
            have NRx := NRbb.growK own4 hg4
            have rl8 := past_row rl8 hg4 (fun r hr => K8 r hr)
            have e2x : w4.cell? ⟨w.heap.size + 1, 2, none⟩ = some (.slice Ak ks.length ck) := by rw [NRx.b.cell]; rfl
            have e3x : w4.cell? ⟨w.heap.size + 1, 3, none⟩ = some (.slice Ai is.length ci) := by rw [NRx.b.cell]; rfl
            refine ⟨(RegL.SL.two (fun _ => e2x) (fun _ => e3x)), ?_⟩
            simp only [List.getElem_toArray, List.getElem_cons_succ, List.getElem_cons_zero, Act.put, List.setIfInBounds_toArray, List.set_cons_zero, List.set_cons_succ]
            refine RegL.takeP 10 (.pointer (some ⟨w.heap.size + 1, 2, none⟩)) rfl (by kernel_rfl) (by kernel_rfl) (by kernel_rfl) (by kernel_rfl) (fun _ _ _ h => h) (RegL.SL.two (fun _ => e2x) (fun _ => e3x)) rfl (fun W => by go_simp) ?_
            simp only [List.getElem_toArray, List.getElem_cons_succ, List.getElem_cons_zero, Act.put, List.setIfInBounds_toArray, List.set_cons_zero, List.set_cons_succ]
            refine RegL.one 9 (by kernel_rfl) ?_
            refine opAppN rfl rfl elIntC (.tmp 85) (.tmp 87) rfl (w.heap.size + 1 + 1) (.slice Ai is.length ci) is.length (ikC is) rfl NRx.i _ _ 1 1 [.int .i64 (pg : Int)] rfl rl8 (by unfold maxLen; omega) (by omega) (by have := NRx.b.lt; omega) ?_
            intro v9 w9 own9 hg9
            obtain ⟨A9, c9, rfl, _⟩ := ownG_in own9 (fun v hv => by rcases List.mem_append.1 hv with h | h; exact ikC_one _ v h; obtain rfl := List.mem_singleton.1 h; rfl)
            have NRy := NRx.growI own9 hg9
            have e2y : w9.cell? ⟨w.heap.size + 1, 2, none⟩ = some (.slice Ak ks.length ck) := by rw [NRy.b.cell]; rfl
            have e3y : w9.cell? ⟨w.heap.size + 1, 3, none⟩ = some (.slice Ai is.length ci) := by rw [NRy.b.cell]; rfl
            have fy := NRy.b.free 2
            refine ⟨(RegL.SL.two (fun _ => e2y) (fun _ => e3y)), ?_⟩
            simp only [List.getElem_toArray, List.getElem_cons_succ, List.getElem_cons_zero, Act.put, List.setIfInBounds_toArray, List.set_cons_zero, List.set_cons_succ]
            have NRz := NRy.store 2 (.slice A4 (ks.length + 1) c4)
            have e3z : (w9.setCell ⟨w.heap.size + 1, 2, none⟩ (.slice A4 (ks.length + 1) c4)).cell? ⟨w.heap.size + 1, 3, none⟩ = some (.slice Ai is.length ci) := by rw [NRz.b.cell]; rfl
            have fz := NRz.b.free 3
            refine RegL.one 11 (by kernel_rfl) ?_
            refine RegF.opS (w' := w9.setCell ⟨w.heap.size + 1, 2, none⟩ (.slice A4 (ks.length + 1) c4)) rfl rfl (by go_simp) ⟨RegL.SL.two (fun h => absurd (show true = false from h) (by decide)) (fun _ => e3z), ?_⟩
            simp only [List.getElem_toArray, List.getElem_cons_succ, List.getElem_cons_zero, Act.put]
            obtain ⟨wz, hwz⟩ : ∃ W, w9.setCell ⟨w.heap.size + 1, 2, none⟩ (.slice A4 (ks.length + 1) c4) = W := ⟨_, rfl⟩
            rw [hwz] at NRz e3z fz
            rw [hwz]
            clear hwz
            refine RegL.one 12 (by kernel_rfl) ?_
            refine RegF.opV (.pointer (some ⟨w.heap.size + 1, 3, none⟩)) rfl rfl (by go_simp) ⟨RegL.SL.two (fun h => absurd (show true = false from h) (by decide)) (fun _ => e3z), ?_⟩
            simp only [List.getElem_toArray, List.getElem_cons_succ, List.getElem_cons_zero, Act.put, List.setIfInBounds_toArray, List.set_cons_zero, List.set_cons_succ]
            refine RegL.one 13 (by kernel_rfl) ?_
            refine RegF.opS (w' := wz.setCell ⟨w.heap.size + 1, 3, none⟩ (.slice A9 (is.length + 1) c9)) rfl rfl (by go_simp) ⟨RegL.SL.two (fun h => absurd (show true = false from h) (by decide)) (fun h => absurd (show true = false from h) (by decide)), ?_⟩
            simp only [List.getElem_toArray, List.getElem_cons_succ, List.getElem_cons_zero, Act.put]
            refine RegL.done (by kernel_rfl) ?_
            have NRe := NRz.store 3 (.slice A9 (is.length + 1) c9)
            have hkl : (ks ++ [s]).length = ks.length + 1 := by simp
            have hil : (is ++ [(pg : Int)]).length = is.length + 1 := by simp
            have ez : (((#[.bool false, .slice none 0 0, .slice Ak ks.length ck, .slice Ai is.length ci] : Array Value).setIfInBounds 2 (.slice A4 (ks.length + 1) c4)).setIfInBounds 3 (.slice A9 (is.length + 1) c9)) = #[.bool false, .slice none 0 0, .slice A4 (ks ++ [s]).length c4, .slice A9 (is ++ [(pg : Int)]).length c9] := by rw [hkl, hil]; rfl
            rw [ez] at NRe
            generalize wz.setCell ⟨w.heap.size + 1, 3, none⟩ (.slice A9 (is.length + 1) c9) = we at *
            clear NRz NRy NRx e2y e3y e2x e3x e3z fz fy own4 hg4 own9 hg9
            go_wp2
            exact ⟨⟨k + 1, a2, kks ++ [(s, (pg : Int))], ks ++ [s], is ++ [(pg : Int)], q2, A4, c4, A9, c9, by omega, by simp, rfl, HA2, hE2, HVn, Lib.hid (by rw [List.map_append, HKS.out]; rfl), Lib.hid (by rw [List.map_append, HIS.out]; rfl), Lib.hid (by rw [hkl, HCL.out]), NRe⟩, by simp [intOf]; omega⟩
        · have NRb := NR.past (w' := (wd.alloc (.cells #[.int .i64 (pg : Int)] 3))) ((Below.refl _ wd).alloc (Nat.le_refl _) _)
          have rl8 := row_lit1 wd 3 1 [.int .i64 (pg : Int)] rfl (fun v hv => by obtain rfl := List.mem_singleton.1 hv; rfl)
          have e2b : (wd.alloc (.cells #[.int .i64 (pg : Int)] 3)).cell? ⟨w.heap.size + 1, 2, none⟩ = some (.slice Ak ks.length ck) := by rw [NRb.b.cell]; rfl
          have e3b : (wd.alloc (.cells #[.int .i64 (pg : Int)] 3)).cell? ⟨w.heap.size + 1, 3, none⟩ = some (.slice Ai is.length ci) := by rw [NRb.b.cell]; rfl
          refine RegF.opV (w' := (wd.alloc (.cells #[.int .i64 (pg : Int)] 3))) (.slice (some ⟨wd.heap.size, 0, none⟩) 1 1) rfl rfl (by go_simp) ⟨(RegL.SL.two (fun _ => e2b) (fun _ => e3b)), ?_⟩
          simp only [List.getElem_toArray, List.getElem_cons_succ, List.getElem_cons_zero, Act.put, List.setIfInBounds_toArray, List.set_cons_zero, List.set_cons_succ]
          obtain ⟨g8, hg8⟩ : ∃ n, wd.heap.size = n := ⟨_, rfl⟩
          obtain ⟨Wb, hWb⟩ : ∃ W, (wd.alloc (.cells #[.int .i64 (pg : Int)] 3)) = W := ⟨_, rfl⟩
          rw [hWb] at NRb e2b e3b
          have rl8 : InG Wb Wb.heap.size 1 (some ⟨g8, 0, none⟩) 1 1 [.int .i64 (pg : Int)] := by rw [← hWb, ← hg8]; exact rl8
          have gl8 : wd.heap.size = g8 ∧ Below wd.heap.size wd Wb := ⟨hg8, by rw [← hWb]; exact (Below.refl _ wd).alloc (Nat.le_refl _) _⟩
          rw [hWb, hg8]
          clear hWb hg8
          refine RegL.one 3 (by kernel_rfl) ?_
          have NRbb := NRb.past (w' := (Wb.alloc (.cells #[.string s] 9))) ((Below.refl _ Wb).alloc (Nat.le_refl _) _)
          have rl3 := row_lit1 Wb 9 1 [.string s] rfl (fun v hv => by obtain rfl := List.mem_singleton.1 hv; rfl)
          have e2bb : (Wb.alloc (.cells #[.string s] 9)).cell? ⟨w.heap.size + 1, 2, none⟩ = some (.slice Ak ks.length ck) := by rw [NRbb.b.cell]; rfl
          have e3bb : (Wb.alloc (.cells #[.string s] 9)).cell? ⟨w.heap.size + 1, 3, none⟩ = some (.slice Ai is.length ci) := by rw [NRbb.b.cell]; rfl
          refine RegF.opV (w' := (Wb.alloc (.cells #[.string s] 9))) (.slice (some ⟨Wb.heap.size, 0, none⟩) 1 1) rfl rfl (by go_simp) ⟨(RegL.SL.two (fun _ => e2bb) (fun _ => e3bb)), ?_⟩
          simp only [List.getElem_toArray, List.getElem_cons_succ, List.getElem_cons_zero, Act.put, List.setIfInBounds_toArray, List.set_cons_zero, List.set_cons_succ]
          obtain ⟨g3, hg3⟩ : ∃ n, Wb.heap.size = n := ⟨_, rfl⟩
          obtain ⟨Wbb, hWbb⟩ : ∃ W, (Wb.alloc (.cells #[.string s] 9)) = W := ⟨_, rfl⟩
          rw [hWbb] at NRbb e2bb e3bb
          have rl3 : InG Wbb Wbb.heap.size 1 (some ⟨g3, 0, none⟩) 1 1 [.string s] := by rw [← hWbb, ← hg3]; exact rl3
          have gl3 : Wb.heap.size = g3 ∧ Below Wb.heap.size Wb Wbb := ⟨hg3, by rw [← hWbb]; exact (Below.refl _ Wb).alloc (Nat.le_refl _) _⟩
          rw [hWbb, hg3]
          clear hWbb hg3
          have rl8 := rl8.grow gl3.2
          have K8 : ∀ r, (Value.slice Ak ks.length ck).ownBlock = some r → r < g8 := fun r hr => by have h1 := K8 r hr; have h3 := gl8.1; omega
          refine RegL.one 4 (by kernel_rfl) ?_
          refine opAppN rfl rfl elStr (.tmp 80) (.tmp 82) rfl (w.heap.size + 1 + 1) (.slice Ak ks.length ck) ks.length (skC ks) rfl NRbb.k _ _ 1 1 [.string s] rfl rl3 (by unfold maxLen; omega) (by omega) (by have := NRbb.b.lt; omega) ?_
          intro v4 w4 own4 hg4
          obtain ⟨A4, c4, rfl, _⟩ := ownG_in own4 (fun v hv => by rcases List.mem_append.1 hv with h | h; exact skC_one _ v h; obtain rfl := List.mem_singleton.1 h; rfl)
          have NRx := NRbb.growK own4 hg4
          have rl8 := past_row rl8 hg4 (fun r hr => K8 r hr)
          have e2x : w4.cell? ⟨w.heap.size + 1, 2, none⟩ = some (.slice Ak ks.length ck) := by rw [NRx.b.cell]; rfl
          have e3x : w4.cell? ⟨w.heap.size + 1, 3, none⟩ = some (.slice Ai is.length ci) := by rw [NRx.b.cell]; rfl
          refine ⟨(RegL.SL.two (fun _ => e2x) (fun _ => e3x)), ?_⟩
          simp only [List.getElem_toArray, List.getElem_cons_succ, List.getElem_cons_zero, Act.put, List.setIfInBounds_toArray, List.set_cons_zero, List.set_cons_succ]
          refine RegL.takeP 10 (.pointer (some ⟨w.heap.size + 1, 2, none⟩)) rfl (by kernel_rfl) (by kernel_rfl) (by kernel_rfl) (by kernel_rfl) (fun _ _ _ h => h) (RegL.SL.two (fun _ => e2x) (fun _ => e3x)) rfl (fun W => by go_simp) ?_
          simp only [List.getElem_toArray, List.getElem_cons_succ, List.getElem_cons_zero, Act.put, List.setIfInBounds_toArray, List.set_cons_zero, List.set_cons_succ]
          refine RegL.one 9 (by kernel_rfl) ?_
          refine opAppN rfl rfl elIntC (.tmp 85) (.tmp 87) rfl (w.heap.size + 1 + 1) (.slice Ai is.length ci) is.length (ikC is) rfl NRx.i _ _ 1 1 [.int .i64 (pg : Int)] rfl rl8 (by unfold maxLen; omega) (by omega) (by have := NRx.b.lt; omega) ?_
          intro v9 w9 own9 hg9
          obtain ⟨A9, c9, rfl, _⟩ := ownG_in own9 (fun v hv => by rcases List.mem_append.1 hv with h | h; exact ikC_one _ v h; obtain rfl := List.mem_singleton.1 h; rfl)
          have NRy := NRx.growI own9 hg9
          have e2y : w9.cell? ⟨w.heap.size + 1, 2, none⟩ = some (.slice Ak ks.length ck) := by rw [NRy.b.cell]; rfl
          have e3y : w9.cell? ⟨w.heap.size + 1, 3, none⟩ = some (.slice Ai is.length ci) := by rw [NRy.b.cell]; rfl
          have fy := NRy.b.free 2
          refine ⟨(RegL.SL.two (fun _ => e2y) (fun _ => e3y)), ?_⟩
          simp only [List.getElem_toArray, List.getElem_cons_succ, List.getElem_cons_zero, Act.put, List.setIfInBounds_toArray, List.set_cons_zero, List.set_cons_succ]
          have NRz := NRy.store 2 (.slice A4 (ks.length + 1) c4)
          have e3z : (w9.setCell ⟨w.heap.size + 1, 2, none⟩ (.slice A4 (ks.length + 1) c4)).cell? ⟨w.heap.size + 1, 3, none⟩ = some (.slice Ai is.length ci) := by rw [NRz.b.cell]; rfl
          have fz := NRz.b.free 3
          refine RegL.one 11 (by kernel_rfl) ?_
          refine RegF.opS (w' := w9.setCell ⟨w.heap.size + 1, 2, none⟩ (.slice A4 (ks.length + 1) c4)) rfl rfl (by go_simp) ⟨RegL.SL.two (fun h => absurd (show true = false from h) (by decide)) (fun _ => e3z), ?_⟩
          simp only [List.getElem_toArray, List.getElem_cons_succ, List.getElem_cons_zero, Act.put]
          obtain ⟨wz, hwz⟩ : ∃ W, w9.setCell ⟨w.heap.size + 1, 2, none⟩ (.slice A4 (ks.length + 1) c4) = W := ⟨_, rfl⟩
          rw [hwz] at NRz e3z fz
          rw [hwz]
          clear hwz
          refine RegL.one 12 (by kernel_rfl) ?_
          refine RegF.opV (.pointer (some ⟨w.heap.size + 1, 3, none⟩)) rfl rfl (by go_simp) ⟨RegL.SL.two (fun h => absurd (show true = false from h) (by decide)) (fun _ => e3z), ?_⟩
          simp only [List.getElem_toArray, List.getElem_cons_succ, List.getElem_cons_zero, Act.put, List.setIfInBounds_toArray, List.set_cons_zero, List.set_cons_succ]
          refine RegL.one 13 (by kernel_rfl) ?_
          refine RegF.opS (w' := wz.setCell ⟨w.heap.size + 1, 3, none⟩ (.slice A9 (is.length + 1) c9)) rfl rfl (by go_simp) ⟨RegL.SL.two (fun h => absurd (show true = false from h) (by decide)) (fun h => absurd (show true = false from h) (by decide)), ?_⟩
          simp only [List.getElem_toArray, List.getElem_cons_succ, List.getElem_cons_zero, Act.put]
          refine RegL.done (by kernel_rfl) ?_
          have NRe := NRz.store 3 (.slice A9 (is.length + 1) c9)
          have hkl : (ks ++ [s]).length = ks.length + 1 := by simp
          have hil : (is ++ [(pg : Int)]).length = is.length + 1 := by simp
          have ez : (((#[.bool false, .slice none 0 0, .slice Ak ks.length ck, .slice Ai is.length ci] : Array Value).setIfInBounds 2 (.slice A4 (ks.length + 1) c4)).setIfInBounds 3 (.slice A9 (is.length + 1) c9)) = #[.bool false, .slice none 0 0, .slice A4 (ks ++ [s]).length c4, .slice A9 (is ++ [(pg : Int)]).length c9] := by rw [hkl, hil]; rfl
          rw [ez] at NRe
          generalize wz.setCell ⟨w.heap.size + 1, 3, none⟩ (.slice A9 (is.length + 1) c9) = we at *
          clear NRz NRy NRx e2y e3y e2x e3x e3z fz fy own4 hg4 own9 hg9
          go_wp2
          exact ⟨⟨k + 1, a2, kks ++ [(s, (pg : Int))], ks ++ [s], is ++ [(pg : Int)], q2, A4, c4, A9, c9, by omega, by simp, rfl, HA2, hE2, HVn, Lib.hid (by rw [List.map_append, HKS.out]; rfl), Lib.hid (by rw [List.map_append, HIS.out]; rfl), Lib.hid (by rw [hkl, HCL.out]), NRe⟩, by simp [intOf]; omega⟩
    · obtain rfl : k = many := by omega
      cases q with
      | none =>
        obtain rfl : a = -1 := HA.out
        go_wp2_with (refine wp_storeW rfl 76 (.tmp 2) (.tmp 125) rfl w.heap.size rfl rfl rowNod hz (by rfl) (by rfl) (four_oneC rfl rfl rfl rfl) ?_)
        exact bodyPost_ret (results_cellW_tmp 2 3 rfl rfl rfl rowNod (hz.setRow _) (by rfl)) rfl (HNo.out (no_rest HH.out HV.out) _ (below_setRow hBw (Nat.le_refl _) _))
      | some lk =>
        have hal : 0 ≤ a := by rw [HA.out]; exact posO_some ⟨lk, rfl⟩
        have hal' : ¬ a < 0 := by omega
        have HFIN : rdRest false (b.drop 1) = some ⟨false, [], ks, is⟩ := by rw [HKS.out, HIS.out]; exact HV.out.fin
        have hrest := HFIN
        have hn := nr.nis false
        have hsm : ks.length ≤ 512 ∧ is.length ≤ 512 := by have h1 := (rdRest_small hrest).2.2; have h2 := HLB.out; rw [List.length_drop] at h1; simp only at h1; omega
        by_cases hR : RightP (⟨false, [], ks, is⟩ : Nod)
        · by_cases hf : (laidB (⟨false, [], ks, is⟩ : Nod)).length ≤ 512
          · have HE := renc_ok wr (⟨false, [], ks, is⟩ : Nod) none 0 Ak ck Ai ci hn (by show 0 ≤ _; omega) (by show ks.length ≤ _; omega) (by show is.length ≤ _; omega) hR hf
            have hfl : (laidB (⟨false, [], ks, is⟩ : Nod) ++ List.replicate (512 - (laidB (⟨false, [], ks, is⟩ : Nod)).length) (0 : UInt8)).length = 512 := by rw [List.length_append, List.length_replicate]; omega
            have HFit : laidB (⟨false, [], ks, is⟩ : Nod) ++ List.replicate (512 - (laidB (⟨false, [], ks, is⟩ : Nod)).length) (0 : UInt8) = b → Hid (FitsIn (⟨false, [], ks, is⟩ : Nod) b) := fun e => Lib.hid ⟨hR, hf, e⟩
            have HNof : ¬ laidB (⟨false, [], ks, is⟩ : Nod) ++ List.replicate (512 - (laidB (⟨false, [], ks, is⟩ : Nod)).length) (0 : UInt8) = b → Hid (∀ y, rdNod b = some y → ¬ FitsIn y b) := fun e => Lib.hid (no_diff HH.out hrest fun hF => e hF.2.2)
            unfold EncOut nodC at HE
            simp only at HE
            generalize laidB (⟨false, [], ks, is⟩ : Nod) ++ List.replicate (512 - (laidB (⟨false, [], ks, is⟩ : Nod)).length) (0 : UInt8) = full at *
            have HREST := Lib.hid hrest
            have HFL := Lib.hid hfl
            clear hrest hR hf hfl
            go_upto_region 28 with (first
              | (refine wp_loadW rfl 76 (.tmp 4) rfl (w.heap.size + 1) rfl rowNod nr.b (by rfl) ?_)
              | (go_at_call 132; refine HE.mono ?_; rintro e w5 ⟨A5, c5, rfl, in5, hB5⟩))
            have b5 := nr.b.below hB5 nr.b.lt
            have z5 := hz.below hB5 hz.lt
            have n5 := nr.past hB5
            have hBw5 := hBw.trans (hB5.mono hBw.size)
            have s5 := in5.string
            rw [HFL.out] at s5
            have sb := ((h.below hBw5).more hBw5.size).string
            by_cases he : full = b
            · have HF := HFit he
              subst he
              generalize str full = st at *
              clear HFit HNof in5 HE
              go_wp2_with (first
                | (refine wp_loadW rfl 76 (.tmp 4) rfl (w.heap.size + 1) rfl rowNod b5 (by rfl) ?_)
                | (refine wp_storeW rfl 76 (.tmp 2) (.tmp 141) rfl w.heap.size rfl rfl rowNod z5 (by rfl) (by rfl) (four_oneC rfl rfl rfl rfl) ?_))
              have hn5 := (n5.nis false).keepAt (w' := w5.setRow w.heap.size #[.bool false, .slice none 0 0, .slice Ak ks.length ck, .slice Ai is.length ci]) n5.rows (by simp [World.setRow]) (fun r hr => setRow_other _ _ r _ (by omega))
              exact bodyPost_ret (results_cellW_tmp 2 3 rfl rfl rfl rowNod (z5.setRow _) (by rfl)) rfl (HYes.out _ (yes_rest HREST.out rfl HF.out) HF.out _ _ ⟨none, 0, Ak, ck, Ai, ci, rfl, hn5, below_setRow hBw5 (Nat.le_refl _) _⟩)
            · have HNF := HNof he
              have hse2 : ((str full).toList == (str b).toList) = false := by rw [ByteArray.toList_eq, ByteArray.toList_eq, str_data, str_data]; simpa using he
              have hse : ¬ (str full).toList = (str b).toList := by simpa using hse2
              generalize str full = st1 at *
              generalize str b = st2 at *
              clear HFit HNof in5 HE he
              go_wp2_with (refine wp_storeW rfl 76 (.tmp 2) (.tmp 140) rfl w.heap.size rfl rfl rowNod z5 (by rfl) (by rfl) (four_oneC rfl rfl rfl rfl) ?_)
              exact bodyPost_ret (results_cellW_tmp 2 3 rfl rfl rfl rowNod (z5.setRow _) (by rfl)) rfl (HNo.out (HNF.out) _ (below_setRow hBw5 (Nat.le_refl _) _))
          · have HE := renc_long wr (⟨false, [], ks, is⟩ : Nod) none 0 Ak ck Ai ci hn (by show 0 ≤ _; omega) (by show ks.length ≤ _; omega) (by show is.length ≤ _; omega) hR (by omega)
            have HNF := Lib.hid (no_diff HH.out hrest fun hF => hf hF.2.1)
            unfold EncNo nodC at HE
            simp only at HE
            clear hrest hR hf
            go_wp2_with (first
              | (refine wp_loadW rfl 76 (.tmp 4) rfl (w.heap.size + 1) rfl rowNod nr.b (by rfl) ?_)
              | (go_at_call 132; refine HE.mono ?_; rintro e w5 ⟨rfl, hB5⟩; have z5 := hz.below hB5 hz.lt; have hBw5 := hBw.trans (hB5.mono hBw.size))
              | (refine wp_storeW rfl 76 (.tmp 2) (.tmp 140) rfl w.heap.size rfl rfl rowNod z5 (by rfl) (by rfl) (four_oneC rfl rfl rfl rfl) ?_))
            exact bodyPost_ret (results_cellW_tmp 2 3 rfl rfl rfl rowNod (z5.setRow _) (by rfl)) rfl (HNo.out (HNF.out) _ (below_setRow hBw5 (Nat.le_refl _) _))
        · have HE := renc_bad wr (⟨false, [], ks, is⟩ : Nod) none 0 Ak ck Ai ci hn (by show 0 ≤ _; omega) (by show ks.length ≤ _; omega) (by show is.length ≤ _; omega) hR
          have HNF := Lib.hid (no_diff HH.out hrest fun hF => hR hF.1)
          unfold EncNo nodC at HE
          simp only at HE
          clear hrest hR
          go_wp2_with (first
            | (refine wp_loadW rfl 76 (.tmp 4) rfl (w.heap.size + 1) rfl rowNod nr.b (by rfl) ?_)
            | (go_at_call 132; refine HE.mono ?_; rintro e w5 ⟨rfl, hB5⟩; have z5 := hz.below hB5 hz.lt; have hBw5 := hBw.trans (hB5.mono hBw.size))
            | (refine wp_storeW rfl 76 (.tmp 2) (.tmp 140) rfl w.heap.size rfl rfl rowNod z5 (by rfl) (by rfl) (four_oneC rfl rfl rfl rfl) ?_))
          exact bodyPost_ret (results_cellW_tmp 2 3 rfl rfl rfl rowNod (z5.setRow _) (by rfl)) rfl (HNo.out (HNF.out) _ (below_setRow hBw5 (Nat.le_refl _) _))
end Go.Proofs.Ytlelckdcmlpmdaa
/- louperef12: Same, of two nodes that hold the same. -/
namespace Go.Proofs.Ytlelckdcmlpmdaa
open Go Go.RowKit Lou

theorem same_at {w wr : World} {B g o n c : Nat} {cs : List Cel} (h : InG w B 4 (some ⟨g, o, none⟩) n c (clC cs)) (hn : n = cs.length) (k : Nat) (hk : k < cs.length) (hB : Below B w wr) :
    wr.cell? ⟨g, o + k * 4, none⟩ = some (.string cs[k].key) ∧ wr.cell? ⟨g, o + k * 4 + 1, none⟩ = some (.string cs[k].val) ∧ wr.cell? ⟨g, o + k * 4 + 2, none⟩ = some (.int .i64 cs[k].page) ∧ wr.cell? ⟨g, o + k * 4 + 3, none⟩ = some (.int .i64 cs[k].size) := by
  obtain ⟨g', o', e, hg, _⟩ := h.lies (by omega)
  injection e with e
  injection e with e1 e2
  subst e1 e2
  have hr : wr.rangeAt g (o + k * 4) (celC cs[k]) := fun j v hj => (hB.cell (p := ⟨g, o + k * 4 + j, none⟩) hg).trans (cel_at h hn k hk j v hj)
  exact ⟨hr 0 _ rfl, hr 1 _ rfl, hr 2 _ rfl, hr 3 _ rfl⟩
/-- The world in which Same has its boxes. -/
def sameW (w : World) (cs ds : Array Value) : World := (w.alloc (.cells cs 76)).alloc (.cells ds 76)
theorem sameW_is (w : World) (cs ds : Array Value) : BlkIs (sameW w cs ds) w.heap.size 76 cs ∧ BlkIs (sameW w cs ds) (w.heap.size + 1) 76 ds ∧ Below w.heap.size w (sameW w cs ds) := by
  have b0 := BlkIs.new w 76 cs
  have b2 := BlkIs.new (w.alloc (.cells cs 76)) 76 ds
  rw [World.size_alloc] at b2
  exact ⟨b0.alloc _, b2, ((Below.refl _ w).alloc (Nat.le_refl _) _).alloc (by simp) _⟩
set_option maxRecDepth 100000 in
set_option maxHeartbeats 4000000 in
theorem same12_gives (w : World) (x : Nod) (Ac : Option Addr) (cc : Nat) (Ak : Option Addr) (ck : Nat) (Ai : Option Addr) (ci : Nat) (Bc : Option Addr) (dc : Nat) (Bk : Option Addr) (dk : Nat) (Bi : Option Addr) (di : Nat) (h : NIs w w.heap.size x Ac cc Ak ck Ai ci) (h' : NIs w w.heap.size x Bc dc Bk dk Bi di) (hl : x.cells.length ≤ 1000000) (hl2 : x.keys.length ≤ 1000000) (hl3 : x.kids.length ≤ 1000001) :
    Calls Try.prog 68 #[.agg (nodC x Ac cc Ak ck Ai ci), .agg (nodC x Bc dc Bk dk Bi di)] w fun e w' => e = .returned (.bool true) ∧ Below w.heap.size w w' := by
  obtain ⟨b1, b2, hB1⟩ := sameW_is w (nodC x Ac cc Ak ck Ai ci) (nodC x Bc dc Bk dk Bi di)
  obtain ⟨leaf, cells, keys, kids⟩ := x
  unfold nodC at *
  simp only at *
  obtain ⟨W1, hW1⟩ : ∃ W1, W1 = sameW w #[.bool leaf, .slice Ac cells.length cc, .slice Ak keys.length ck, .slice Ai kids.length ci] #[.bool leaf, .slice Bc cells.length dc, .slice Bk keys.length dk, .slice Bi kids.length di] := ⟨_, rfl⟩
  rw [← hW1] at b1 b2 hB1
  unfold sameW at hW1
  have hc := h.c.below hB1
  have hk := h.k.below hB1
  have hi := h.i.below hB1
  have hc' := h'.c.below hB1
  have hk' := h'.k.below hB1
  have hi' := h'.i.below hB1
  have hcl := hc.le
  have hkl := hk.le
  have hil := hi.le
  have hcl' := hc'.le
  have hkl' := hk'.le
  have hil' := hi'.le
  simp only at hcl hkl hil hcl' hkl' hil'
  have a0 : W1.cell? ⟨w.heap.size, 0, none⟩ = some (.bool leaf) := by rw [b1.cell]; rfl
  have a1 : W1.cell? ⟨w.heap.size, 1, none⟩ = some (.slice Ac cells.length cc) := by rw [b1.cell]; rfl
  have a2 : W1.cell? ⟨w.heap.size, 2, none⟩ = some (.slice Ak keys.length ck) := by rw [b1.cell]; rfl
  have a3 : W1.cell? ⟨w.heap.size, 3, none⟩ = some (.slice Ai kids.length ci) := by rw [b1.cell]; rfl
  have e0 : W1.cell? ⟨w.heap.size + 1, 0, none⟩ = some (.bool leaf) := by rw [b2.cell]; rfl
  have e1 : W1.cell? ⟨w.heap.size + 1, 1, none⟩ = some (.slice Bc cells.length dc) := by rw [b2.cell]; rfl
  have e2 : W1.cell? ⟨w.heap.size + 1, 2, none⟩ = some (.slice Bk keys.length dk) := by rw [b2.cell]; rfl
  have e3 : W1.cell? ⟨w.heap.size + 1, 3, none⟩ = some (.slice Bi kids.length di) := by rw [b2.cell]; rfl
  have hs1 : w.heap.size + 1 < W1.heap.size := b2.lt
  have hsz : w.heap.size ≤ W1.heap.size := hB1.size
  have hc := hc.more hsz
  have hk := hk.more hsz
  have hi := hi.more hsz
  have hc' := hc'.more hsz
  have hk' := hk'.more hsz
  have hi' := hi'.more hsz
  clear h h'
  have HW1 := Lib.hid hW1
  clear hW1 b1 b2
  go_enter Try.func68, Try.ntmps68
  go_upto_region 1 with fail
  rw [← HW1.out]
  clear HW1
  have hp3 : w.heap.size < W1.heap.size := by omega
  have hkeep : ∀ (wr : World), Below W1.heap.size W1 wr → ∀ q j v, q < W1.heap.size → W1.cell? ⟨q, j, none⟩ = some v → wr.cell? ⟨q, j, none⟩ = some v := fun wr hB q j v hq h => (hB.cell (p := ⟨q, j, none⟩) hq).trans h
  go_wp2
  go_loopw [5] (fun i wr => ∃ k : Nat, k ≤ cells.length ∧ i = .int .i64 k ∧ Below W1.heap.size W1 wr) (fun i _ => cells.length - (intOf i).toNat)
  case atStart => exact ⟨0, by omega, rfl, Below.refl _ _⟩
  case round =>
    obtain ⟨k, hk0, rfl, hBr⟩ := hrel
    have c1 := hkeep wr hBr _ _ _ hp3 a1
    have d1 := hkeep wr hBr _ _ _ hs1 e1
    by_cases hlt : k < cells.length
    · obtain ⟨g, o, rfl, hg, _⟩ := hc.lies (by omega)
      obtain ⟨g', o', rfl, hg', _⟩ := hc'.lies (by omega)
      obtain ⟨u0, u1, u2, u3⟩ := same_at hc rfl k hlt hBr
      obtain ⟨v0, v1, v2, v3⟩ := same_at hc' rfl k hlt hBr
      have i1 : (0 : Int) ≤ (k : Int) := by omega
      have i2 : (k : Int) < (cells.length : Int) := by omega
      have hwk : IntKind.i64.wrap ((k : Int) + 1) = (k : Int) + 1 := wrapN _ (by omega) (by omega)
      generalize cells[k] = x at *
      obtain ⟨xk, xv, xp, xz⟩ := x
      simp only at u0 u1 u2 u3 v0 v1 v2 v3
      go_wp2
      go_quiet (fail)
      go_wp2
      exact ⟨⟨k + 1, by omega, by simp, (below_drewN hBr _)⟩, by simp [intOf]; omega⟩
    · obtain rfl : k = cells.length := by omega
      go_wp2
      go_loopw [6] (fun i wr => ∃ k : Nat, k ≤ keys.length ∧ i = .int .i64 k ∧ Below W1.heap.size W1 wr) (fun i _ => keys.length - (intOf i).toNat)
      case atStart => exact ⟨0, by omega, rfl, hBr⟩
      case round =>
        clear c1 d1 hBr
        obtain ⟨k, hk1, rfl, hBr⟩ := hrel
        have c1 := hkeep wr hBr _ _ _ hp3 a2
        have d1 := hkeep wr hBr _ _ _ hs1 e2
        by_cases hlt : k < keys.length
        · obtain ⟨g, o, rfl, hg, _⟩ := hk.lies (by omega)
          obtain ⟨g', o', rfl, hg', _⟩ := hk'.lies (by omega)
          have u0 : wr.cell? ⟨g, o + k, none⟩ = some (.string keys[k]) := (hBr.cell (p := ⟨g, o + k, none⟩) hg).trans (str_at hk rfl k hlt)
          have v0 : wr.cell? ⟨g', o' + k, none⟩ = some (.string keys[k]) := (hBr.cell (p := ⟨g', o' + k, none⟩) hg').trans (str_at hk' rfl k hlt)
          have i1 : (0 : Int) ≤ (k : Int) := by omega
          have i2 : (k : Int) < (keys.length : Int) := by omega
          have hwk : IntKind.i64.wrap ((k : Int) + 1) = (k : Int) + 1 := wrapN _ (by omega) (by omega)
          generalize keys[k] = x at *
          go_wp2
          go_quiet (fail)
          go_wp2
          exact ⟨⟨k + 1, by omega, by simp, (below_drewN hBr _)⟩, by simp [intOf]; omega⟩
        · obtain rfl : k = keys.length := by omega
          go_wp2
          go_loopw [7] (fun i wr => ∃ k : Nat, k ≤ kids.length ∧ i = .int .i64 k ∧ Below W1.heap.size W1 wr) (fun i _ => kids.length - (intOf i).toNat)
          case atStart => exact ⟨0, by omega, rfl, hBr⟩
          case round =>
            clear c1 d1 hBr
            obtain ⟨k, hk1, rfl, hBr⟩ := hrel
            have c1 := hkeep wr hBr _ _ _ hp3 a3
            have d1 := hkeep wr hBr _ _ _ hs1 e3
            by_cases hlt : k < kids.length
            · obtain ⟨g, o, rfl, hg, _⟩ := hi.lies (by omega)
              obtain ⟨g', o', rfl, hg', _⟩ := hi'.lies (by omega)
              have u0 : wr.cell? ⟨g, o + k, none⟩ = some (.int .i64 kids[k]) := (hBr.cell (p := ⟨g, o + k, none⟩) hg).trans (int_atN hi rfl k hlt)
              have v0 : wr.cell? ⟨g', o' + k, none⟩ = some (.int .i64 kids[k]) := (hBr.cell (p := ⟨g', o' + k, none⟩) hg').trans (int_atN hi' rfl k hlt)
              have i1 : (0 : Int) ≤ (k : Int) := by omega
              have i2 : (k : Int) < (kids.length : Int) := by omega
              have hwk : IntKind.i64.wrap ((k : Int) + 1) = (k : Int) + 1 := wrapN _ (by omega) (by omega)
              generalize kids[k] = x at *
              go_wp2
              go_quiet (fail)
              go_wp2
              exact ⟨⟨k + 1, by omega, by simp, (below_drewN hBr _)⟩, by simp [intOf]; omega⟩
            · obtain rfl : k = kids.length := by omega
              go_wp2
              go_ret
              exact ⟨rfl, hB1.trans (hBr.mono hB1.size)⟩
end Go.Proofs.Ytlelckdcmlpmdaa
/- louperef12.Find. -/
namespace Go.Proofs.Ytlelckdcmlpmdaa
open Go Go.RowKit Lou

set_option maxRecDepth 100000 in
set_option maxHeartbeats 400000 in
theorem refFind_gives (w : World) (x : Nod) (Ac : Option Addr) (cc : Nat) (Ak : Option Addr) (ck : Nat) (Ai : Option Addr) (ci : Nat) (h : NIs w w.heap.size x Ac cc Ak ck Ai ci) (hl : x.cells.length ≤ 1000000) (hl2 : x.keys.length ≤ 1000000) (key : ByteArray) :
    Calls Try.prog 49 #[.agg (nodC x Ac cc Ak ck Ai ci), .string key] w (FindOut w x key) := by
  have b0 := BlkIs.new w 76 (nodC x Ac cc Ak ck Ai ci)
  have hB : Below w.heap.size w (w.alloc (.cells (nodC x Ac cc Ak ck Ai ci) 76)) := (Below.refl _ w).alloc (Nat.le_refl _) _
  have HK := refKeys_gives _ x Ac cc Ak ck Ai ci (h.grow hB) hl
  have hln := nkeys_len hl hl2
  unfold FindOut
  obtain ⟨leaf, cells, keys, kids⟩ := x
  generalize nkeys ⟨leaf, cells, keys, kids⟩ = ks at *
  unfold nodC at *
  clear hl hl2 h
  cases leaf with
  | false =>
    go_enter Try.func49, Try.ntmps49
    go_wp2_with (first
      | (refine wp_loadW rfl 76 (.tmp 2) rfl w.heap.size rfl rowNod b0 (by rfl) ?_)
      | (go_at_call 50; refine HK.mono ?_; rintro e w2 ⟨A, c, rfl, hin, hB2⟩; have k0 : w2.cell? ⟨w.heap.size, 0, none⟩ = some (.bool false) := (hB2.cell (p := ⟨w.heap.size, 0, none⟩) b0.lt).trans (by rw [b0.cell]; rfl)))
    have hle := hin.le
    go_loopw [7, 8] (fun v i wr => ∃ (k : Nat), k ≤ ks.length ∧ i = .int .i64 k ∧ v = .int .i64 (cntLe key (ks.take k) : Int) ∧ wr = w2) (fun _ i _ => ks.length - (intOf i).toNat)
    case atStart => exact ⟨0, by omega, rfl, rfl, rfl⟩
    case round =>
      obtain ⟨k, hkl, rfl, rfl, rfl⟩ := hrel
      by_cases hlt : k < ks.length
      · obtain ⟨g, o, rfl, hg, _⟩ := hin.lies (by omega)
        have d0 := str_at hin rfl k hlt
        have hnx := cntLe_next key ks k hlt
        have hm := cntLe_le key (ks.take k)
        have hm2 : (ks.take k).length ≤ k := List.length_take_le _ _
        generalize ks[k] = s at *
        generalize cntLe key (ks.take k) = m at *
        have HN := Lib.hid hnx
        clear hnx
        have hwk : IntKind.i64.wrap ((k : Int) + 1) = (k : Int) + 1 := wrapN _ (by omega) (by omega)
        have hwm : IntKind.i64.wrap ((m : Int) + 1) = (m : Int) + 1 := wrapN _ (by omega) (by omega)
        by_cases hs : leS s key = true
        · have hs' : Op.bytesLess s.toList key.toList = true ∨ (s.toList == key.toList) = true := by simpa [leS] using hs
          clear hm hm2
          go_wp2
          all_goals first
            | (exfalso; rename_i hx; (rcases hs' with h | h <;> simp [h] at hx); done)
            | exact ⟨⟨k + 1, by omega, by simp, by rw [HN.out, if_pos hs]; simp, by simp⟩, by simp [intOf]; omega⟩
        · have hs' : ¬ (Op.bytesLess s.toList key.toList = true ∨ (s.toList == key.toList) = true) := by simpa [leS] using hs
          clear hm hm2
          go_wp2
          exact ⟨⟨k + 1, by omega, by simp, by rw [HN.out, if_neg hs]; simp, by simp⟩, by simp [intOf]; omega⟩
      · obtain rfl : k = ks.length := by omega
        rw [List.take_length]
        go_wp2
        exact bodyPost_ret (results_tmp2 rfl _ _ _) rfl ⟨rfl, hB.trans (hB2.mono hB.size)⟩
  | true =>
    go_enter Try.func49, Try.ntmps49
    go_wp2_with (first
      | (refine wp_loadW rfl 76 (.tmp 2) rfl w.heap.size rfl rowNod b0 (by rfl) ?_)
      | (go_at_call 50; refine HK.mono ?_; rintro e w2 ⟨A, c, rfl, hin, hB2⟩; have k0 : w2.cell? ⟨w.heap.size, 0, none⟩ = some (.bool true) := (hB2.cell (p := ⟨w.heap.size, 0, none⟩) b0.lt).trans (by rw [b0.cell]; rfl)))
    have hle := hin.le
    go_loopw [7] (fun i wr => ∃ (k : Nat), k ≤ ks.length ∧ i = .int .i64 k ∧ (∀ j, (h : j < ks.length) → j < k → ltS ks[j] key = true) ∧ wr = w2) (fun i _ => ks.length - (intOf i).toNat)
    case atStart => exact ⟨0, by omega, rfl, fun j _ h => by omega, rfl⟩
    case round =>
      obtain ⟨k, hkl, rfl, hall, rfl⟩ := hrel
      by_cases hlt : k < ks.length
      · obtain ⟨g, o, rfl, hg, _⟩ := hin.lies (by omega)
        have d0 := str_at hin rfl k hlt
        have hnx : ltS ks[k] key = true → ∀ j, (h : j < ks.length) → j < k + 1 → ltS ks[j] key = true := fun h1 j hj hjk => by
          by_cases e : j = k
          · subst e; exact h1
          · exact hall j hj (by omega)
        have hend : ltS ks[k] key = false → frontLt key ks = k := fun h1 => frontLt_at key ks k hkl hall (fun _ => h1)
        have hget : ks[k]? = some ks[k] := List.getElem?_eq_getElem hlt
        generalize ks[k] = s at *
        have hwk : IntKind.i64.wrap ((k : Int) + 1) = (k : Int) + 1 := wrapN _ (by omega) (by omega)
        cases hs : ltS s key with
        | true =>
          have hs' : Op.bytesLess s.toList key.toList = true := hs
          have HX := Lib.hid (hnx hs)
          clear hnx hend hall hget hs
          go_wp2
          exact ⟨⟨k + 1, by omega, by simp, HX.out, by simp⟩, by simp [intOf]; omega⟩
        | false =>
          have hs' : Op.bytesLess s.toList key.toList = false := hs
          have HX := Lib.hid (hend hs)
          have HG := Lib.hid hget
          clear hnx hend hall hget hs
          go_wp2
          go_region
          go_wp2
          have e1 : findAt true ks key = k := HX.out
          have e2 : findIs true ks key = (s.toList == key.toList) := by
            unfold findIs
            rw [HX.out, HG.out]
            rfl
          exact bodyPost_ret (results_tmp2 rfl _ _ _) rfl ⟨by rw [e1, e2]; rfl, hB.trans (hB2.drew.mono hB.size)⟩
      · obtain rfl : k = ks.length := by omega
        have HX := Lib.hid (frontLt_at key ks ks.length hkl hall (fun h => absurd h hlt))
        clear hall
        go_wp2
        go_region
        go_wp2
        have e1 : findAt true ks key = ks.length := HX.out
        have e2 : findIs true ks key = false := by
          unfold findIs
          rw [HX.out, List.getElem?_eq_none (Nat.le_refl _)]
          rfl
        exact bodyPost_ret (results_tmp2 rfl _ _ _) rfl ⟨by rw [e1, e2]; rfl, hB.trans (hB2.drew.mono hB.size)⟩
end Go.Proofs.Ytlelckdcmlpmdaa
/- loupelaw12: works. -/
namespace Go.Proofs.Ytlelckdcmlpmdaa
open Go Go.RowKit Lou

theorem num12_gives (w : World) (n : Int) : Calls Try.prog 54 #[.int .i64 n] w fun e w' => e = .returned (.int .i64 n) ∧ w = w' := by
  go_enter Try.func54, Try.ntmps54
  go_wp2
  go_ret
  exact ⟨rfl, rfl⟩
def ndA : Nod := ⟨true, [⟨str [97], str [120], 0, 0⟩], [], []⟩
def ndB : Nod := ⟨false, [], [str [98]], [3, 4]⟩
theorem row_lit (w : World) (T : TypeId) (n sz : Nat) (cs : List Value) (hn : cs.length = n * sz) (hm : n ≤ 9223372036854775807) (h1 : ∀ v ∈ cs, v.oneCell' = true) : InG (w.alloc (.cells cs.toArray T)) (w.alloc (.cells cs.toArray T)).heap.size sz (some ⟨w.heap.size, 0, none⟩) n n cs :=
  ⟨Nat.le_refl _, hm, (fun e => by cases e), hn, h1, fun _ => ⟨w.heap.size, 0, rfl, by simp, fun j v hj => by
    rw [(BlkIs.new w T cs.toArray).cell, Nat.zero_add]
    simpa using hj⟩⟩
theorem ndA_is (w : World) : NIs (w.alloc (.cells #[.string (str [97]), .string (str [120]), .int .i64 0, .int .i64 0] 205)) (w.alloc (.cells #[.string (str [97]), .string (str [120]), .int .i64 0, .int .i64 0] 205)).heap.size ndA (some ⟨w.heap.size, 0, none⟩) 1 none 0 none 0 :=
  ⟨row_lit w 205 1 4 (clC ndA.cells) rfl (by decide) (clC_one _), InG.mt _ _ _, InG.mt _ _ _⟩
theorem ndB_is (w : World) : NIs ((w.alloc (.cells #[.string (str [98])] 9)).alloc (.cells #[.int .i64 3, .int .i64 4] 3)) ((w.alloc (.cells #[.string (str [98])] 9)).alloc (.cells #[.int .i64 3, .int .i64 4] 3)).heap.size ndB none 0 (some ⟨w.heap.size, 0, none⟩) 1 (some ⟨w.heap.size + 1, 0, none⟩) 2 :=
  ⟨InG.mt _ _ _, (row_lit w 9 1 1 (skC ndB.keys) rfl (by decide) (skC_one _)).grow ((Below.refl _ _).alloc (Nat.le_refl _) _), by
    have := row_lit (w.alloc (.cells #[.string (str [98])] 9)) 3 2 1 (ikC ndB.kids) rfl (by decide) (ikC_one _)
    have e := World.size_alloc w (.cells #[.string (str [98])] 9)
    rw [e] at this
    exact this⟩
theorem ndA_right : RightP ndA := by
  refine ⟨fun j h => ?_, fun j h => ?_, fun s hs => ?_, fun _ => ⟨rfl, rfl, fun c hc => ?_⟩, fun h => by cases h⟩
  · simp [nkeys, ndA] at h
  · simp [nkeys, ndA] at h
  · simp [nkeys, ndA] at hs
    subst hs
    decide +kernel
  · simp [ndA] at hc
    subst hc
    decide +kernel
theorem ndB_right : RightP ndB := by
  refine ⟨fun j h => ?_, fun j h => ?_, fun s hs => ?_, (fun h => by cases h), fun _ => ⟨rfl, by decide, by decide, fun i hi => ?_⟩⟩
  · simp [nkeys, ndB] at h
  · simp [nkeys, ndB] at h
  · simp [nkeys, ndB] at hs
    subst hs
    decide +kernel
  · simp [ndB] at hi
    rcases hi with rfl | rfl <;> decide +kernel
theorem ndA_laid : laidB ndA = [1, 1, 1, 97, 0, 1, 120] := by decide +kernel
theorem ndB_laid : laidB ndB = [2, 1, 3, 1, 98, 4] := by decide +kernel
set_option maxRecDepth 100000 in
set_option maxHeartbeats 4000000 in
theorem works12_gives (w : World) : Calls Try.prog 47 #[] w fun e w' => e = .returned (.bool true) ∧ Below w.heap.size w w' := by
  go_enter Try.func47, Try.ntmps47
  go_wp2_with fail
  refine (encode_ok _ ndA (some ⟨w.heap.size, 0, none⟩) 1 none 0 none 0 (ndA_is w) (by decide) (by decide) (by decide) ndA_right (by rw [ndA_laid]; decide)).mono ?_
  rintro x W1 ⟨A1, c1, rfl, hin1, hB1⟩
  have hB01 := ((Below.refl _ w).alloc (Nat.le_refl _) _).trans (hB1.mono (by rw [World.size_alloc]; omega))
  go_wp2_with fail
  refine (bytes_ok _ ndA (some ⟨W1.heap.size, 0, none⟩) 1 none 0 none 0 (ndA_is W1) (by decide) (by decide) (by decide) ndA_right).mono ?_
  rintro x W2 ⟨rfl, hB2⟩
  have hB12 : Below W1.heap.size W1 W2 := ((Below.refl _ W1).alloc (Nat.le_refl _) _).trans (hB2.mono (by rw [World.size_alloc]; omega))
  go_wp2_with fail
  have b0 := BlkIs.new ((W2.alloc (.cells #[.string (str [98])] 9)).alloc (.cells #[.int .i64 3, .int .i64 4] 3)) 76 (nodC ndB none 0 (some ⟨W2.heap.size, 0, none⟩) 1 (some ⟨W2.heap.size + 1, 0, none⟩) 2)
  rw [World.size_alloc, World.size_alloc] at b0
  have n3 := (ndB_is W2).grow ((Below.refl _ _).alloc (Nat.le_refl _) (.cells (nodC ndB none 0 (some ⟨W2.heap.size, 0, none⟩) 1 (some ⟨W2.heap.size + 1, 0, none⟩) 2) 76))
  have hB23 : Below W2.heap.size W2 (((W2.alloc (.cells #[.string (str [98])] 9)).alloc (.cells #[.int .i64 3, .int .i64 4] 3)).alloc (.cells (nodC ndB none 0 (some ⟨W2.heap.size, 0, none⟩) 1 (some ⟨W2.heap.size + 1, 0, none⟩) 2) 76)) := (((Below.refl _ W2).alloc (Nat.le_refl _) _).alloc (by simp) _).alloc (by simp; omega) _
  refine (encode_ok _ ndB none 0 (some ⟨W2.heap.size, 0, none⟩) 1 (some ⟨W2.heap.size + 1, 0, none⟩) 2 n3 (by decide) (by decide) (by decide) ndB_right (by rw [ndB_laid]; decide)).mono ?_
  rintro x W4 ⟨A4, c4, rfl, hin4, hB4⟩
  have b4 := b0.below hB4 b0.lt
  have n4 := n3.grow hB4
  have hB24 := hB23.trans (hB4.mono hB23.size)
  go_wp2_with (refine wp_loadW rfl 76 (.tmp 5) rfl (W2.heap.size + 1 + 1) rfl rowNod b4 (by rfl) ?_)
  refine (find_gives _ ndB none 0 (some ⟨W2.heap.size, 0, none⟩) 1 (some ⟨W2.heap.size + 1, 0, none⟩) 2 n4 (by decide) (by decide) (str [98])).mono ?_
  rintro x W5 ⟨rfl, hB5⟩
  have b5 := b4.below hB5 b4.lt
  have n5 := n4.grow hB5
  have hB25 := hB24.trans (hB5.mono hB24.size)
  go_wp2_with (refine wp_loadW rfl 76 (.tmp 5) rfl (W2.heap.size + 1 + 1) rfl rowNod b5 (by rfl) ?_)
  refine (find_gives _ ndB none 0 (some ⟨W2.heap.size, 0, none⟩) 1 (some ⟨W2.heap.size + 1, 0, none⟩) 2 n5 (by decide) (by decide) (str [97])).mono ?_
  rintro x W6 ⟨rfl, hB6⟩
  have hB26 := hB25.trans (hB6.mono hB25.size)
  have hB16 := hB12.trans (hB26.mono hB12.size)
  have hB46 := hB5.trans (hB6.mono hB5.size)
  have hB06 := hB01.trans (hB16.mono hB01.size)
  have e1 : findAt ndB.leaf (nkeys ndB) (str [98]) = 1 := by decide +kernel
  have e2 : findAt ndB.leaf (nkeys ndB) (str [97]) = 0 := by decide +kernel
  have t1 : (laidB ndA ++ List.replicate (512 - (laidB ndA).length) 0).take 7 = [1, 1, 1, 97, 0, 1, 120] := by decide +kernel
  have t4 : (laidB ndB ++ List.replicate (512 - (laidB ndB).length) 0).take 6 = [2, 1, 3, 1, 98, 4] := by decide +kernel
  have hle1 := hin1.le
  have hle4 := hin4.le
  have hl1 : (laidB ndA ++ List.replicate (512 - (laidB ndA).length) (0 : UInt8)).length = 512 := by decide +kernel
  have hl4 : (laidB ndB ++ List.replicate (512 - (laidB ndB).length) (0 : UInt8)).length = 512 := by decide +kernel
  rw [hl1] at hle1
  rw [hl4] at hle4
  have m1 := ((hin1.below hB16).take 7 c1 (by omega) (by omega) (Nat.le_refl _)).string
  have m4 := ((hin4.below hB46).take 6 c4 (by omega) (by omega) (Nat.le_refl _)).string
  rw [t1] at m1
  rw [t4] at m4
  have e3 : ((laidB ndA).length : Int) = 7 := by rw [ndA_laid]; rfl
  rw [e1, e2, e3]
  have g1 : (7 : Int) ≤ (c1 : Int) := by omega
  have g4 : (6 : Int) ≤ (c4 : Int) := by omega
  replace m1 : (convert 30 9 (.slice A1 7 c1)).run Try.prog W6 = .ok (.string (str [1, 1, 1, 97, 0, 1, 120])) W6 := m1
  replace m4 : (convert 30 9 (.slice A4 6 c4)).run Try.prog W6 = .ok (.string (str [2, 1, 3, 1, 98, 4])) W6 := m4
  clear hl1 hl4 t1 t4 e1 e2 e3
  have s1 : (str [1, 1, 1, 97, 0, 1, 120]).toList = [1, 1, 1, 97, 0, 1, 120] := by decide +kernel
  have s4 : (str [2, 1, 3, 1, 98, 4]).toList = [2, 1, 3, 1, 98, 4] := by decide +kernel
  go_wp2_with (go_at_call 54; refine (num12_gives _ _).mono ?_; rintro x W ⟨rfl, rfl⟩)
  go_ret
  exact ⟨rfl, hB06⟩
end Go.Proofs.Ytlelckdcmlpmdaa
/- loupelaw12.NodeReads: the law's walk. -/
namespace Go.Proofs.Ytlelckdcmlpmdaa
open Go Go.RowKit Lou

theorem newRowN (W : World) (zs cs : Array Value) : BlkIs ((W.alloc (.cells zs 76)).setRow W.heap.size cs) W.heap.size 76 cs ∧ Below W.heap.size W ((W.alloc (.cells zs 76)).setRow W.heap.size cs) :=
  ⟨(BlkIs.new W 76 zs).setRow cs, below_setRow ((Below.refl _ W).alloc (Nat.le_refl _) _) (Nat.le_refl _) _⟩
/-- louperef12.Decode, whatever bytes. -/
theorem rdec_gives (w : World) (A : Option Addr) (c : Nat) (b : List UInt8) (h : InB w w.heap.size A c b) : Calls Try.prog 67 #[.slice A b.length c] w (DecSpec w b) := by
  by_cases hl : b.length = 512
  · obtain ⟨g, o, rfl, _⟩ := h.lies (by omega)
    cases hb : b.head? with
    | none => cases b with
      | nil => cases hl
      | cons x t => cases hb
    | some u =>
      by_cases h1 : u = 1
      · subst h1
        exact rdec_leaf w g o c b h hl hb
      · by_cases h2 : u = 2
        · subst h2
          exact rdec_inner w g o c b h hl hb
        · exact rdec_head w g o c b h hl u hb h1 h2
  · exact rdec_len w A c b hl
def DecAns (w : World) (y : Nod) (k : Int) (e : Ending) (w' : World) : Prop := ∃ Ac cc Ak ck Ai ci, e = .returned (.tuple #[.agg #[.bool y.leaf, .slice Ac y.cells.length cc, .slice Ak y.keys.length ck, .slice Ai y.kids.length ci], .int .i64 k]) ∧ NIs w' w'.heap.size y Ac cc Ak ck Ai ci ∧ Below w.heap.size w w'
theorem DecNo.ans {w w' : World} {e : Ending} (h : DecNo w e w') : DecAns w ⟨false, [], [], []⟩ 220 e w' :=
  ⟨none, 0, none, 0, none, 0, h.1, ⟨InG.mt _ _ _, InG.mt _ _ _, InG.mt _ _ _⟩, h.2⟩
/-- Both Decodes tell the same. -/
theorem both_tell (b : List UInt8) : ∃ (y : Nod) (k : Int), y.cells.length ≤ b.length ∧ y.keys.length ≤ b.length ∧ y.kids.length ≤ b.length + 1 ∧ ∀ (w w' : World) (e : Ending), DecSpec w b e w' → DecAns w y k e w' := by
  by_cases hx : ∃ x, rdNod b = some x ∧ FitsIn x b
  · obtain ⟨x, h1, h2⟩ := hx
    obtain ⟨s1, s2, s3⟩ := rdNod_small h1
    refine ⟨x, 0, s1, s2, s3, fun w w' e hd => ?_⟩
    rcases hd with ⟨x', h3, _, h4⟩ | ⟨h3, _⟩
    · rw [h1] at h3
      injection h3 with h3
      subst h3
      exact h4
    · exact absurd h2 (h3 x h1)
  · refine ⟨⟨false, [], [], []⟩, 220, Nat.zero_le _, Nat.zero_le _, Nat.zero_le _, fun w w' e hd => ?_⟩
    rcases hd with ⟨x', h3, h4, _⟩ | ⟨_, h4⟩
    · exact absurd ⟨x', h3, h4⟩ hx
    · exact h4.ans
set_option maxRecDepth 100000 in
set_option maxHeartbeats 4000000 in
theorem lawNReads (w : World) (A : Option Addr) (c : Nat) (l : List UInt8) (h : InB w w.heap.size A c l) :
    Calls Try.prog 11 #[.slice A l.length c] w fun e w' => e = .returned (.bool true) ∧ Below w.heap.size w w' := by
  by_cases hl : 600 < l.length
  · have hl' : (600 : Int) < (l.length : Int) := by omega
    go_enter Try.func11, Try.ntmps11
    go_wp2_with (go_at_call 47; refine (works12_gives _).mono ?_; rintro e W3 ⟨rfl, hB3⟩)
    go_ret
    exact ⟨rfl, hB3⟩
  · have hl' : ¬ (600 : Int) < (l.length : Int) := by omega
    obtain ⟨y, k, s1, s2, s3, HT⟩ := both_tell l
    have H1 : Calls Try.prog 66 #[.slice A l.length c] w (DecAns w y k) := (decode_gives w A c l h).mono fun e w' hd => HT w w' e hd
    have H2 : ∀ W, Below w.heap.size w W → Calls Try.prog 67 #[.slice A l.length c] W (DecAns W y k) := fun W hW => (rdec_gives W A c l ((h.below hW).more hW.size)).mono fun e w' hd => HT W w' e hd
    unfold DecAns at H1 H2
    have HS := fun (W : World) (Ac : Option Addr) (cc : Nat) (Ak : Option Addr) (ck : Nat) (Ai : Option Addr) (ci : Nat) (Bc : Option Addr) (dc : Nat) (Bk : Option Addr) (dk : Nat) (Bi : Option Addr) (di : Nat) h1 h2 => same12_gives W y Ac cc Ak ck Ai ci Bc dc Bk dk Bi di h1 h2 (by omega) (by omega) (by omega)
    unfold nodC at HS
    obtain ⟨leaf, cells, keys, kids⟩ := y
    simp only at *
    clear s1 s2 s3 HT hl
    go_enter Try.func11, Try.ntmps11
    go_upto_region 4 with (first
      | (go_at_call 66; refine H1.mono ?_; rintro e w2 ⟨Ac, cc, Ak, ck, Ai, ci, rfl, n2, hB2⟩)
      | (refine wp_storeW rfl 76 (.tmp 3) (.tmp 14) rfl w2.heap.size rfl rfl rowNod (BlkIs.new w2 76 #[.bool false, .slice none 0 0, .slice none 0 0, .slice none 0 0]) (by rfl) (by rfl) (four_oneC rfl rfl rfl rfl) ?_))
    obtain ⟨b3, hB3⟩ := newRowN w2 #[.bool false, .slice none 0 0, .slice none 0 0, .slice none 0 0] #[.bool leaf, .slice Ac cells.length cc, .slice Ak keys.length ck, .slice Ai kids.length ci]
    have n3 := n2.grow hB3
    have hB03 := hB2.trans (hB3.mono hB2.size)
    generalize (w2.alloc (.cells #[.bool false, .slice none 0 0, .slice none 0 0, .slice none 0 0] 76)).setRow w2.heap.size #[.bool leaf, .slice Ac cells.length cc, .slice Ak keys.length ck, .slice Ai kids.length ci] = w3 at *
    clear n2 hB3 hB2 H1
    generalize w2.heap.size = p1 at *
    go_upto_region 5 with (first
      | (go_at_call 67; refine (H2 _ hB03).mono ?_; rintro e w4 ⟨Bc, dc, Bk, dk, Bi, di, rfl, n4, hB4⟩)
      | (refine wp_storeW rfl 76 (.tmp 5) (.tmp 19) rfl w4.heap.size rfl rfl rowNod (BlkIs.new w4 76 #[.bool false, .slice none 0 0, .slice none 0 0, .slice none 0 0]) (by rfl) (by rfl) (four_oneC rfl rfl rfl rfl) ?_))
    obtain ⟨b5, hB5⟩ := newRowN w4 #[.bool false, .slice none 0 0, .slice none 0 0, .slice none 0 0] #[.bool leaf, .slice Bc cells.length dc, .slice Bk keys.length dk, .slice Bi kids.length di]
    have n5 := n4.grow hB5
    have m5 := (n3.grow hB4).grow hB5
    have b35 := (b3.below hB4 b3.lt).below hB5 (Nat.lt_of_lt_of_le b3.lt hB4.size)
    have hB04 := hB03.trans (hB4.mono hB03.size)
    have hB05 := hB04.trans (hB5.mono hB04.size)
    generalize (w4.alloc (.cells #[.bool false, .slice none 0 0, .slice none 0 0, .slice none 0 0] 76)).setRow w4.heap.size #[.bool leaf, .slice Bc cells.length dc, .slice Bk keys.length dk, .slice Bi kids.length di] = w5 at *
    clear n4 n3 b3 hB5 hB4 hB04 hB03 H2
    generalize w4.heap.size = p2 at *
    have HS := HS w5 Ac cc Ak ck Ai ci Bc dc Bk dk Bi di m5 n5
    go_wp2_with (first
      | (refine wp_loadW rfl 76 (.tmp 3) rfl p1 rfl rowNod b35 (by rfl) ?_)
      | (refine wp_loadW rfl 76 (.tmp 5) rfl p2 rfl rowNod b5 (by rfl) ?_)
      | (go_at_call 68; refine HS.mono ?_; rintro e w6 ⟨rfl, hB6⟩)
      | (go_at_call 54; refine (num12_gives _ _).mono ?_; rintro e w7 ⟨rfl, rfl⟩)
      | (go_at_call 47; refine (works12_gives _).mono ?_; rintro e w8 ⟨rfl, hB8⟩))
    go_ret
    have hB06 := hB05.trans (hB6.mono hB05.size)
    exact ⟨rfl, hB06.trans (hB8.mono hB06.size)⟩
end Go.Proofs.Ytlelckdcmlpmdaa
