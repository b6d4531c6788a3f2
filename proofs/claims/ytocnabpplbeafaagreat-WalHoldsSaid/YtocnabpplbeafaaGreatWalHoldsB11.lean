/- Texts that the proof of WalHolds leans on, part 11. -/
import Derived.Test.YtocnabpplbeafaaGreatWalHoldsB10
/- wal: the things that Append of one page does, one behind the other. -/
namespace Go.Proofs.YtocnabpplbeafaaGreat
open Go Go.RowKit Lou

section
variable (w : World) (l d many lb mb szb : Nat) (g : Nat → List UInt8) (xs : List (Nat × List UInt8)) (left : Int) (fr pg : Int) (sr ep : Nat) (sz : Int)
def apFs (lb mb szb d : Nat) : List FnV := [⟨48, #[], #[.pointer (some ⟨mb, 0, none⟩), .pointer (some ⟨lb, 0, none⟩)]⟩, ⟨52, #[.pointer (some ⟨d, 0, none⟩)], #[]⟩, ⟨53, #[], #[.pointer (some ⟨lb, 0, none⟩), .pointer (some ⟨mb, 0, none⟩)]⟩, ⟨54, #[], #[.pointer (some ⟨mb, 0, none⟩), .pointer (some ⟨szb, 0, none⟩), .pointer (some ⟨lb, 0, none⟩)]⟩]
def apCs (lb mb szb d : Nat) : Array Value := #[.func (.func 48) #[] #[.pointer (some ⟨mb, 0, none⟩), .pointer (some ⟨lb, 0, none⟩)], .func (.func 52) #[.pointer (some ⟨d, 0, none⟩)] #[], .func (.func 53) #[] #[.pointer (some ⟨lb, 0, none⟩), .pointer (some ⟨mb, 0, none⟩)], .func (.func 54) #[] #[.pointer (some ⟨mb, 0, none⟩), .pointer (some ⟨szb, 0, none⟩), .pointer (some ⟨lb, 0, none⟩)]]
set_option maxRecDepth 100000 in
set_option maxHeartbeats 8000000 in
theorem appS_gives (fg fc : Nat) (p : Int) (s : Int) (Ay : Option Addr) (ky : Nat) (y : List UInt8) (hD : DkIs w d many g xs left false) (hl : xs.length ≤ 800000) (h1l : -1000000 ≤ left) (h2l : left ≤ 9223372036854775807) (hlg : BlkIs w l 57 (lgC (some ⟨d, 0, none⟩) fr pg sr ep sz none 0 0)) (hlb : BlkIs w lb 33 #[.pointer (some ⟨l, 0, none⟩)]) (hmb : BlkIs w mb 55 #[.slice (some ⟨fg, 0, none⟩) 1 fc]) (hsb : BlkIs w szb 3 #[.int .i64 s])
    (hfc : 1 ≤ fc) (hfm : fc ≤ 9223372036854775807) (hfr : w.rangeAt fg 0 (frCells ep 0 p true s 0 Ay y.length ky).toList) (hfg : fg < w.heap.size) (hy : InB w w.heap.size Ay ky y) (hlby : ∀ g o, Ay = some ⟨g, o, none⟩ → 0 < y.length → g ≠ d)
    (hld : l ≠ d) (hlbd : lb ≠ d) (hmbd : mb ≠ d) (hsbd : szb ≠ d) (hfgd : fg ≠ d) (n1 : l ≠ lb) (n2 : l ≠ mb) (n3 : l ≠ szb) (hpl : plE (planOk fr pg) 0 fr = 0) (hok : frOk y.length 0 p true s = true) (hoh : headOk sz 1 = true) (hm11 : 11 ≤ many) (hmax : many ≤ 1000000) (hsr : sr + 1 < 18446744073709551616) :
    Calls Tryz.prog 47 #[.slice (some ⟨w.heap.size, 0, none⟩) 4 4] (w.alloc (.cells (apCs lb mb szb d) 42)) fun e w' => e = .returned (.int .i64 0) ∧ (∃ g', DkIs w' d many g' [] left false) ∧ BlkIs w' l 57 (lgC (some ⟨d, 0, none⟩) fr pg (sr + 1) ep s (some ⟨fg, 0, none⟩) 1 fc) ∧ GrowBut (fun k => k = d ∨ k = l) w w' := by
  have hdl := hD.lt
  have hll := hlg.lt
  have q1 := hlb.lt
  have q2 := hmb.lt
  have q3 := hsb.lt
  obtain ⟨V, hV⟩ : ∃ V, V = w.alloc (.cells (apCs lb mb szb d) 42) := ⟨_, rfl⟩
  have hBV : Below w.heap.size w V := by rw [hV]; exact (Below.refl _ w).alloc (Nat.le_refl _) _
  have f0 : BlkIs V w.heap.size 42 (apCs lb mb szb d) := by rw [hV]; exact BlkIs.new w _ _
  rw [← hV]
  clear hV
  have HS := steps_gives V w.heap.size 4 (apFs lb mb szb d)
    (fun k W => (BlkIs W lb 33 #[.pointer (some ⟨l, 0, none⟩)] ∧ BlkIs W mb 55 #[.slice (some ⟨fg, 0, none⟩) 1 fc] ∧ BlkIs W szb 3 #[.int .i64 s] ∧ BlkIs W w.heap.size 42 (apCs lb mb szb d) ∧ GrowBut (fun k => k = d ∨ k = l) w W) ∧
      (k = 0 → W = V) ∧
      (k = 1 → (∃ xs', xs'.length ≤ xs.length + 9 ∧ DkIs W d many g xs' left false) ∧ BlkIs W l 57 (lgC (some ⟨d, 0, none⟩) fr pg sr ep sz none 0 0)) ∧
      (k = 2 → (∃ g', DkIs W d many g' [] left false) ∧ BlkIs W l 57 (lgC (some ⟨d, 0, none⟩) fr pg sr ep sz none 0 0)) ∧
      (k = 3 → (∃ g', DkIs W d many g' [] left false) ∧ BlkIs W l 57 (lgC (some ⟨d, 0, none⟩) fr pg (sr + 1) ep sz none 0 0)) ∧
      (k = 4 → (∃ g', DkIs W d many g' [] left false) ∧ BlkIs W l 57 (lgC (some ⟨d, 0, none⟩) fr pg (sr + 1) ep s (some ⟨fg, 0, none⟩) 1 fc)))
    (fun _ _ => False) (by show 4 ≤ 100; omega)
    (by
      rintro k hk W ⟨⟨_, _, _, h4, _⟩, _⟩
      rw [h4.cell]
      match k, hk with
      | 0, _ => rfl
      | 1, _ => rfl
      | 2, _ => rfl
      | 3, _ => rfl
      | k + 4, h => exact absurd h (by simp [apFs]))
    (by
      rintro k hk W ⟨⟨h1, h2, h3, h4, h5⟩, r0, r1, r2, r3, _⟩
      have hsz := h5.size
      have m0 : some lb ≠ some d := fun e => by injection e with e; exact hlbd e
      have m1 : some mb ≠ some d := fun e => by injection e with e; exact hmbd e
      have m2 : some szb ≠ some d := fun e => by injection e with e; exact hsbd e
      have m3 : some w.heap.size ≠ some d := fun e => by injection e with e; omega
      have m4 : some l ≠ some d := fun e => by injection e with e; exact hld e
      match k, hk with
      | 0, _ =>
        obtain rfl := r0 rfl
        refine ⟨enters_of Tryz.func48 (by kernel_rfl) rfl, (app1_gives W l d many lb mb g xs left fr pg sr ep sz 0 fg fc ep p true s 0 Ay ky y (hD.grow hBV) (by omega) h1l h2l (hlg.below hBV hll) h1 h2 hfc hfm (fun j v hj => (hBV.cell (p := ⟨fg, 0 + j, none⟩) hfg).trans (hfr j v hj)) (Nat.lt_of_lt_of_le hfg hBV.size) ((hy.below hBV).more hBV.size) hlby hld hlbd hmbd hfgd hpl hok hm11 hmax).mono ?_⟩
        rintro e w2 ⟨rfl, hx, hg2⟩
        exact .inl ⟨rfl, ⟨h1.grown hg2 m0, h2.grown hg2 m1, h3.grown hg2 m2, h4.grown hg2 m3, h5.trans (GrowBut.grown hg2 (fun r e => by cases e; exact .inl (.inl rfl)))⟩, (fun e => by cases e), (fun _ => ⟨hx, (hlg.below hBV hll).grown hg2 m4⟩), (fun e => by cases e), (fun e => by cases e), (fun e => by cases e)⟩
      | 1, _ =>
        obtain ⟨⟨xs', hxl, hDw⟩, hlw⟩ := r1 rfl
        refine ⟨enters_of Tryz.func52 (by kernel_rfl) rfl, (sync_gives W d many g _ left false hDw rfl (by omega) h1l h2l).mono ?_⟩
        rintro e w2 ⟨rfl, hD2, hg2⟩
        exact .inl ⟨rfl, ⟨h1.grown hg2 m0, h2.grown hg2 m1, h3.grown hg2 m2, h4.grown hg2 m3, h5.trans (GrowBut.grown hg2 (fun r e => by cases e; exact .inl (.inl rfl)))⟩, (fun e => by cases e), (fun e => by cases e), (fun _ => ⟨⟨_, hD2⟩, hlw.grown hg2 m4⟩), (fun e => by cases e), (fun e => by cases e)⟩
      | 2, _ =>
        obtain ⟨⟨g', hDw⟩, hlw⟩ := r2 rfl
        refine ⟨enters_of Tryz.func53 (by kernel_rfl) rfl, (app2_gives W l d many lb mb g' [] left fr pg sr ep sz none 0 0 (some ⟨fg, 0, none⟩) 1 fc hDw (by decide) h1l h2l hlw h1 h2 hld hoh (by omega) hmax hsr).mono ?_⟩
        rintro e w2 ⟨rfl, hD2, hl2, hG2⟩
        have z (q : Nat) (hq : q ≠ d) (hq2 : l ≠ q) : ¬ (q = d ∨ q = l) := fun e => by rcases e with e | e; exact hq e; exact hq2 e.symm
        exact .inl ⟨rfl, ⟨hG2.blk h1 (z _ hlbd n1), hG2.blk h2 (z _ hmbd n2), hG2.blk h3 (z _ hsbd n3), hG2.blk h4 (z _ (by omega) (by omega)), h5.trans hG2⟩, (fun e => by cases e), (fun e => by cases e), (fun e => by cases e), (fun _ => ⟨hD2, hl2⟩), (fun e => by cases e)⟩
      | 3, _ =>
        obtain ⟨⟨g', hDw⟩, hlw⟩ := r3 rfl
        refine ⟨enters_of Tryz.func54 (by kernel_rfl) rfl, (app3_gives W l lb mb fr pg (sr + 1) ep sz szb (some ⟨d, 0, none⟩) none 0 0 (some ⟨fg, 0, none⟩) 1 fc s hlw h1 h2 h3 n1 n2 n3).mono ?_⟩
        rintro e w2 ⟨rfl, rfl, hl2⟩
        have hld' : d ≠ l := fun e => hld e.symm
        have hl1 := hlw.drew.set 6 (.slice (some ⟨fg, 0, none⟩) 1 fc)
        have z : w.heap.size ≠ l := by omega
        exact .inl ⟨rfl, ⟨(h1.drew.other (fun e => n1 e.symm) _).other (fun e => n1 e.symm) _, (h2.drew.other (fun e => n2 e.symm) _).other (fun e => n2 e.symm) _, (h3.drew.other (fun e => n3 e.symm) _).other (fun e => n3 e.symm) _, (h4.drew.other z _).other z _,
          ((h5.trans (GrowBut.grown (grownBy_drew W none) (fun r e => by cases e))).trans (GrowBut.setCell _ _ _ (.inr rfl))).trans (GrowBut.setCell _ _ _ (.inr rfl))⟩, (fun e => by cases e), (fun e => by cases e), (fun e => by cases e), (fun e => by cases e), (fun _ => ⟨⟨g', ((hDw.grow (Below.refl _ _).drew).setOther hlw.drew (by show 7 ≤ 64; decide) hld' _ _ rfl).setOther hl1 (by simp; show 7 ≤ 64; decide) hld' _ _ rfl⟩, hl2⟩)⟩
      | k + 4, h => exact absurd h (by simp [apFs]))
    ⟨⟨hlb.below hBV q1, hmb.below hBV q2, hsb.below hBV q3, f0, GrowBut.below hBV⟩, (fun _ => rfl), (fun e => by cases e), (fun e => by cases e), (fun e => by cases e), (fun e => by cases e)⟩
  refine HS.mono ?_
  rintro e w2 (⟨rfl, ⟨_, _, _, _, h5⟩, _, _, _, _, r4⟩ | ⟨x, _, _, hx⟩)
  · obtain ⟨r5, r6⟩ := r4 rfl
    exact ⟨rfl, r5, r6, h5⟩
  · exact hx.elim
end
end Go.Proofs.YtocnabpplbeafaaGreat
/- wal: Append of one page to a log without frames. -/
namespace Go.Proofs.YtocnabpplbeafaaGreat
open Go Go.RowKit Lou

theorem pw_one (p : Int) (A : Option Addr) (n c : Nat) : ∀ v ∈ (#[.int .i64 p, .slice A n c] : Array Value).toList, v.oneCell' = true := by
  intro v hv
  simp at hv
  rcases hv with rfl | rfl <;> rfl
theorem x_storeR {P : Program} {w : World} {ρ : Operand → Value} {o : Oper} (T : TypeId) (x y : Operand) (ho : o.op = .store T x y) (g : Nat) {t : TypeId} {cs cs' : Array Value} (hx : ρ x = .pointer (some ⟨g, 0, none⟩)) (hy : ρ y = .agg cs') {n : Nat} (hT : RowTy P T n) (hb : BlkIs w g t cs) (hn : cs.size = n)
    (hs : cs'.size = cs.size) (h1 : ∀ v ∈ cs'.toList, v.oneCell' = true) : (execOp ρ o).run P w = .ok .skip (w.setRow g cs') := by
  unfold execOp
  simp only [ho, hx, hy, Instr.storeAt, Instr.sureAddr, Sem.run_bind, Sem.run_pure, Result.andThen_ok, run_storeW (hn ▸ hT) hb hs h1]
theorem zf_no (o : Nat) (x : UInt8) : (#[.int .u64 0, .int .i64 0, .int .i64 0, .bool false, .int .i64 0, .int .u32 0, .slice none 0 0] : Array Value)[o]? ≠ some (b8 x) := by
  match o with
  | 0 => simp [b8]
  | 1 => simp [b8]
  | 2 => simp [b8]
  | 3 => simp [b8]
  | 4 => simp [b8]
  | 5 => simp [b8]
  | 6 => simp [b8]
  | n + 7 => simp
theorem fr_no (e : Nat) (i p : Int) (f : Bool) (z : Int) (n : Nat) (A : Option Addr) (len k : Nat) (o : Nat) (x : UInt8) : (frCells e i p f z n A len k)[o]? ≠ some (b8 x) := by
  unfold frCells
  match o with
  | 0 => simp [b8]
  | 1 => simp [b8]
  | 2 => simp [b8]
  | 3 => simp [b8]
  | 4 => simp [b8]
  | 5 => simp [b8]
  | 6 => simp [b8]
  | n + 7 => simp
theorem x_sliceFr {w : World} {ρ : Operand → Value} {o : Oper} {x : Operand} (FC : Array Value) (h7 : FC.size = 7) (ho : o.op = .buildSlice 55 1 #[(0, x)]) (h1 : ρ x = .agg FC) : (execOp ρ o).run Tryz.prog w = .ok (.value (.slice (some ⟨w.heap.size, 0, none⟩) 1 1)) (w.alloc (.cells FC 97)) := by
  obtain ⟨l, rfl⟩ : ∃ l : List Value, FC = l.toArray := ⟨FC.toList, by simp⟩
  have hl : l.length = 7 := by simpa using h7
  have key := fun arr hs => fold0 l arr hs
  rw [hl] at key
  simp [execOp, ho, h1, go_sem, Result.andThen, hl, key]
theorem elFrame : ElT 55 97 7 72 (.agg zeroFr) := ⟨Tryz.underlying55, by kernel_rfl, by kernel_rfl, by decide⟩
def Q3 (F : Nat → Option Addr → Nat → World → Prop) (a : Nat → Option Addr → Nat → Act) : Exit → Act → World → Prop
  | .normal, b, w' => ∃ q A c, F q A c w' ∧ b = a q A c
  | _, _, _ => False
theorem wp_stop3 {P : Program} {C : Code} {Q : Exit → Act → World → Prop} {a0 : Act} {w0 : World} (F : Nat → Option Addr → Nat → World → Prop) (a : Nat → Option Addr → Nat → Act) (h1 : C.wp P (Q3 F a) a0 w0) (h2 : ∀ q A c w', F q A c w' → Q .normal (a q A c) w') : C.wp P Q a0 w0 :=
  wp_mono h1 fun e b w' h => by
    cases e with
    | normal =>
      obtain ⟨q, A, c, hf, rfl⟩ := h
      exact h2 q A c w' hf
    | _ => exact h.elim
section
variable (w : World) (l d many : Nat) (gD : Nat → List UInt8) (xs : List (Nat × List UInt8)) (left : Int) (fr pg : Int) (sr ep : Nat) (sz : Int)
set_option maxRecDepth 100000 in
set_option maxHeartbeats 16000000 in
theorem append_one (hD : DkIs w d many gD xs left false) (hl : xs.length ≤ 800000) (h1l : -1000000 ≤ left) (h2l : left ≤ 9223372036854775807) (hlg : BlkIs w l 57 (lgC (some ⟨d, 0, none⟩) fr pg sr ep sz none 0 0)) (hld : l ≠ d)
    (g o c : Nat) (p : Int) (Ay : Option Addr) (ky : Nat) (y : List UInt8) (hg : g < w.heap.size) (hx : w.rangeAt g o [.int .i64 p, .slice Ay 512 ky]) (hy : InB w w.heap.size Ay ky y) (hy512 : y.length = 512)
    (hpl : planOk fr pg = true) (hp0 : 0 ≤ p) (hp1 : p < pg) (s : Int) (hs : 0 ≤ s) (hs2 : s ≤ pg) (hsz : headOk sz 1 = true) (hm11 : 11 ≤ many) (hmax : many ≤ 1000000) (hsr : sr + 1 < 18446744073709551616) :
    Calls Tryz.prog 14 #[.pointer (some ⟨l, 0, none⟩), .int .i64 s, .slice (some ⟨g, o, none⟩) 1 c] w fun e w' => e = .returned (.int .i64 0) ∧ (∃ g', DkIs w' d many g' [] left false) ∧ (∃ A c', BlkIs w' l 57 (lgC (some ⟨d, 0, none⟩) fr pg (sr + 1) ep s A 1 c')) ∧ GrowBut (fun k => k = d ∨ k = l) w w' := by
  have hplr := (planOk_iff fr pg).1 hpl
  have hpe : plE (planOk fr pg) p pg = 0 := by rw [hpl]; simp [plE, hp0, hp1]
  have hpe0 : plE (planOk fr pg) 0 fr = 0 := by rw [hpl]; simp [plE]; omega
  have hB : Below w.heap.size w ((w.alloc (.cells #[.pointer (some ⟨l, 0, none⟩)] 33)).alloc (.cells #[.int .i64 s] 3)) := ((Below.refl _ w).alloc (Nat.le_refl _) _).alloc (by simp) _
  have b0 := (BlkIs.new w 33 #[.pointer (some ⟨l, 0, none⟩)]).alloc (.cells #[.int .i64 s] 3)
  have b1 := BlkIs.new (w.alloc (.cells #[.pointer (some ⟨l, 0, none⟩)] 33)) 3 #[.int .i64 s]
  rw [World.size_alloc] at b1
  have hlg0 := hlg.below hB hlg.lt
  have HN := lnone_gives hlg0
  have hxp : PwIn w g o 1 (fun _ => (p, Ay, ky)) := fun k hk => by
    obtain rfl : k = 0 := by omega
    exact hx
  have HR := lright_ok _ l _ fr pg sr ep sz none 0 0 hlg0 g o 1 c (fun _ => (p, Ay, ky)) (by omega) (by omega) (hxp.below hB hg) (by simp; omega) (fun _ _ => hpe) s hs hs2
  have hfr : ¬ fr < 1 := by omega
  have hw11 : IntKind.i64.wrap 1 = 1 := by decide
  have hDw := hD.lt
  have hlw := hlg.lt
  have hfo : frOk 512 0 p true s = true := (frOk_iff _ _ _ _ _).2 ⟨rfl, ⟨by omega, by omega⟩, ⟨hp0, by omega⟩, ⟨hs, by omega⟩, .inl rfl⟩
  clear hxp
  go_enter Tryz.func14, Tryz.ntmps14
  go_wp2_with (first
    | (go_at_call 42; refine HN.mono ?_; rintro e w' ⟨rfl, rfl⟩)
    | (go_at_call 43; refine HR.mono ?_; rintro e w2 ⟨rfl, hB2⟩; have hlg2 := hlg0.below hB2 hlg0.lt; have b02 := b0.below hB2 b0.lt; have b12 := b1.below hB2 b1.lt))
  have hBw2 := hB.trans (hB2.mono hB.size)
  have hw2 : w.heap.size + 2 ≤ w2.heap.size := by have := hB2.size; simp at this; omega
  have hS0 : Below w2.heap.size w2 w2.drew := (Below.refl _ _).drew
  have T0 : ∀ W, Below w2.heap.size w2 W → W.cell? ⟨w.heap.size, 0, none⟩ = some (.pointer (some ⟨l, 0, none⟩)) := fun W hW => (b02.below hW b02.lt).boxed
  have T6 : ∀ W, Below w2.heap.size w2 W → W.cell? ⟨l, 6, none⟩ = some (.slice none 0 0) := fun W hW => by rw [(hlg2.below hW hlg2.lt).cell]; rfl
  have T1 : ∀ W, Below w2.heap.size w2 W → W.cell? ⟨l, 1, none⟩ = some (.int .i64 fr) := fun W hW => by rw [(hlg2.below hW hlg2.lt).cell]; rfl
  have hD2 := hD.grow hBw2
  have hy2 := (hy.below hBw2).more hBw2.size
  have hx2 : w2.rangeAt g o [.int .i64 p, .slice Ay 512 ky] := fun j v hj => (hBw2.cell (p := ⟨g, o + j, none⟩) hg).trans (hx j v hj)
  clear HN HR hD hlg hlg0 b0 b1 hB hB2 hx hy
  refine RegF.start (fun W => Below w2.heap.size w2 W) 99 (by kernel_rfl) ?_
  refine RegF.take0 0 (.pointer (some ⟨l, 0, none⟩)) rfl (by kernel_rfl) (by kernel_rfl) (by kernel_rfl) rfl (fun _ _ _ h => h) hS0 (RegF.yld rfl (fun W hW => by have q := T0 W hW; go_simp)) ?_
  simp only [List.getElem_toArray, List.getElem_cons_zero, Act.put, List.setIfInBounds_toArray, List.set_cons_zero, List.set_cons_succ]
  refine RegF.take0 1 (.pointer (some ⟨l, 0, none⟩)) rfl (by kernel_rfl) (by kernel_rfl) (by kernel_rfl) rfl (fun _ _ _ h => h) hS0 (RegF.yld rfl (fun W hW => by go_simp)) ?_
  simp only [List.getElem_toArray, List.getElem_cons_succ, List.getElem_cons_zero, Act.put, List.setIfInBounds_toArray, List.set_cons_zero, List.set_cons_succ]
  refine RegF.take0 2 (.pointer (some ⟨l, 6, none⟩)) rfl (by kernel_rfl) (by kernel_rfl) (by kernel_rfl) rfl (fun _ _ _ h => h) hS0 (RegF.yld rfl (fun W hW => by go_simp)) ?_
  simp only [List.getElem_toArray, List.getElem_cons_succ, List.getElem_cons_zero, Act.put, List.setIfInBounds_toArray, List.set_cons_zero, List.set_cons_succ]
  refine RegF.take0 3 (.slice none 0 0) rfl (by kernel_rfl) (by kernel_rfl) (by kernel_rfl) rfl (fun _ _ _ h => h) hS0 (RegF.yld rfl (fun W hW => by have q := T6 W hW; go_simp)) ?_
  simp only [List.getElem_toArray, List.getElem_cons_succ, List.getElem_cons_zero, Act.put, List.setIfInBounds_toArray, List.set_cons_zero, List.set_cons_succ]
  refine RegF.take0 4 (.int .i64 0) rfl (by kernel_rfl) (by kernel_rfl) (by kernel_rfl) rfl (fun _ _ _ h => h) hS0 (RegF.yld rfl (fun W hW => by go_simp)) ?_
  simp only [List.getElem_toArray, List.getElem_cons_succ, List.getElem_cons_zero, Act.put, List.setIfInBounds_toArray, List.set_cons_zero, List.set_cons_succ]
  refine RegF.take0 5 (.slice (some ⟨g, o, none⟩) 1 c) rfl (by kernel_rfl) (by kernel_rfl) (by kernel_rfl) rfl (fun _ _ _ h => h) hS0 (RegF.yld rfl (fun W hW => by go_simp)) ?_
  simp only [List.getElem_toArray, List.getElem_cons_succ, List.getElem_cons_zero, Act.put, List.setIfInBounds_toArray, List.set_cons_zero, List.set_cons_succ]
  refine RegF.take0 6 (.int .i64 1) rfl (by kernel_rfl) (by kernel_rfl) (by kernel_rfl) rfl (fun _ _ _ h => h) hS0 (RegF.yld rfl (fun W hW => by go_simp)) ?_
  simp only [List.getElem_toArray, List.getElem_cons_succ, List.getElem_cons_zero, Act.put, List.setIfInBounds_toArray, List.set_cons_zero, List.set_cons_succ]
  refine RegF.take0 7 (.int .i64 1) rfl (by kernel_rfl) (by kernel_rfl) (by kernel_rfl) rfl (fun _ _ _ h => h) hS0 (RegF.yld rfl (fun W hW => by go_simp)) ?_
  simp only [List.getElem_toArray, List.getElem_cons_succ, List.getElem_cons_zero, Act.put, List.setIfInBounds_toArray, List.set_cons_zero, List.set_cons_succ]
  refine RegF.take0 8 (.pointer (some ⟨l, 0, none⟩)) rfl (by kernel_rfl) (by kernel_rfl) (by kernel_rfl) rfl (fun _ _ _ h => h) hS0 (RegF.yld rfl (fun W hW => by have q := T0 W hW; go_simp)) ?_
  simp only [List.getElem_toArray, List.getElem_cons_succ, List.getElem_cons_zero, Act.put, List.setIfInBounds_toArray, List.set_cons_zero, List.set_cons_succ]
  refine RegF.take0 9 (.pointer (some ⟨l, 0, none⟩)) rfl (by kernel_rfl) (by kernel_rfl) (by kernel_rfl) rfl (fun _ _ _ h => h) hS0 (RegF.yld rfl (fun W hW => by go_simp)) ?_
  simp only [List.getElem_toArray, List.getElem_cons_succ, List.getElem_cons_zero, Act.put, List.setIfInBounds_toArray, List.set_cons_zero, List.set_cons_succ]
  refine RegF.take0 10 (.pointer (some ⟨l, 0, none⟩)) rfl (by kernel_rfl) (by kernel_rfl) (by kernel_rfl) rfl (fun _ _ _ h => h) hS0 (RegF.yld rfl (fun W hW => by go_simp)) ?_
  simp only [List.getElem_toArray, List.getElem_cons_succ, List.getElem_cons_zero, Act.put, List.setIfInBounds_toArray, List.set_cons_zero, List.set_cons_succ]
  refine RegF.take0 11 (.pointer (some ⟨l, 1, none⟩)) rfl (by kernel_rfl) (by kernel_rfl) (by kernel_rfl) rfl (fun _ _ _ h => h) hS0 (RegF.yld rfl (fun W hW => by go_simp)) ?_
  simp only [List.getElem_toArray, List.getElem_cons_succ, List.getElem_cons_zero, Act.put, List.setIfInBounds_toArray, List.set_cons_zero, List.set_cons_succ]
  refine RegF.take0 12 (.pointer (some ⟨l, 1, none⟩)) rfl (by kernel_rfl) (by kernel_rfl) (by kernel_rfl) rfl (fun _ _ _ h => h) hS0 (RegF.yld rfl (fun W hW => by go_simp)) ?_
  simp only [List.getElem_toArray, List.getElem_cons_succ, List.getElem_cons_zero, Act.put, List.setIfInBounds_toArray, List.set_cons_zero, List.set_cons_succ]
  refine RegF.take0 13 (.int .i64 fr) rfl (by kernel_rfl) (by kernel_rfl) (by kernel_rfl) rfl (fun _ _ _ h => h) hS0 (RegF.yld rfl (fun W hW => by have q := T1 W hW; go_simp)) ?_
  simp only [List.getElem_toArray, List.getElem_cons_succ, List.getElem_cons_zero, Act.put, List.setIfInBounds_toArray, List.set_cons_zero, List.set_cons_succ]
  refine RegF.one 14 (by kernel_rfl) (RegF.opV (w' := w2.drew) (.bool false) rfl rfl (by go_simp) ⟨fun _ => hS0, ?_⟩)
  simp only [List.getElem_toArray, List.getElem_cons_succ, List.getElem_cons_zero, Act.put, List.setIfInBounds_toArray, List.set_cons_zero, List.set_cons_succ]
  refine RegF.one 15 (by kernel_rfl) (RegF.opV (w' := w2.drew) (.bool false) rfl rfl (by go_simp) ⟨fun _ => hS0, RegF.done (by kernel_rfl) ?_⟩)
  simp only [List.getElem_toArray, List.getElem_cons_succ, List.getElem_cons_zero, Act.put, List.setIfInBounds_toArray, List.set_cons_zero, List.set_cons_succ]
  have t0 := T0 _ hS0
  have t6 := T6 _ hS0
  have hD3 := hD2.grow hS0
  have hlg3 := hlg2.drew
  have b03 := b02.drew
  have b13 := b12.drew
  have hy3 : InB w2.drew w2.drew.heap.size Ay ky y := hy2.drew
  have hx3 : w2.drew.rangeAt g o [.int .i64 p, .slice Ay 512 ky] := hx2
  have hBw3 : Below w.heap.size w w2.drew := hBw2.drew
  have hw3 : w.heap.size + 2 ≤ w2.drew.heap.size := hw2
  clear T0 T6 T1 hD2 hlg2 b02 b12 hy2 hx2 hBw2 hw2 hS0
  generalize w2.drew = W3 at *
  go_wp2_with (go_at_call 44; refine (fclone_nil _).mono ?_; rintro e w' ⟨rfl, rfl⟩)
  obtain ⟨W4, hW4⟩ : ∃ W4, W4 = W3.alloc (.cells #[.slice none 0 0] 55) := ⟨_, rfl⟩
  have hB4 : Below W3.heap.size W3 W4 := by rw [hW4]; exact (Below.refl _ _).alloc (Nat.le_refl _) _
  have m4 : BlkIs W4 W3.heap.size 55 #[.slice none 0 0] := by rw [hW4]; exact BlkIs.new W3 _ _
  rw [← hW4]
  clear hW4
  go_loopw [43] (fun i wr => (i = .int .i64 0 ∧ Below W3.heap.size W3 wr ∧ BlkIs wr W3.heap.size 55 #[.slice none 0 0]) ∨
    (i = .int .i64 1 ∧ Below W3.heap.size W3 wr ∧ ∃ fg fc A6 c6, 1 ≤ fc ∧ fc ≤ 9223372036854775807 ∧ BlkIs wr W3.heap.size 55 #[.slice (some ⟨fg, 0, none⟩) 1 fc] ∧ wr.rangeAt fg 0 (frCells ep 0 p true s 0 A6 512 c6).toList ∧ fg < wr.heap.size ∧ W3.heap.size ≤ fg ∧ InB wr wr.heap.size A6 c6 y ∧ (∀ g o, A6 = some ⟨g, o, none⟩ → W3.heap.size ≤ g))) (fun i _ => 2 - (intOf i).toNat)
  case atStart => exact .inl ⟨rfl, hB4, m4⟩
  case round =>
    clear hB4 m4
    rcases hrel with ⟨rfl, hB4, m4⟩ | ⟨rfl, hB4, fg, fc, A6, c6, hfc1, hfc2, m4, hr4, hfg, hfg3, hy4, hA6⟩
    · have hx4 : wr.rangeAt g o [.int .i64 p, .slice Ay 512 ky] := fun j v hj => (hB4.cell (p := ⟨g, o + j, none⟩) (by show g < W3.heap.size; omega)).trans (hx3 j v hj)
      have hy4 := (hy3.below hB4).more hB4.size
      have b4 := BlkIs.new wr 80 #[.int .i64 0, .slice none 0 0]
      have b5 := b4.setRow #[.int .i64 p, .slice Ay 512 ky]
      have hB5 : Below W3.heap.size W3 ((wr.alloc (.cells #[.int .i64 0, .slice none 0 0] 80)).setRow wr.heap.size #[.int .i64 p, .slice Ay 512 ky]) := below_setRow (hB4.alloc hB4.size _) hB4.size _
      have hBr5 : Below wr.heap.size wr ((wr.alloc (.cells #[.int .i64 0, .slice none 0 0] 80)).setRow wr.heap.size #[.int .i64 p, .slice Ay 512 ky]) := below_setRow ((Below.refl _ wr).alloc (Nat.le_refl _) _) (Nat.le_refl _) _
      have m5 := m4.below hBr5 m4.lt
      have hy5 := (hy4.below hBr5).more hBr5.size
      go_wp2_with (first
        | (refine wp_exec rfl (x_loadM rowPW hx4 rfl rfl rfl) ?_)
        | (refine wp_storeW rfl 80 (.tmp 9) (.tmp 47) rfl wr.heap.size rfl rfl rowPW b4 rfl rfl (pw_one _ _ _ _) ?_))
      have hw4 := hB4.size
      clear hx4 hy4 b4 hBr5 m4 hB4
      generalize (wr.alloc (.cells #[.int .i64 0, .slice none 0 0] 80)).setRow wr.heap.size #[.int .i64 p, .slice Ay 512 ky] = W5 at *
      have T0 : ∀ W, Below W5.heap.size W5 W → W.cell? ⟨w.heap.size, 0, none⟩ = some (.pointer (some ⟨l, 0, none⟩)) := fun W hW => ((b03.below hB5 b03.lt).below hW (Nat.lt_of_lt_of_le b03.lt hB5.size)).boxed
      have T4 : ∀ W, Below W5.heap.size W5 W → W.cell? ⟨l, 4, none⟩ = some (.int .u64 (ep : Int)) := fun W hW => by rw [((hlg3.below hB5 hlg3.lt).below hW (Nat.lt_of_lt_of_le hlg3.lt hB5.size)).cell]; rfl
      have TM : ∀ W, Below W5.heap.size W5 W → W.cell? ⟨W3.heap.size, 0, none⟩ = some (.slice none 0 0) := fun W hW => (m5.below hW m5.lt).boxed
      have TP : ∀ W, Below W5.heap.size W5 W → W.cell? ⟨wr.heap.size, 0, none⟩ = some (.int .i64 p) := fun W hW => by rw [(b5.below hW b5.lt).cell]; rfl
      have TB : ∀ W, Below W5.heap.size W5 W → W.cell? ⟨wr.heap.size, 1, none⟩ = some (.slice Ay 512 ky) := fun W hW => by rw [(b5.below hW b5.lt).cell]; rfl
      have HCL : ∀ W, Below W5.heap.size W5 W → Calls Tryz.prog 46 #[.slice Ay 512 ky] W fun e w' => ∃ A c, e = .returned (.slice A 512 c) ∧ InB w' w'.heap.size A c y ∧ (∀ g o, A = some ⟨g, o, none⟩ → W5.heap.size ≤ g) ∧ Below W.heap.size W w' := fun W hW => by
        have h := clone_gives W Ay ky y ((hy5.below hW).more hW.size) (by omega)
        rw [hy512] at h
        refine h.mono ?_
        rintro e w' ⟨v, rfl, own, hBc⟩
        have hge := ownG_ge own
        obtain ⟨A, c, rfl, hin⟩ := own.inB
        exact ⟨A, c, by rw [hy512], hin, fun g o e => by subst e; exact Nat.le_trans hW.size (hge g rfl), hBc⟩
      have hS0 : Below W5.heap.size W5 W5.drew := (Below.refl _ _).drew
      go_wp2_with fail
      apply wp_stop3 (fun q A6 c6 w' => BlkIs w' q 97 (frCells ep 0 p false 0 0 A6 512 c6) ∧ W5.heap.size ≤ q ∧ InB w' w'.heap.size A6 c6 y ∧ (∀ g o, A6 = some ⟨g, o, none⟩ → W5.heap.size ≤ g) ∧ Below W5.heap.size W5 w')
      case h1 =>
        refine RegF.start (fun W => Below W5.heap.size W5 W) 99 (by kernel_rfl) ?_
        refine RegF.take0 0 (.pointer (some ⟨l, 0, none⟩)) rfl (by kernel_rfl) (by kernel_rfl) (by kernel_rfl) rfl (fun _ _ _ h => h) hS0 (RegF.yld rfl (fun W hW => by have q := T0 W hW; go_simp)) ?_
        simp only [List.getElem_toArray, List.getElem_cons_zero, Act.put, List.setIfInBounds_toArray, List.set_cons_zero, List.set_cons_succ]
        refine RegF.take0 1 (.pointer (some ⟨l, 0, none⟩)) rfl (by kernel_rfl) (by kernel_rfl) (by kernel_rfl) rfl (fun _ _ _ h => h) hS0 (RegF.yld rfl (fun W hW => by go_simp)) ?_
        simp only [List.getElem_toArray, List.getElem_cons_succ, List.getElem_cons_zero, Act.put, List.setIfInBounds_toArray, List.set_cons_zero, List.set_cons_succ]
        refine RegF.take0 2 (.pointer (some ⟨l, 4, none⟩)) rfl (by kernel_rfl) (by kernel_rfl) (by kernel_rfl) rfl (fun _ _ _ h => h) hS0 (RegF.yld rfl (fun W hW => by go_simp)) ?_
        simp only [List.getElem_toArray, List.getElem_cons_succ, List.getElem_cons_zero, Act.put, List.setIfInBounds_toArray, List.set_cons_zero, List.set_cons_succ]
        refine RegF.take0 3 (.int .u64 (ep : Int)) rfl (by kernel_rfl) (by kernel_rfl) (by kernel_rfl) rfl (fun _ _ _ h => h) hS0 (RegF.yld rfl (fun W hW => by have q := T4 W hW; go_simp)) ?_
        simp only [List.getElem_toArray, List.getElem_cons_succ, List.getElem_cons_zero, Act.put, List.setIfInBounds_toArray, List.set_cons_zero, List.set_cons_succ]
        refine RegF.take0 4 (.slice none 0 0) rfl (by kernel_rfl) (by kernel_rfl) (by kernel_rfl) rfl (fun _ _ _ h => h) hS0 (RegF.yld rfl (fun W hW => by have q := TM W hW; go_simp)) ?_
        simp only [List.getElem_toArray, List.getElem_cons_succ, List.getElem_cons_zero, Act.put, List.setIfInBounds_toArray, List.set_cons_zero, List.set_cons_succ]
        refine RegF.take0 5 (.int .i64 0) rfl (by kernel_rfl) (by kernel_rfl) (by kernel_rfl) rfl (fun _ _ _ h => h) hS0 (RegF.yld rfl (fun W hW => by go_simp)) ?_
        simp only [List.getElem_toArray, List.getElem_cons_succ, List.getElem_cons_zero, Act.put, List.setIfInBounds_toArray, List.set_cons_zero, List.set_cons_succ]
        refine RegF.take0 6 (.pointer (some ⟨wr.heap.size, 0, none⟩)) rfl (by kernel_rfl) (by kernel_rfl) (by kernel_rfl) rfl (fun _ _ _ h => h) hS0 (RegF.yld rfl (fun W hW => by go_simp)) ?_
        simp only [List.getElem_toArray, List.getElem_cons_succ, List.getElem_cons_zero, Act.put, List.setIfInBounds_toArray, List.set_cons_zero, List.set_cons_succ]
        refine RegF.take0 7 (.int .i64 p) rfl (by kernel_rfl) (by kernel_rfl) (by kernel_rfl) rfl (fun _ _ _ h => h) hS0 (RegF.yld rfl (fun W hW => by have q := TP W hW; go_simp)) ?_
        simp only [List.getElem_toArray, List.getElem_cons_succ, List.getElem_cons_zero, Act.put, List.setIfInBounds_toArray, List.set_cons_zero, List.set_cons_succ]
        refine RegF.take0 8 (.slice none 0 0) rfl (by kernel_rfl) (by kernel_rfl) (by kernel_rfl) rfl (fun _ _ _ h => h) hS0 (RegF.yld rfl (fun W hW => by have q := TM W hW; go_simp)) ?_
        simp only [List.getElem_toArray, List.getElem_cons_succ, List.getElem_cons_zero, Act.put, List.setIfInBounds_toArray, List.set_cons_zero, List.set_cons_succ]
        refine RegF.take0 10 (.pointer (some ⟨wr.heap.size, 1, none⟩)) rfl (by kernel_rfl) (by kernel_rfl) (by kernel_rfl) rfl (fun _ _ _ h => h) hS0 (RegF.yld rfl (fun W hW => by go_simp)) ?_
        simp only [List.getElem_toArray, List.getElem_cons_succ, List.getElem_cons_zero, Act.put, List.setIfInBounds_toArray, List.set_cons_zero, List.set_cons_succ]
        refine RegF.take0 11 (.slice Ay 512 ky) rfl (by kernel_rfl) (by kernel_rfl) (by kernel_rfl) rfl (fun _ _ _ h => h) hS0 (RegF.yld rfl (fun W hW => by have q := TB W hW; go_simp)) ?_
        simp only [List.getElem_toArray, List.getElem_cons_succ, List.getElem_cons_zero, Act.put, List.setIfInBounds_toArray, List.set_cons_zero, List.set_cons_succ]
        refine RegF.two 9 14 (by kernel_rfl) ?_ ?_
        case' refine_1 =>
          refine RegF.opC 45 #[.tmp 56] #[55] rfl rfl rfl (enters_of Tryz.func45 (by kernel_rfl) rfl) #[.slice none 0 0] (by simp only [List.map_toArray, List.map_cons, List.map_nil]; rfl) ((link_nil W5.drew).mono ?_)
          rintro e w' ⟨rfl, rfl⟩
          refine ⟨_, rfl, fun _ => hS0, ?_⟩
          simp only [List.getElem_toArray, List.getElem_cons_succ, List.getElem_cons_zero, Act.put, List.setIfInBounds_toArray, List.set_cons_zero, List.set_cons_succ]
          refine RegF.two 12 14 (by kernel_rfl) ?_ ?_
          case' refine_1 =>
            refine RegF.opC 46 #[.tmp 59] #[38] rfl rfl rfl (enters_of Tryz.func46 (by kernel_rfl) rfl) #[.slice Ay 512 ky] (by simp only [List.map_toArray, List.map_cons, List.map_nil]; rfl) ((HCL W5.drew hS0).mono ?_)
            rintro e Wc ⟨A6, c6, rfl, hin6, hA6, hBc⟩
            have hS6 : Below W5.heap.size W5 Wc := hS0.trans (hBc.mono hS0.size)
            refine ⟨_, rfl, fun _ => hS6, ?_⟩
            simp only [List.getElem_toArray, List.getElem_cons_succ, List.getElem_cons_zero, Act.put, List.setIfInBounds_toArray, List.set_cons_zero, List.set_cons_succ]
            refine RegF.take0 13 (.agg (frCells ep 0 p false 0 0 A6 512 c6)) rfl (by kernel_rfl) (by kernel_rfl) (by kernel_rfl) rfl (fun _ _ _ h => h) hS6 (RegF.yld rfl (fun W hW => by go_simp; rfl)) ?_
            simp only [List.getElem_toArray, List.getElem_cons_succ, List.getElem_cons_zero, Act.put, List.setIfInBounds_toArray, List.set_cons_zero, List.set_cons_succ]
            have bz := BlkIs.new Wc 97 #[.int .u64 0, .int .i64 0, .int .i64 0, .bool false, .int .i64 0, .int .u32 0, .slice none 0 0]
            have hS7 : Below W5.heap.size W5 (Wc.alloc (.cells #[.int .u64 0, .int .i64 0, .int .i64 0, .bool false, .int .i64 0, .int .u32 0, .slice none 0 0] 97)) := hS6.alloc hS6.size _
            have hBz : Below Wc.heap.size Wc (Wc.alloc (.cells #[.int .u64 0, .int .i64 0, .int .i64 0, .bool false, .int .i64 0, .int .u32 0, .slice none 0 0] 97)) := (Below.refl _ _).alloc (Nat.le_refl _) _
            refine RegF.one 14 (by kernel_rfl) ?_
            refine RegF.opV (w' := Wc.alloc (.cells #[.int .u64 0, .int .i64 0, .int .i64 0, .bool false, .int .i64 0, .int .u32 0, .slice none 0 0] 97)) (.pointer (some ⟨Wc.heap.size, 0, none⟩)) rfl rfl (by go_simp) ⟨fun _ => hS7, ?_⟩
            simp only [List.getElem_toArray, List.getElem_cons_succ, List.getElem_cons_zero, Act.put, List.setIfInBounds_toArray, List.set_cons_zero, List.set_cons_succ]
            refine RegF.one 15 (by kernel_rfl) (RegF.opS (w' := (Wc.alloc (.cells #[.int .u64 0, .int .i64 0, .int .i64 0, .bool false, .int .i64 0, .int .u32 0, .slice none 0 0] 97)).setRow Wc.heap.size (frCells ep 0 p false 0 0 A6 512 c6)) rfl rfl (x_storeR 97 (.tmp 10) (.tmp 61) rfl Wc.heap.size rfl rfl rowFrame bz rfl rfl (frCells_one _ _ _ _ _ _ _ _ _)) ⟨fun _ => below_setRow hS7 hS6.size _, RegF.done (by kernel_rfl) ?_⟩)
            simp only [List.getElem_toArray, List.getElem_cons_succ, List.getElem_cons_zero, Act.put]
            have hF : BlkIs ((Wc.alloc (.cells #[.int .u64 0, .int .i64 0, .int .i64 0, .bool false, .int .i64 0, .int .u32 0, .slice none 0 0] 97)).setRow Wc.heap.size (frCells ep 0 p false 0 0 A6 512 c6)) Wc.heap.size 97 (frCells ep 0 p false 0 0 A6 512 c6) ∧ W5.heap.size ≤ Wc.heap.size ∧ InB ((Wc.alloc (.cells #[.int .u64 0, .int .i64 0, .int .i64 0, .bool false, .int .i64 0, .int .u32 0, .slice none 0 0] 97)).setRow Wc.heap.size (frCells ep 0 p false 0 0 A6 512 c6)) ((Wc.alloc (.cells #[.int .u64 0, .int .i64 0, .int .i64 0, .bool false, .int .i64 0, .int .u32 0, .slice none 0 0] 97)).setRow Wc.heap.size (frCells ep 0 p false 0 0 A6 512 c6)).heap.size A6 c6 y ∧ (∀ g o, A6 = some ⟨g, o, none⟩ → W5.heap.size ≤ g) ∧ Below W5.heap.size W5 ((Wc.alloc (.cells #[.int .u64 0, .int .i64 0, .int .i64 0, .bool false, .int .i64 0, .int .u32 0, .slice none 0 0] 97)).setRow Wc.heap.size (frCells ep 0 p false 0 0 A6 512 c6)) := ⟨bz.setRow _, hS6.size, (hin6.below (below_setRow hBz (Nat.le_refl _) (frCells ep 0 p false 0 0 A6 512 c6))).more (below_setRow hBz (Nat.le_refl _) (frCells ep 0 p false 0 0 A6 512 c6)).size, hA6, below_setRow hS7 hS6.size _⟩
            generalize (Wc.alloc (.cells #[.int .u64 0, .int .i64 0, .int .i64 0, .bool false, .int .i64 0, .int .u32 0, .slice none 0 0] 97)).setRow Wc.heap.size (frCells ep 0 p false 0 0 A6 512 c6) = W7 at hF ⊢
            generalize Wc.heap.size = q at hF ⊢
            exact ⟨q, A6, c6, hF, rfl⟩
          case' refine_2 =>
            have bz := BlkIs.new W5.drew 97 #[.int .u64 0, .int .i64 0, .int .i64 0, .bool false, .int .i64 0, .int .u32 0, .slice none 0 0]
            have hSa : Below W5.heap.size W5 (W5.drew.alloc (.cells #[.int .u64 0, .int .i64 0, .int .i64 0, .bool false, .int .i64 0, .int .u32 0, .slice none 0 0] 97)) := hS0.alloc hS0.size _
            refine RegF.opV (w' := W5.drew.alloc (.cells #[.int .u64 0, .int .i64 0, .int .i64 0, .bool false, .int .i64 0, .int .u32 0, .slice none 0 0] 97)) (.pointer (some ⟨W5.drew.heap.size, 0, none⟩)) rfl rfl (by go_simp) ⟨fun _ => hSa, ?_⟩
            simp only [List.getElem_toArray, List.getElem_cons_succ, List.getElem_cons_zero, Act.put, List.setIfInBounds_toArray, List.set_cons_zero, List.set_cons_succ]
            generalize W5.drew.alloc (.cells #[.int .u64 0, .int .i64 0, .int .i64 0, .bool false, .int .i64 0, .int .u32 0, .slice none 0 0] 97) = Wa at bz hSa ⊢
            refine RegF.one 12 (by kernel_rfl) ?_
            refine RegF.opC 46 #[.tmp 59] #[38] rfl rfl rfl (enters_of Tryz.func46 (by kernel_rfl) rfl) #[.slice Ay 512 ky] (by simp only [List.map_toArray, List.map_cons, List.map_nil]; rfl) ((HCL Wa hSa).mono ?_)
            rintro e Wc ⟨A6, c6, rfl, hin6, hA6, hBc⟩
            have bc := bz.below hBc bz.lt
            have hS6 : Below W5.heap.size W5 Wc := hSa.trans (hBc.mono hSa.size)
            refine ⟨_, rfl, fun _ => hS6, ?_⟩
            simp only [List.getElem_toArray, List.getElem_cons_succ, List.getElem_cons_zero, Act.put, List.setIfInBounds_toArray, List.set_cons_zero, List.set_cons_succ]
            refine RegF.one 13 (by kernel_rfl) (RegF.opV (w' := Wc) (.agg (frCells ep 0 p false 0 0 A6 512 c6)) rfl rfl (by go_simp; rfl) ⟨fun _ => hS6, ?_⟩)
            simp only [List.getElem_toArray, List.getElem_cons_succ, List.getElem_cons_zero, Act.put, List.setIfInBounds_toArray, List.set_cons_zero, List.set_cons_succ]
            have hS8 : Below W5.heap.size W5 (Wc.setRow W5.drew.heap.size (frCells ep 0 p false 0 0 A6 512 c6)) := below_setRow hS6 hS0.size _
            refine RegF.one 15 (by kernel_rfl) (RegF.opS (w' := Wc.setRow W5.drew.heap.size (frCells ep 0 p false 0 0 A6 512 c6)) rfl rfl (x_storeR 97 (.tmp 10) (.tmp 61) rfl W5.drew.heap.size rfl rfl rowFrame bc rfl rfl (frCells_one _ _ _ _ _ _ _ _ _)) ⟨fun _ => hS8, RegF.done (by kernel_rfl) ?_⟩)
            simp only [List.getElem_toArray, List.getElem_cons_succ, List.getElem_cons_zero, Act.put]
            have hne : ∀ g o, A6 = some ⟨g, o, none⟩ → g ≠ W5.drew.heap.size := fun g o e => by
              subst e
              intro e2
              subst e2
              obtain ⟨g', o', e3, hg', hc'⟩ := hin6.lies (by omega)
              injection e3 with e3
              injection e3 with e3 e4
              subst e3 e4
              have h0 := hc' 0 (by omega)
              rw [bc.cell] at h0
              exact zf_no _ _ h0
            have hF : BlkIs (Wc.setRow W5.drew.heap.size (frCells ep 0 p false 0 0 A6 512 c6)) W5.drew.heap.size 97 (frCells ep 0 p false 0 0 A6 512 c6) ∧ W5.heap.size ≤ W5.drew.heap.size ∧ InB (Wc.setRow W5.drew.heap.size (frCells ep 0 p false 0 0 A6 512 c6)) (Wc.setRow W5.drew.heap.size (frCells ep 0 p false 0 0 A6 512 c6)).heap.size A6 c6 y ∧ (∀ g o, A6 = some ⟨g, o, none⟩ → W5.heap.size ≤ g) ∧ Below W5.heap.size W5 (Wc.setRow W5.drew.heap.size (frCells ep 0 p false 0 0 A6 512 c6)) := ⟨bc.setRow _, hS0.size, GrowBut.inB (Mu := fun k => k = W5.drew.heap.size) (GrowBut.grown (setRow_grown Wc W5.drew.heap.size (frCells ep 0 p false 0 0 A6 512 c6)) (fun r e => by injection e with e; exact .inl e.symm)) hin6 (fun g o e _ => hne g o e), hA6, hS8⟩
            generalize Wc.setRow W5.drew.heap.size (frCells ep 0 p false 0 0 A6 512 c6) = W7 at hF ⊢
            generalize W5.drew.heap.size = q at hF ⊢
            exact ⟨q, A6, c6, hF, rfl⟩
        case' refine_2 =>
          have bz := BlkIs.new W5.drew 97 #[.int .u64 0, .int .i64 0, .int .i64 0, .bool false, .int .i64 0, .int .u32 0, .slice none 0 0]
          have hSa : Below W5.heap.size W5 (W5.drew.alloc (.cells #[.int .u64 0, .int .i64 0, .int .i64 0, .bool false, .int .i64 0, .int .u32 0, .slice none 0 0] 97)) := hS0.alloc hS0.size _
          refine RegF.opV (w' := W5.drew.alloc (.cells #[.int .u64 0, .int .i64 0, .int .i64 0, .bool false, .int .i64 0, .int .u32 0, .slice none 0 0] 97)) (.pointer (some ⟨W5.drew.heap.size, 0, none⟩)) rfl rfl (by go_simp) ⟨fun _ => hSa, ?_⟩
          simp only [List.getElem_toArray, List.getElem_cons_succ, List.getElem_cons_zero, Act.put, List.setIfInBounds_toArray, List.set_cons_zero, List.set_cons_succ]
          generalize W5.drew.alloc (.cells #[.int .u64 0, .int .i64 0, .int .i64 0, .bool false, .int .i64 0, .int .u32 0, .slice none 0 0] 97) = Wa at bz hSa ⊢
          refine RegF.one 9 (by kernel_rfl) ?_
          refine RegF.opC 45 #[.tmp 56] #[55] rfl rfl rfl (enters_of Tryz.func45 (by kernel_rfl) rfl) #[.slice none 0 0] (by simp only [List.map_toArray, List.map_cons, List.map_nil]; rfl) ((link_nil _).mono ?_)
          rintro e w' ⟨rfl, rfl⟩
          refine ⟨_, rfl, fun _ => hSa, ?_⟩
          simp only [List.getElem_toArray, List.getElem_cons_succ, List.getElem_cons_zero, Act.put, List.setIfInBounds_toArray, List.set_cons_zero, List.set_cons_succ]
          refine RegF.one 12 (by kernel_rfl) ?_
          refine RegF.opC 46 #[.tmp 59] #[38] rfl rfl rfl (enters_of Tryz.func46 (by kernel_rfl) rfl) #[.slice Ay 512 ky] (by simp only [List.map_toArray, List.map_cons, List.map_nil]; rfl) ((HCL Wa hSa).mono ?_)
          rintro e Wc ⟨A6, c6, rfl, hin6, hA6, hBc⟩
          have bc := bz.below hBc bz.lt
          have hS6 : Below W5.heap.size W5 Wc := hSa.trans (hBc.mono hSa.size)
          refine ⟨_, rfl, fun _ => hS6, ?_⟩
          simp only [List.getElem_toArray, List.getElem_cons_succ, List.getElem_cons_zero, Act.put, List.setIfInBounds_toArray, List.set_cons_zero, List.set_cons_succ]
          refine RegF.one 13 (by kernel_rfl) (RegF.opV (w' := Wc) (.agg (frCells ep 0 p false 0 0 A6 512 c6)) rfl rfl (by go_simp; rfl) ⟨fun _ => hS6, ?_⟩)
          simp only [List.getElem_toArray, List.getElem_cons_succ, List.getElem_cons_zero, Act.put, List.setIfInBounds_toArray, List.set_cons_zero, List.set_cons_succ]
          have hS8 : Below W5.heap.size W5 (Wc.setRow W5.drew.heap.size (frCells ep 0 p false 0 0 A6 512 c6)) := below_setRow hS6 hS0.size _
          refine RegF.one 15 (by kernel_rfl) (RegF.opS (w' := Wc.setRow W5.drew.heap.size (frCells ep 0 p false 0 0 A6 512 c6)) rfl rfl (x_storeR 97 (.tmp 10) (.tmp 61) rfl W5.drew.heap.size rfl rfl rowFrame bc rfl rfl (frCells_one _ _ _ _ _ _ _ _ _)) ⟨fun _ => hS8, RegF.done (by kernel_rfl) ?_⟩)
          simp only [List.getElem_toArray, List.getElem_cons_succ, List.getElem_cons_zero, Act.put]
          have hne : ∀ g o, A6 = some ⟨g, o, none⟩ → g ≠ W5.drew.heap.size := fun g o e => by
            subst e
            intro e2
            subst e2
            obtain ⟨g', o', e3, hg', hc'⟩ := hin6.lies (by omega)
            injection e3 with e3
            injection e3 with e3 e4
            subst e3 e4
            have h0 := hc' 0 (by omega)
            rw [bc.cell] at h0
            exact zf_no _ _ h0
          have hF : BlkIs (Wc.setRow W5.drew.heap.size (frCells ep 0 p false 0 0 A6 512 c6)) W5.drew.heap.size 97 (frCells ep 0 p false 0 0 A6 512 c6) ∧ W5.heap.size ≤ W5.drew.heap.size ∧ InB (Wc.setRow W5.drew.heap.size (frCells ep 0 p false 0 0 A6 512 c6)) (Wc.setRow W5.drew.heap.size (frCells ep 0 p false 0 0 A6 512 c6)).heap.size A6 c6 y ∧ (∀ g o, A6 = some ⟨g, o, none⟩ → W5.heap.size ≤ g) ∧ Below W5.heap.size W5 (Wc.setRow W5.drew.heap.size (frCells ep 0 p false 0 0 A6 512 c6)) := ⟨bc.setRow _, hS0.size, GrowBut.inB (Mu := fun k => k = W5.drew.heap.size) (GrowBut.grown (setRow_grown Wc W5.drew.heap.size (frCells ep 0 p false 0 0 A6 512 c6)) (fun r e => by injection e with e; exact .inl e.symm)) hin6 (fun g o e _ => hne g o e), hA6, hS8⟩
          generalize Wc.setRow W5.drew.heap.size (frCells ep 0 p false 0 0 A6 512 c6) = W7 at hF ⊢
          generalize W5.drew.heap.size = q at hF ⊢
          exact ⟨q, A6, c6, hF, rfl⟩
      case h2 =>
        rintro q A6 c6 w6 ⟨hbq, hq5, hin6, hA6, hB6⟩
        have hB36 := hB5.trans (hB6.mono hB5.size)
        have m6 := m5.below hB6 m5.lt
        have s6 := b13.below hB36 b13.lt
        have hw0 : IntKind.i64.wrap 0 = 0 := by decide
        have hbA := hbq.drew.set 3 (.bool true)
        have hbB : BlkIs ((w6.drew.setCell ⟨q, 3, none⟩ (.bool true)).setCell ⟨q, 4, none⟩ (.int .i64 s)) q 97 (frCells ep 0 p true s 0 A6 512 c6) := hbA.set 4 (.int .i64 s)
        have hqA : ∀ g o, A6 = some ⟨g, o, none⟩ → ¬ g = q := fun g o e => by
          subst e
          intro e2
          subst e2
          obtain ⟨g', o', e3, hg', hc'⟩ := hin6.lies (by omega)
          injection e3 with e3
          injection e3 with e3 e4
          subst e3 e4
          have h0 := hc' 0 (by omega)
          rw [hbq.cell] at h0
          exact fr_no _ _ _ _ _ _ _ _ _ _ _ h0
        have z3 : w6.cell? ⟨q, 3, none⟩ = some (.bool false) := by rw [hbq.cell]; rfl
        have z4 : w6.cell? ⟨q, 4, none⟩ = some (.int .i64 0) := by rw [hbq.cell]; rfl
        have y3 := hbq.free 3
        have y4 := hbq.free 4
        have w5s := hB5.size
        have nq1 : ¬ w.heap.size + 1 = q := by omega
        have nqm : ¬ W3.heap.size = q := by have := m5.lt; omega
        have hS1 := s6.drew
        have hSA := hS1.other (p := ⟨q, 3, none⟩) nq1 (.bool true)
        have hMB := (m6.drew.other (p := ⟨q, 3, none⟩) nqm (.bool true)).other (p := ⟨q, 4, none⟩) nqm (.int .i64 s)
        have hGB : GrowBut (fun k => k = q) w6 ((w6.drew.setCell ⟨q, 3, none⟩ (.bool true)).setCell ⟨q, 4, none⟩ (.int .i64 s)) := ((GrowBut.grown (grownBy_drew w6 none) (fun r e => by cases e)).trans (GrowBut.grown (setCell_grown _ ⟨q, 3, none⟩ _) (fun r e => by injection e with e; exact .inl e.symm))).trans (GrowBut.grown (setCell_grown _ ⟨q, 4, none⟩ _) (fun r e => by injection e with e; exact .inl e.symm))
        clear T0 T4 TM TP TB HCL
        go_wp2_with fail
        refine RegF.start (fun W => BlkIs W (w.heap.size + 1) 3 #[.int .i64 s]) 4 (by kernel_rfl) ?_
        refine RegF.take 0 (.int .i64 s) rfl (by kernel_rfl) (by kernel_rfl) (by kernel_rfl) (by kernel_rfl) (fun _ _ _ h => h) hS1 (RegF.yld rfl (fun W hW => by have q := hW.boxed; go_simp)) ?_
        simp only [List.getElem_toArray, List.getElem_cons_zero, Act.put, List.setIfInBounds_toArray, List.set_cons_zero, List.set_cons_succ]
        refine RegF.one 1 (by kernel_rfl) (RegF.opV (w' := w6.drew) (.pointer (some ⟨q, 3, none⟩)) rfl rfl (by go_simp) ⟨fun _ => hS1, ?_⟩)
        simp only [List.getElem_toArray, List.getElem_cons_succ, List.getElem_cons_zero, Act.put, List.setIfInBounds_toArray, List.set_cons_zero, List.set_cons_succ]
        refine RegF.one 2 (by kernel_rfl) (RegF.opS (w' := w6.drew.setCell ⟨q, 3, none⟩ (.bool true)) rfl rfl (by go_simp) ⟨fun _ => hSA, ?_⟩)
        simp only [List.getElem_toArray, List.getElem_cons_succ, List.getElem_cons_zero, Act.put]
        refine RegF.one 3 (by kernel_rfl) (RegF.opV (w' := w6.drew.setCell ⟨q, 3, none⟩ (.bool true)) (.pointer (some ⟨q, 4, none⟩)) rfl rfl (by go_simp) ⟨fun _ => hSA, ?_⟩)
        simp only [List.getElem_toArray, List.getElem_cons_succ, List.getElem_cons_zero, Act.put, List.setIfInBounds_toArray, List.set_cons_zero, List.set_cons_succ]
        refine RegF.one 4 (by kernel_rfl) (RegF.opS (w' := (w6.drew.setCell ⟨q, 3, none⟩ (.bool true)).setCell ⟨q, 4, none⟩ (.int .i64 s)) rfl rfl (by go_simp) ⟨fun h => absurd rfl h, RegF.done (by kernel_rfl) ?_⟩)
        simp only [List.getElem_toArray, List.getElem_cons_succ, List.getElem_cons_zero, Act.put]
        clear z3 z4 y3 y4 hS1 hSA hbA hw0
        generalize (w6.drew.setCell ⟨q, 3, none⟩ (.bool true)).setCell ⟨q, 4, none⟩ (.int .i64 s) = w7 at *
        have hBq : Below W3.heap.size W3 w7 := hB36.trans (hGB.toBelow hB36.size (fun k e => by subst e; omega))
        have km := hMB.boxed
        have bL := BlkIs.new w7 97 (frCells ep 0 p true s 0 A6 512 c6)
        have hBL : Below w7.heap.size w7 (w7.alloc (.cells (frCells ep 0 p true s 0 A6 512 c6) 97)) := (Below.refl _ _).alloc (Nat.le_refl _) _
        have hin := (ownG_in (World.ownsRow_lit (base := w7.heap.size) (size := 7) (e := 97) w7 (frCells ep 0 p true s 0 A6 512 c6) 1 (Nat.le_refl _) (by decide) rfl) (frCells_one _ _ _ _ _ _ _ _ _))
        obtain ⟨AL, cL, eL, hin⟩ := hin
        injection eL with eL1 _ eL2
        subst eL1 eL2
        have fm := hMB.free 0
        have hin7 : InB w7 w7.heap.size A6 c6 y := GrowBut.inB hGB hin6 (fun g o e _ => hqA g o e)
        obtain ⟨FC, hFC⟩ : ∃ FC, FC = frCells ep 0 p true s 0 A6 512 c6 := ⟨_, rfl⟩
        rw [← hFC] at hbB bL hBL hin
        have hfs : FC.size = 7 := by rw [hFC]; rfl
        have HFC := Lib.hid hFC
        clear hFC hin6 hB6 hB36 m6 s6 hGB
        go_wp2_with (first
          | (refine wp_loadW rfl 97 (.tmp 10) rfl q rfl rowFrame hbB hfs ?_)
          | (refine wp_exec rfl (x_sliceFr FC hfs rfl rfl) ?_)
          | (at_builtin; refine wp_appG rfl elFrame (.tmp 70) (.tmp 72) rfl w7.heap.size (.slice none 0 0) 0 [] rfl (World.ownsRow_nil _ _ _ _) _ (some ⟨w7.heap.size, 0, none⟩) 1 1 FC.toList rfl hin (by decide) (by decide) hBL.size ?_; intro v8 w8 own8 hg8; replace own8 : w8.ownsRow w7.heap.size 97 7 v8 1 FC.toList := own8; obtain ⟨g8, c8, cur8, rfl, hgb8, hcell8, hn8, hm8, hs8, ht8⟩ := own8.2.resolve_left (fun h => absurd h.2 (by decide)); have m8 := (hMB.alloc (.cells FC 97)).grown hg8 (fun e => by cases e); have km8 := m8.boxed; have fm8 := m8.free 0))
        have hB8 : Below W3.heap.size W3 w8 := hBq.trans (((hBL.mono hBq.size).trans (grown_below hg8 (Nat.le_trans hBq.size hBL.size) (fun r e => by cases e))))
        refine ⟨.inr ⟨rfl, hB8.setCell (p := ⟨W3.heap.size, 0, none⟩) (Nat.le_refl _) _, g8, c8, A6, c6, hn8, hm8, m8.set 0 _, ?_, ?_, ?_, ?_, ?_⟩, by decide⟩
        · intro j v hj
          rw [← HFC.out] at hj
          have hne : ¬ g8 = W3.heap.size := by have := hMB.lt; omega
          have hb8 : BlkIs w8 g8 97 cur8 := hcell8
          refine (World.cell?_of_block (Below.heap_setCell w8 ⟨W3.heap.size, 0, none⟩ _ g8 hne)).trans ?_
          rw [hb8.cell, ← ht8] at *
          rw [List.getElem?_take] at hj
          split at hj
          · simpa using hj
          · cases hj
        · show g8 < _
          have := (Array.getElem?_eq_some_iff.1 hcell8).1
          simpa using this
        · have := hBq.size
          omega
        · exact GrowBut.inB (Mu := fun k => k = W3.heap.size) (((GrowBut.below hBL).trans (GrowBut.grown hg8 (fun r e => by cases e))).trans (GrowBut.setCell _ _ _ rfl)) hin7 (fun g o e _ => by have := hA6 g o e; have := m5.lt; omega)
        · intro g o e
          have := hA6 g o e
          omega
    · have hsz4 := hB4.size
      have d0 := hD3.lt
      have d1 := hlg3.lt
      have ne0 := b03.lt
      have ne1 := b13.lt
      rw [← hy512] at hr4
      have hdl : d ≠ w.heap.size := by omega
      have hdl1 : d ≠ w.heap.size + 1 := by omega
      have hll0 : l < w.heap.size := hlw
      have hok : frOk y.length 0 p true s = true := by
        rw [hy512]
        exact hfo
      have HS := appS_gives wr l d many w.heap.size W3.heap.size (w.heap.size + 1) gD xs left fr pg sr ep sz fg fc p s A6 c6 y (hD3.grow hB4) hl h1l h2l (hlg3.below hB4 hlg3.lt) (b03.below hB4 b03.lt) m4 (b13.below hB4 b13.lt) hfc1 hfc2 hr4 hfg hy4 (fun g o e _ => by have := hA6 g o e; omega) hld hdl.symm (by omega) hdl1.symm (by omega) (by omega) (by omega) (by omega) hpe0 hok hsz hm11 hmax hsr
      have k0 := (b03.below hB4 b03.lt).boxed
      have kl : wr.cell? ⟨l, 0, none⟩ = some (.pointer (some ⟨d, 0, none⟩)) := by rw [(hlg3.below hB4 hlg3.lt).cell]; rfl
      clear hD3 hlg3 b03 b13 hy3 hx3 t0 t6
      go_wp2_with (go_at_call 47; refine HS.mono ?_; rintro e w9 ⟨rfl, hD9, hl9, hG9⟩)
      go_ret
      exact ⟨rfl, hD9, ⟨_, _, hl9⟩, (GrowBut.below (hBw3.trans (hB4.mono hBw3.size))).trans hG9⟩
end
end Go.Proofs.YtocnabpplbeafaaGreat
/- A disk's state, step by step, in plain words. -/
namespace Go.Proofs.YtocnabpplbeafaaGreat
open Go Go.RowKit Lou

structure DS where
  g : Nat → List UInt8
  xs : List (Nat × List UInt8)
  left : Int
  st : Bool
abbrev DkS (w : World) (d many : Nat) (s : DS) : Prop := DkIs w d many s.g s.xs s.left s.st
def DS.stopped (s : DS) : Bool := s.st && s.left == 0
def DS.push (s : DS) (x : Nat × List UInt8) : DS := ⟨s.g, s.xs ++ [x], lft s.st s.left, s.st⟩
/-- Writes, one behind the other, until one isn't carried out; an error. -/
def wrs : DS → List (Nat × List UInt8) → DS × Int
  | s, [] => (s, 0)
  | s, x :: r => if s.stopped then (s, 140) else wrs (s.push x) r
def synD (s : DS) : DS × Int := if s.stopped then (s, 140) else (⟨laid s.g s.xs, [], lft s.st s.left, s.st⟩, 0)
/-- What a state may be. -/
structure DS.Ok (s : DS) : Prop where
  lo : -1000000 ≤ s.left
  hi : s.left ≤ 9223372036854775807
  pos : s.st = true → 0 ≤ s.left
theorem DS.Ok.lft {s : DS} (h : s.Ok) (hs : s.stopped = false) : -1000000 ≤ lft s.st s.left ∧ lft s.st s.left ≤ 9223372036854775807 ∧ (s.st = true → 0 ≤ lft s.st s.left) := by
  obtain ⟨g, xs, left, st⟩ := s
  obtain ⟨h1, h2, h3⟩ := h
  unfold Proofs.YtocnabpplbeafaaGreat.lft
  simp only [DS.stopped] at *
  cases st
  · simp; omega
  · simp at hs h3 ⊢
    omega
theorem DS.Ok.push {s : DS} (h : s.Ok) (hs : s.stopped = false) (x : Nat × List UInt8) : (s.push x).Ok := by
  obtain ⟨h1, h2, h3⟩ := h.lft hs
  exact ⟨h1, h2, h3⟩
theorem DS.Ok.syn {s : DS} (h : s.Ok) : (synD s).1.Ok := by
  unfold synD
  cases hs : s.stopped
  · obtain ⟨h1, h2, h3⟩ := h.lft hs
    exact ⟨h1, h2, h3⟩
  · exact h
theorem DS.Ok.wrs : ∀ {l : List (Nat × List UInt8)} {s : DS}, s.Ok → (wrs s l).1.Ok
  | [], s, h => h
  | x :: r, s, h => by
    unfold Proofs.YtocnabpplbeafaaGreat.wrs
    cases hs : s.stopped
    · exact DS.Ok.wrs (h.push hs x)
    · exact h
theorem wrs_cons_ok {s : DS} (hs : s.stopped = false) (x : Nat × List UInt8) (r : List (Nat × List UInt8)) : wrs s (x :: r) = wrs (s.push x) r := by simp [wrs, hs]
theorem wrs_cons_bad {s : DS} (hs : s.stopped = true) (x : Nat × List UInt8) (r : List (Nat × List UInt8)) : wrs s (x :: r) = (s, 140) := by simp [wrs, hs]
theorem wrs_append : ∀ (a b : List (Nat × List UInt8)) (s : DS), wrs s (a ++ b) = if (wrs s a).2 = 0 then wrs (wrs s a).1 b else wrs s a
  | [], b, s => by simp [wrs]
  | x :: r, b, s => by
    rw [List.cons_append]
    cases hs : s.stopped
    · rw [wrs_cons_ok hs, wrs_cons_ok hs, wrs_append r b]
    · rw [wrs_cons_bad hs, wrs_cons_bad hs]
      simp
theorem wrs_err : ∀ (l : List (Nat × List UInt8)) (s : DS), (wrs s l).2 = 0 ∨ (wrs s l).2 = 140
  | [], s => .inl rfl
  | x :: r, s => by
    cases hs : s.stopped
    · rw [wrs_cons_ok hs]; exact wrs_err r _
    · rw [wrs_cons_bad hs]; exact .inr rfl
theorem wrs_len : ∀ (l : List (Nat × List UInt8)) (s : DS), (wrs s l).1.xs.length ≤ s.xs.length + l.length
  | [], s => by simp [wrs]
  | x :: r, s => by
    cases hs : s.stopped
    · rw [wrs_cons_ok hs]
      have := wrs_len r (s.push x)
      have e : (s.push x).xs.length = s.xs.length + 1 := by simp [DS.push]
      rw [e] at this
      rw [List.length_cons]
      omega
    · rw [wrs_cons_bad hs]
      simp
theorem wrs_g : ∀ (l : List (Nat × List UInt8)) (s : DS), (wrs s l).1.g = s.g ∧ (wrs s l).1.st = s.st
  | [], s => ⟨rfl, rfl⟩
  | x :: r, s => by
    cases hs : s.stopped
    · rw [wrs_cons_ok hs]; exact wrs_g r (s.push x)
    · rw [wrs_cons_bad hs]; exact ⟨rfl, rfl⟩
theorem wrL_drop (at_ : Nat) (b : List UInt8) (m k : Nat) (hk : k < m) : (wrL at_ b m).drop k = (at_ + k, chunkB b k) :: (wrL at_ b m).drop (k + 1) := by
  have hl : k < (wrL at_ b m).length := by rw [wrL_length]; exact hk
  rw [List.drop_eq_getElem_cons hl]
  simp [wrL]
theorem wrL_drop_all (at_ : Nat) (b : List UInt8) (m : Nat) : (wrL at_ b m).drop m = [] := List.drop_eq_nil_of_le (by rw [wrL_length]; exact Nat.le_refl _)
end Go.Proofs.YtocnabpplbeafaaGreat
/- wal: writing sectors to a log's disk, whatever stop is set. -/
namespace Go.Proofs.YtocnabpplbeafaaGreat
open Go Go.RowKit Lou Go.Shelf
attribute [local go_sem] Oper.semAt_some

set_option maxRecDepth 100000 in
set_option maxHeartbeats 8000000 in
theorem wwriteS_in (n : Nat) (hn : 8 ≤ n) (w : World) (l d many : Nat) (s : DS) (hD : DkS w d many s) (hO : s.Ok) (hl : s.xs.length ≤ 900000)
    (hc : w.cell? ⟨l, 0, none⟩ = some (.pointer (some ⟨d, 0, none⟩))) (hld : l ≠ d) (hll : l < w.heap.size) (at_ m : Nat) (A : Option Addr) (c : Nat) (b : List UInt8) (hin : InB w w.heap.size A c b) (hbl : b.length = 64 * m) (hm : m ≤ 16) (ham : at_ + m ≤ many) (hmax : many ≤ 1000000) :
    CallsIn Fence.wide n Tryz.prog 51 #[.pointer (some ⟨l, 0, none⟩), .int .i64 (at_ : Int), .slice A b.length c] w fun e w' => e = .returned (.int .i64 (wrs s (wrL at_ b m)).2) ∧ DkS w' d many (wrs s (wrL at_ b m)).1 ∧ w.grownBy w' (some d) := by
  have h1 : 1 ≤ n := by omega
  have hdl := hD.lt
  have b0 := ((BlkIs.new w 143 #[.pointer (some ⟨l, 0, none⟩)]).alloc (.cells #[.int .i64 (at_ : Int)] 3)).alloc (.cells #[.int .i64 0] 29)
  have b1 := (BlkIs.new (w.alloc (.cells #[.pointer (some ⟨l, 0, none⟩)] 143)) 3 #[.int .i64 (at_ : Int)]).alloc (.cells #[.int .i64 0] 29)
  have b2 := BlkIs.new ((w.alloc (.cells #[.pointer (some ⟨l, 0, none⟩)] 143)).alloc (.cells #[.int .i64 (at_ : Int)] 3)) 29 #[.int .i64 0]
  rw [World.size_alloc] at b1
  rw [World.size_alloc, World.size_alloc] at b2
  have hB0 : Below w.heap.size w (((w.alloc (.cells #[.pointer (some ⟨l, 0, none⟩)] 143)).alloc (.cells #[.int .i64 (at_ : Int)] 3)).alloc (.cells #[.int .i64 0] 29)) :=
    (((Below.refl _ w).alloc (Nat.le_refl _) _).alloc (by simp) _).alloc (by simp; omega) _
  have HC := cut_gives _ A c b ((hin.below hB0).more hB0.size) (by omega)
  have HBL := Lib.hid hbl
  have hb9 : b.length ≤ 1024 := by omega
  clear hbl
  refine callsIn_of_wp_marks Tryz.func51 rfl trivial ?_ rfl
  simp only [Tryz.ntmps51, List.size_toArray, List.length_cons, List.length_nil, Nat.reduceAdd, Nat.reduceSub, Array.replicate_succ, Array.replicate_zero, List.push_toArray, List.append_toArray, List.nil_append, List.cons_append]
  gi_wp2_with (refine ⟨trivial, ?_⟩; gi_at_call 91; refine (callsIn_wide.2 HC).mono ?_; rintro e W4 ⟨gB, A2, c2, rfl, hgb, hin2, hB4⟩)
  obtain ⟨hBw⟩ : Nonempty (Below w.heap.size w W4) := ⟨hB0.trans (hB4.mono hB0.size)⟩
  have hsz0 : w.heap.size + 3 ≤ W4.heap.size := by have := hB4.size; simp at this; omega
  have hD4 := hD.grow hBw
  have c0 := b0.below hB4 b0.lt
  have c1 := b1.below hB4 b1.lt
  have c2' := b2.below hB4 b2.lt
  have hc4 : W4.cell? ⟨l, 0, none⟩ = some (.pointer (some ⟨d, 0, none⟩)) := (hBw.cell (p := ⟨l, 0, none⟩) hll).trans hc
  have hG4 : w.grownBy W4 (some d) := ⟨hBw.os, hBw.tape, hBw.output, hBw.size, fun k hk _ => hBw.block k hk⟩
  have hMu : 0 < b.length → ∀ g o, A2 = some ⟨g, o, none⟩ → ¬ g = d := fun h0 g o e => by
    subst e
    obtain ⟨r, A', c', hb, _⟩ := hD4.has
    exact hin2.notDisk h0 hb
  clear b0 b1 b2 hB0 HC hD hc hin hB4
  · refine wpIn_rangeFunc_S rfl h1 (gf := 120) (lb := #[.pointer (some ⟨gB, 0, none⟩)]) rfl trivial (enters_of Tryz.func120 (by kernel_rfl) rfl)
      (cut1_seqS (n₀ := W4.heap.size) (n - 1) (by omega) gB A2 c2 b (by omega) (fun k => k = d) hMu W4 hgb.lt (Nat.le_refl _) hgb.boxed hin2) (Below.refl _ _) (fun _ => rfl)
      (fun pre V => (∃ s' : DS, DkS V d many s' ∧ s'.Ok ∧ s'.xs.length ≤ s.xs.length + pre.length ∧ wrs s (wrL at_ b m) = wrs s' ((wrL at_ b m).drop pre.length)) ∧ BlkIs V w.heap.size 143 #[.pointer (some ⟨l, 0, none⟩)] ∧ BlkIs V (w.heap.size + 1) 3 #[.int .i64 (at_ : Int)] ∧ BlkIs V (w.heap.size + 1 + 1) 29 #[.int .i64 0] ∧ V.cell? ⟨l, 0, none⟩ = some (.pointer (some ⟨d, 0, none⟩)) ∧ w.grownBy V (some d) ∧ W4.heap.size ≤ V.heap.size)
      (fun c _ V => c = .ret ∧ DkS V d many (wrs s (wrL at_ b m)).1 ∧ (wrs s (wrL at_ b m)).2 = 140 ∧ BlkIs V (w.heap.size + 1 + 1) 29 #[.int .i64 140] ∧ w.grownBy V (some d) ∧ W4.heap.size ≤ V.heap.size)
      ?own ?own2 ?ownR ⟨⟨s, hD4, hO, Nat.le_add_right _ _, rfl⟩, c0, c1, c2', hc4, hG4, Nat.le_refl _⟩ ?act ?assign ?body ?done ?stop
    case own =>
      rintro pre X Y row ⟨⟨s', i1, io⟩, i2, i3, i4, i5, i6, i7⟩ hgr hr
      have hr1 : ∀ r, row = some r → W4.heap.size ≤ r := fun r e => (hr r e).1
      exact ⟨⟨s', i1.abSm (B := W4.heap.size) (by omega) hgr hr, io⟩, i2.abN (B := W4.heap.size) (by omega) hgr hr1, i3.abN (B := W4.heap.size) (by omega) hgr hr1, i4.abN (B := W4.heap.size) (by omega) hgr hr1, cell_grown i5 hgr (by simp; omega) (fun e => by have := hr1 _ e.symm; simp at this; omega), grownBy_rest i6 hgr (by omega) hr1, Nat.le_trans i7 hgr.size⟩
    case own2 =>
      rintro c pre X Y row ⟨e1, i1, e2, i4, i6, i7⟩ hgr hr
      have hr1 : ∀ r, row = some r → W4.heap.size ≤ r := fun r e => (hr r e).1
      exact ⟨e1, i1.abSm (B := W4.heap.size) (by omega) hgr hr, e2, i4.abN (B := W4.heap.size) (by omega) hgr hr1, grownBy_rest i6 hgr (by omega) hr1, Nat.le_trans i7 hgr.size⟩
    case ownR =>
      rintro pre x _ X Y row ⟨e1, e2, e3⟩ hgr hr
      exact ⟨e1, e2, InB.ownFrom (B := W4.heap.size) _ _ _ () X Y row e3 hgr hr⟩
    case assign =>
      intro l1 x V K hK
      simp only [cutEnc]
      gi_wp2
      exact hK
    case body =>
      rintro l1 pre ⟨x1, A6, c6⟩ V ⟨⟨s', i1, io, il, ie⟩, i2, i3, i4, i5, i6, i7⟩ ⟨hx1, hx2, hx3⟩
      simp only at hx1 hx2 hx3
      subst hx1
      have hbl := HBL.out
      have hk : pre.length < m := by omega
      have hch : chLen b.length pre.length = 64 := by unfold chLen; omega
      have hcl : (chunkB b pre.length).length = 64 := by rw [chunkB_length, hch]
      have hWR : Calls Tryz.prog 92 #[.pointer (some ⟨d, 0, none⟩), .int .i64 ((at_ + pre.length : Nat) : Int), .slice A6 64 c6] V.drew fun e w' => ∃ (x : Int) (s6 : DS), e = .returned (.int .i64 x) ∧ ((x = 0 ∧ s'.stopped = false ∧ s6 = s'.push (at_ + pre.length, chunkB b pre.length)) ∨ (x = 140 ∧ s'.stopped = true ∧ s6 = s')) ∧ DkS w' d many s6 ∧ V.drew.grownBy w' (some d) := by
        cases hs : s'.stopped
        · refine (write_ok V.drew d many s'.g s'.xs s'.left s'.st (i1.grow (Below.refl _ _).drew) hs (at_ + pre.length) (by omega) A6 c6 _ hcl (hx3.drew) (by omega) io.lo io.hi).mono ?_
          rintro e w' ⟨rfl, hD6, hg6, _⟩
          exact ⟨0, _, rfl, .inl ⟨rfl, rfl, rfl⟩, hD6, hg6⟩
        · refine (write_stop V.drew d many s'.g s'.xs s'.left s'.st (i1.grow (Below.refl _ _).drew) hs (at_ + pre.length) (by omega) A6 c6).mono ?_
          rintro e w' ⟨rfl, hB6⟩
          exact ⟨140, _, rfl, .inr ⟨rfl, rfl, rfl⟩, (i1.grow (Below.refl _ _).drew).grow hB6, ⟨hB6.os, hB6.tape, hB6.output, hB6.size, fun k hk _ => hB6.block k hk⟩⟩
      have HW := hWR
      rw [Int.natCast_add] at HW
      have h11 : 1 ≤ n - 1 - 1 := by omega
      have k0 := i2.boxed
      have k1 := i3.boxed
      have k2 := i4.boxed
      have hwa : IntKind.i64.wrap ((at_ : Int) + (pre.length : Int)) = (at_ : Int) + (pre.length : Int) := by rw [wrap_i64_fr _ (by omega) (by omega)]
      simp only [hch]
      clear hbl hch hcl hx2 hMu hWR
      have hS0 : V.drew.cell? ⟨w.heap.size, 0, none⟩ = some (.pointer (some ⟨l, 0, none⟩)) ∧ V.drew.cell? ⟨l, 0, none⟩ = some (.pointer (some ⟨d, 0, none⟩)) ∧ V.drew.cell? ⟨w.heap.size + 1, 0, none⟩ = some (.int .i64 (at_ : Int)) := ⟨k0, i5, k1⟩
      gi_wp2_with fail
      refine RegF.startR (fun W : World => W.cell? ⟨w.heap.size, 0, none⟩ = some (.pointer (some ⟨l, 0, none⟩)) ∧ W.cell? ⟨l, 0, none⟩ = some (.pointer (some ⟨d, 0, none⟩)) ∧ W.cell? ⟨w.heap.size + 1, 0, none⟩ = some (.int .i64 (at_ : Int))) 9 (by kernel_rfl) (by kernel_rfl) ?_
      refine RegF.take 0 (.pointer (some ⟨l, 0, none⟩)) rfl (by kernel_rfl) (by kernel_rfl) (by kernel_rfl) (by kernel_rfl) (fun _ _ _ h => h) hS0 (RegF.yld rfl (fun W hW => by obtain ⟨e0, e1, e2⟩ := hW; go_simp)) ?_
      simp only [List.getElem_toArray, List.getElem_cons_zero, Act.put, List.setIfInBounds_toArray, List.set_cons_zero, List.set_cons_succ]
      refine RegF.take 1 (.pointer (some ⟨l, 0, none⟩)) rfl (by kernel_rfl) (by kernel_rfl) (by kernel_rfl) (by kernel_rfl) (fun _ _ _ h => h) hS0 (RegF.yld rfl (fun W hW => by obtain ⟨e0, e1, e2⟩ := hW; go_simp)) ?_
      simp only [List.getElem_toArray, List.getElem_cons_succ, List.getElem_cons_zero, Act.put, List.setIfInBounds_toArray, List.set_cons_zero, List.set_cons_succ]
      refine RegF.take 2 (.pointer (some ⟨l, 0, none⟩)) rfl (by kernel_rfl) (by kernel_rfl) (by kernel_rfl) (by kernel_rfl) (fun _ _ _ h => h) hS0 (RegF.yld rfl (fun W hW => by obtain ⟨e0, e1, e2⟩ := hW; go_simp)) ?_
      simp only [List.getElem_toArray, List.getElem_cons_succ, List.getElem_cons_zero, Act.put, List.setIfInBounds_toArray, List.set_cons_zero, List.set_cons_succ]
      refine RegF.take 3 (.pointer (some ⟨d, 0, none⟩)) rfl (by kernel_rfl) (by kernel_rfl) (by kernel_rfl) (by kernel_rfl) (fun _ _ _ h => h) hS0 (RegF.yld rfl (fun W hW => by obtain ⟨e0, e1, e2⟩ := hW; go_simp)) ?_
      simp only [List.getElem_toArray, List.getElem_cons_succ, List.getElem_cons_zero, Act.put, List.setIfInBounds_toArray, List.set_cons_zero, List.set_cons_succ]
      refine RegF.take 4 (.int .i64 (at_ : Int)) rfl (by kernel_rfl) (by kernel_rfl) (by kernel_rfl) (by kernel_rfl) (fun _ _ _ h => h) hS0 (RegF.yld rfl (fun W hW => by obtain ⟨e0, e1, e2⟩ := hW; go_simp)) ?_
      simp only [List.getElem_toArray, List.getElem_cons_succ, List.getElem_cons_zero, Act.put, List.setIfInBounds_toArray, List.set_cons_zero, List.set_cons_succ]
      refine RegF.take 5 (.int .i64 (pre.length : Int)) rfl (by kernel_rfl) (by kernel_rfl) (by kernel_rfl) (by kernel_rfl) (fun _ _ _ h => h) hS0 (RegF.yld rfl (fun W hW => by obtain ⟨e0, e1, e2⟩ := hW; go_simp)) ?_
      simp only [List.getElem_toArray, List.getElem_cons_succ, List.getElem_cons_zero, Act.put, List.setIfInBounds_toArray, List.set_cons_zero, List.set_cons_succ]
      refine RegF.take 6 (.int .i64 ((at_ : Int) + (pre.length : Int))) rfl (by kernel_rfl) (by kernel_rfl) (by kernel_rfl) (by kernel_rfl) (fun _ _ _ h => h) hS0 (RegF.yld rfl (fun W hW => by obtain ⟨e0, e1, e2⟩ := hW; go_simp)) ?_
      simp only [List.getElem_toArray, List.getElem_cons_succ, List.getElem_cons_zero, Act.put, List.setIfInBounds_toArray, List.set_cons_zero, List.set_cons_succ]
      refine RegF.take 7 (.slice A6 64 c6) rfl (by kernel_rfl) (by kernel_rfl) (by kernel_rfl) (by kernel_rfl) (fun _ _ _ h => h) hS0 (RegF.yld rfl (fun W hW => by obtain ⟨e0, e1, e2⟩ := hW; go_simp)) ?_
      simp only [List.getElem_toArray, List.getElem_cons_succ, List.getElem_cons_zero, Act.put, List.setIfInBounds_toArray, List.set_cons_zero, List.set_cons_succ]
      refine RegF.one 8 (by kernel_rfl) ?_
      refine RegF.opC 92 #[.tmp 17, .tmp 20, .tmp 21] #[28, 3, 38] rfl rfl rfl (enters_of Tryz.func92 (by kernel_rfl) rfl) #[.pointer (some ⟨d, 0, none⟩), .int .i64 ((at_ : Int) + (pre.length : Int)), .slice A6 64 c6] (by simp only [List.map_toArray, List.map_cons, List.map_nil]; rfl) (HW.mono ?_)
      rintro e W6 ⟨z, s6, rfl, hz, hD6, hg6⟩
      have gV6 : V.grownBy W6 (some d) := (grownBy_drew V (some d)).trans hg6
      have q0 := i2.grown gV6 (fun e => by injection e with e; omega)
      have q1 := i3.grown gV6 (fun e => by injection e with e; omega)
      have q2 := i4.grown gV6 (fun e => by injection e with e; omega)
      have q3 : W6.cell? ⟨l, 0, none⟩ = some (.pointer (some ⟨d, 0, none⟩)) := cell_grown i5 gV6 (by show l < V.heap.size; omega) (fun e => by injection e with e; exact hld e)
      have q6 := gV6.size
      refine ⟨_, rfl, fun _ => ⟨q0.boxed, q3, q1.boxed⟩, ?_⟩
      simp only [List.getElem_toArray, List.getElem_cons_succ, List.getElem_cons_zero, Act.put, List.setIfInBounds_toArray, List.set_cons_zero, List.set_cons_succ]
      refine RegF.one 9 (by kernel_rfl) (RegF.opV (w' := W6) (.int .i64 z) rfl rfl (by go_simp) ⟨fun h => absurd rfl h, RegF.done (by kernel_rfl) ?_⟩)
      simp only [List.getElem_toArray, List.getElem_cons_succ, List.getElem_cons_zero, Act.put, List.setIfInBounds_toArray, List.set_cons_zero, List.set_cons_succ]
      have hKO : KeepOut (fun k => k = d) W4.heap.size V W6 := ⟨q6, fun k o hk hm => (gV6.block k (Array.getElem?_eq_some_iff.1 hk).1 (fun e => by injection e with e; exact hm (by omega) e)).trans hk⟩
      have hGW := i6.trans gV6
      have hdr := wrL_drop at_ b m pre.length hk
      have q2c := q2.boxed
      have q2f := q2.free 0
      clear HW hS0 hg6 k0 k1 k2 hwa hx3
      dsimp only [NoOut]
      rcases hz with ⟨rfl, hs, rfl⟩ | ⟨rfl, hs, rfl⟩
      · gi_wp2
        refine ⟨hKO, ⟨_, hD6, io.push hs _, ?_, ?_⟩, q0, q1, q2, q3, hGW, by omega⟩
        · simp [DS.push]
          omega
        · rw [ie, hdr, wrs_cons_ok hs]
          simp
      · gi_wp2
        have q7 := q2.set 0 (.int .i64 140)
        have g7 := setCell_grown W6 ⟨w.heap.size + 1 + 1, 0, none⟩ (.int .i64 140)
        have e7 : wrs s (wrL at_ b m) = (s6, 140) := by rw [ie, hdr, wrs_cons_bad hs]
        refine ⟨⟨Nat.le_trans hKO.1 g7.size, fun k o hk hm => (Below.heap_setCell W6 _ _ k (fun e => by subst e; exact hm (by simp; omega) trivial)).trans (hKO.2 k o hk (fun hb h => hm hb trivial))⟩, rfl, ?_, ?_, q7, ?_, ?_⟩
        · rw [e7]
          exact hD6.setOther q2 (by show 1 ≤ 64; decide) (by omega) ⟨w.heap.size + 1 + 1, 0, none⟩ _ rfl
        · rw [e7]
        · exact grownBy_rest hGW g7 (Nat.le_refl _) (fun r e => by injection e with e; simp at e; omega)
        · simp
          omega
    case done =>
      rintro D ys V hD hS ⟨⟨s', i1, io, il, ie⟩, i2, i3, i4, i5, i6, i7⟩ hK
      have hbl := HBL.out
      have hm3 : ys.length = m := by rw [hS]; unfold chAll; omega
      rw [hm3, wrL_drop_all] at ie
      have e1 : (wrs s (wrL at_ b m)).1 = s' := by rw [ie]; rfl
      have e2 : (wrs s (wrL at_ b m)).2 = 0 := by rw [ie]; rfl
      clear ie
      have k3 := i4.boxed
      have f3 := i4.free 0
      gi_wp2
      have b6 := i4.set 0 (.int .i64 0)
      have hE1 : (V.setCell ⟨w.heap.size + 1 + 1, 0, none⟩ (.int .i64 0)).heap[D]? = some (.deferred (some [])) := (Below.heap_setCell V ⟨w.heap.size + 1 + 1, 0, none⟩ (.int .i64 0) D (by simp; omega)).trans hK
      have g1 := setCell_grown V ⟨w.heap.size + 1 + 1, 0, none⟩ (.int .i64 0)
      have hD1 := i1.abSm (B := w.heap.size) hdl g1 (fun r e => by cases e; exact ⟨by simp; omega, _, i4, by decide, rfl⟩)
      have hG1 := grownBy_rest i6 g1 (Nat.le_refl _) (fun r e => by cases e; simp; omega)
      clear k3 f3 g1 i1 i2 i3 i4 i5 i6 hK
      generalize V.setCell ⟨w.heap.size + 1 + 1, 0, none⟩ (.int .i64 0) = Z at *
      have g2 := grownBy_putObj' Z D (.deferred none)
      have hD2 := hD1.abSm (B := w.heap.size) hdl g2 (fun r e => by cases e; exact ⟨by omega, _, hE1, trivial⟩)
      have hG2 := grownBy_rest hG1 g2 (Nat.le_refl _) (fun r e => by cases e; omega)
      refine ⟨by simp, .inl ⟨D, _, rfl, run_takeDeferred hE1, ?_⟩⟩
      have b7 : BlkIs (Z.putObj D (.deferred none)) (w.heap.size + 1 + 1) 29 #[.int .i64 0] := (putObj_oth Z D (.deferred none) (g := w.heap.size + 1 + 1) (by omega)).trans b6
      exact ⟨.int .i64 0, results_cellQ (p := ⟨w.heap.size + 1 + 1, 0, none⟩) 6 rfl rfl (by simp [go_sem]) b7.boxed, by rw [e2], by rw [e1]; exact hD2, hG2⟩
    case stop =>
      rintro D c pre V hD hS ⟨rfl, i1, ie, i4, i6, i7⟩ hK
      gi_wp2
      have g2 := grownBy_putObj' V D (.deferred none)
      have hD2 := i1.abSm (B := w.heap.size) hdl g2 (fun r e => by cases e; exact ⟨by omega, _, hK, trivial⟩)
      have hG2 := grownBy_rest i6 g2 (Nat.le_refl _) (fun r e => by cases e; omega)
      refine ⟨by simp, .inl ⟨D, _, rfl, run_takeDeferred hK, ?_⟩⟩
      have b7 : BlkIs (V.putObj D (.deferred none)) (w.heap.size + 1 + 1) 29 #[.int .i64 140] := (putObj_oth V D (.deferred none) (g := w.heap.size + 1 + 1) (by omega)).trans i4
      exact ⟨.int .i64 140, results_cellQ (p := ⟨w.heap.size + 1 + 1, 0, none⟩) 6 rfl rfl (by simp [go_sem]) b7.boxed, by rw [ie], hD2, hG2⟩
theorem wwriteS_gives (w : World) (l d many : Nat) (s : DS) (hD : DkS w d many s) (hO : s.Ok) (hl : s.xs.length ≤ 900000)
    (hc : w.cell? ⟨l, 0, none⟩ = some (.pointer (some ⟨d, 0, none⟩))) (hld : l ≠ d) (hll : l < w.heap.size) (at_ m : Nat) (A : Option Addr) (c : Nat) (b : List UInt8) (hin : InB w w.heap.size A c b) (hbl : b.length = 64 * m) (hm : m ≤ 16) (ham : at_ + m ≤ many) (hmax : many ≤ 1000000) :
    Calls Tryz.prog 51 #[.pointer (some ⟨l, 0, none⟩), .int .i64 (at_ : Int), .slice A b.length c] w fun e w' => e = .returned (.int .i64 (wrs s (wrL at_ b m)).2) ∧ DkS w' d many (wrs s (wrL at_ b m)).1 ∧ w.grownBy w' (some d) :=
  callsIn_wide.1 (wwriteS_in 8 (Nat.le_refl _) w l d many s hD hO hl hc hld hll at_ m A c b hin hbl hm ham hmax)
end Go.Proofs.YtocnabpplbeafaaGreat
