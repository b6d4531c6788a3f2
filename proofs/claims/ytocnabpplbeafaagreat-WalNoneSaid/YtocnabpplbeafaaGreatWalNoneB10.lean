/- Texts that the proof of WalNone leans on, part 10. -/
import Derived.Shelf.SlIterI.Nil
import Derived.Shelf.SortM.Plain
import Derived.Shelf.SortM.SortNone
import Derived.Test.YtocnabpplbeafaaGreatWalNoneB9
/- wal: the things that Append of one page does, one behind the other. -/
namespace Go.Proofs.YtocnabpplbeafaaGreat
open Go Go.RowKit Lou

section
variable (w : World) (l d many lb mb szb : Nat) (g : Nat → List UInt8) (xs : List (Nat × List UInt8)) (left : Int) (fr pg : Int) (sr ep : Nat) (sz : Int)
def apFs (lb mb szb d : Nat) : List FnV := [⟨48, #[], #[.pointer (some ⟨mb, 0, none⟩), .pointer (some ⟨lb, 0, none⟩)]⟩, ⟨52, #[.pointer (some ⟨d, 0, none⟩)], #[]⟩, ⟨53, #[], #[.pointer (some ⟨lb, 0, none⟩), .pointer (some ⟨mb, 0, none⟩)]⟩, ⟨54, #[], #[.pointer (some ⟨mb, 0, none⟩), .pointer (some ⟨szb, 0, none⟩), .pointer (some ⟨lb, 0, none⟩)]⟩]
def apCs (lb mb szb d : Nat) : Array Value := #[.func (.func 48) #[] #[.pointer (some ⟨mb, 0, none⟩), .pointer (some ⟨lb, 0, none⟩)], .func (.func 52) #[.pointer (some ⟨d, 0, none⟩)] #[], .func (.func 53) #[] #[.pointer (some ⟨lb, 0, none⟩), .pointer (some ⟨mb, 0, none⟩)], .func (.func 54) #[] #[.pointer (some ⟨mb, 0, none⟩), .pointer (some ⟨szb, 0, none⟩), .pointer (some ⟨lb, 0, none⟩)]]
set_option maxRecDepth 100000 in
set_option maxHeartbeats 8000000 in
theorem appS_gives (fg fc : Nat) (p : Int) (s : Int) (Ay : Option Addr) (ky : Nat) (y : List UInt8) (hD : DkIs w d many g xs left false) (hl : xs.length ≤ 800000) (h1l : -1000000 ≤ left) (h2l : left ≤ 9223372036854775807) (hlg : BlkIs w l 57 (lgC (some ⟨d, 0, none⟩) fr pg sr ep sz none 0 0)) (hlb : BlkIs w lb 33 #[.pointer (some ⟨l, 0, none⟩)]) (hmb : BlkIs w mb 55 #[.slice (some ⟨fg, 0, none⟩) 1 fc]) (hsb : BlkIs w szb 3 #[.int .i64 s])
    (hfc : 1 ≤ fc) (hfm : fc ≤ 9223372036854775807) (hfr : w.rangeAt fg 0 (frCells ep 0 p true s 0 Ay y.length ky).toList) (hfg : fg < w.heap.size) (hy : InB w w.heap.size Ay ky y) (hlby : ∀ g o, Ay = some ⟨g, o, none⟩ → 0 < y.length → g ≠ d)
    (hld : l ≠ d) (hlbd : lb ≠ d) (hmbd : mb ≠ d) (hsbd : szb ≠ d) (hfgd : fg ≠ d) (n1 : l ≠ lb) (n2 : l ≠ mb) (n3 : l ≠ szb) (hpl : plE (planOk fr pg) 0 fr = 0) (hok : frOk y.length 0 p true s = true) (hoh : headOk sz 1 = true) (hm11 : 11 ≤ many) (hmax : many ≤ 1000000) (hsr : sr + 1 < 18446744073709551616) :
    Calls Tryz.prog 47 #[.slice (some ⟨w.heap.size, 0, none⟩) 4 4] (w.alloc (.cells (apCs lb mb szb d) 42)) fun e w' => e = .returned (.int .i64 0) ∧ (∃ g', DkIs w' d many g' [] left false) ∧ BlkIs w' l 57 (lgC (some ⟨d, 0, none⟩) fr pg (sr + 1) ep s (some ⟨fg, 0, none⟩) 1 fc) ∧ GrowBut (fun k => k = d ∨ k = l) w w' := by
  have hdl := hD.lt
  have hll := hlg.lt
  have q1 := hlb.lt
  have q2 := hmb.lt
  have q3 := hsb.lt
  obtain ⟨V, hV⟩ : ∃ V, V = w.alloc (.cells (apCs lb mb szb d) 42) := ⟨_, rfl⟩
  have hBV : Below w.heap.size w V := by rw [hV]; exact (Below.refl _ w).alloc (Nat.le_refl _) _
  have f0 : BlkIs V w.heap.size 42 (apCs lb mb szb d) := by rw [hV]; exact BlkIs.new w _ _
  rw [← hV]
  clear hV
  have HS := steps_gives V w.heap.size 4 (apFs lb mb szb d)
    (fun k W => (BlkIs W lb 33 #[.pointer (some ⟨l, 0, none⟩)] ∧ BlkIs W mb 55 #[.slice (some ⟨fg, 0, none⟩) 1 fc] ∧ BlkIs W szb 3 #[.int .i64 s] ∧ BlkIs W w.heap.size 42 (apCs lb mb szb d) ∧ GrowBut (fun k => k = d ∨ k = l) w W) ∧
      (k = 0 → W = V) ∧
      (k = 1 → (∃ xs', xs'.length ≤ xs.length + 9 ∧ DkIs W d many g xs' left false) ∧ BlkIs W l 57 (lgC (some ⟨d, 0, none⟩) fr pg sr ep sz none 0 0)) ∧
      (k = 2 → (∃ g', DkIs W d many g' [] left false) ∧ BlkIs W l 57 (lgC (some ⟨d, 0, none⟩) fr pg sr ep sz none 0 0)) ∧
      (k = 3 → (∃ g', DkIs W d many g' [] left false) ∧ BlkIs W l 57 (lgC (some ⟨d, 0, none⟩) fr pg (sr + 1) ep sz none 0 0)) ∧
      (k = 4 → (∃ g', DkIs W d many g' [] left false) ∧ BlkIs W l 57 (lgC (some ⟨d, 0, none⟩) fr pg (sr + 1) ep s (some ⟨fg, 0, none⟩) 1 fc)))
    (fun _ _ => False) (by show 4 ≤ 100; omega)
    (by
      rintro k hk W ⟨⟨_, _, _, h4, _⟩, _⟩
      rw [h4.cell]
      match k, hk with
      | 0, _ => rfl
      | 1, _ => rfl
      | 2, _ => rfl
      | 3, _ => rfl
      | k + 4, h => exact absurd h (by simp [apFs]))
    (by
      rintro k hk W ⟨⟨h1, h2, h3, h4, h5⟩, r0, r1, r2, r3, _⟩
      have hsz := h5.size
      have m0 : some lb ≠ some d := fun e => by injection e with e; exact hlbd e
      have m1 : some mb ≠ some d := fun e => by injection e with e; exact hmbd e
      have m2 : some szb ≠ some d := fun e => by injection e with e; exact hsbd e
      have m3 : some w.heap.size ≠ some d := fun e => by injection e with e; omega
      have m4 : some l ≠ some d := fun e => by injection e with e; exact hld e
      match k, hk with
      | 0, _ =>
        obtain rfl := r0 rfl
        refine ⟨enters_of Tryz.func48 (by kernel_rfl) rfl, (app1_gives W l d many lb mb g xs left fr pg sr ep sz 0 fg fc ep p true s 0 Ay ky y (hD.grow hBV) (by omega) h1l h2l (hlg.below hBV hll) h1 h2 hfc hfm (fun j v hj => (hBV.cell (p := ⟨fg, 0 + j, none⟩) hfg).trans (hfr j v hj)) (Nat.lt_of_lt_of_le hfg hBV.size) ((hy.below hBV).more hBV.size) hlby hld hlbd hmbd hfgd hpl hok hm11 hmax).mono ?_⟩
        rintro e w2 ⟨rfl, hx, hg2⟩
        exact .inl ⟨rfl, ⟨h1.grown hg2 m0, h2.grown hg2 m1, h3.grown hg2 m2, h4.grown hg2 m3, h5.trans (GrowBut.grown hg2 (fun r e => by cases e; exact .inl (.inl rfl)))⟩, (fun e => by cases e), (fun _ => ⟨hx, (hlg.below hBV hll).grown hg2 m4⟩), (fun e => by cases e), (fun e => by cases e), (fun e => by cases e)⟩
      | 1, _ =>
        obtain ⟨⟨xs', hxl, hDw⟩, hlw⟩ := r1 rfl
        refine ⟨enters_of Tryz.func52 (by kernel_rfl) rfl, (sync_gives W d many g _ left false hDw rfl (by omega) h1l h2l).mono ?_⟩
        rintro e w2 ⟨rfl, hD2, hg2⟩
        exact .inl ⟨rfl, ⟨h1.grown hg2 m0, h2.grown hg2 m1, h3.grown hg2 m2, h4.grown hg2 m3, h5.trans (GrowBut.grown hg2 (fun r e => by cases e; exact .inl (.inl rfl)))⟩, (fun e => by cases e), (fun e => by cases e), (fun _ => ⟨⟨_, hD2⟩, hlw.grown hg2 m4⟩), (fun e => by cases e), (fun e => by cases e)⟩
      | 2, _ =>
        obtain ⟨⟨g', hDw⟩, hlw⟩ := r2 rfl
        refine ⟨enters_of Tryz.func53 (by kernel_rfl) rfl, (app2_gives W l d many lb mb g' [] left fr pg sr ep sz none 0 0 (some ⟨fg, 0, none⟩) 1 fc hDw (by decide) h1l h2l hlw h1 h2 hld hoh (by omega) hmax hsr).mono ?_⟩
        rintro e w2 ⟨rfl, hD2, hl2, hG2⟩
        have z (q : Nat) (hq : q ≠ d) (hq2 : l ≠ q) : ¬ (q = d ∨ q = l) := fun e => by rcases e with e | e; exact hq e; exact hq2 e.symm
        exact .inl ⟨rfl, ⟨hG2.blk h1 (z _ hlbd n1), hG2.blk h2 (z _ hmbd n2), hG2.blk h3 (z _ hsbd n3), hG2.blk h4 (z _ (by omega) (by omega)), h5.trans hG2⟩, (fun e => by cases e), (fun e => by cases e), (fun e => by cases e), (fun _ => ⟨hD2, hl2⟩), (fun e => by cases e)⟩
      | 3, _ =>
        obtain ⟨⟨g', hDw⟩, hlw⟩ := r3 rfl
        refine ⟨enters_of Tryz.func54 (by kernel_rfl) rfl, (app3_gives W l lb mb fr pg (sr + 1) ep sz szb (some ⟨d, 0, none⟩) none 0 0 (some ⟨fg, 0, none⟩) 1 fc s hlw h1 h2 h3 n1 n2 n3).mono ?_⟩
        rintro e w2 ⟨rfl, rfl, hl2⟩
        have hld' : d ≠ l := fun e => hld e.symm
        have hl1 := hlw.drew.set 6 (.slice (some ⟨fg, 0, none⟩) 1 fc)
        have z : w.heap.size ≠ l := by omega
        exact .inl ⟨rfl, ⟨(h1.drew.other (fun e => n1 e.symm) _).other (fun e => n1 e.symm) _, (h2.drew.other (fun e => n2 e.symm) _).other (fun e => n2 e.symm) _, (h3.drew.other (fun e => n3 e.symm) _).other (fun e => n3 e.symm) _, (h4.drew.other z _).other z _,
          ((h5.trans (GrowBut.grown (grownBy_drew W none) (fun r e => by cases e))).trans (GrowBut.setCell _ _ _ (.inr rfl))).trans (GrowBut.setCell _ _ _ (.inr rfl))⟩, (fun e => by cases e), (fun e => by cases e), (fun e => by cases e), (fun e => by cases e), (fun _ => ⟨⟨g', ((hDw.grow (Below.refl _ _).drew).setOther hlw.drew (by show 7 ≤ 64; decide) hld' _ _ rfl).setOther hl1 (by simp; show 7 ≤ 64; decide) hld' _ _ rfl⟩, hl2⟩)⟩
      | k + 4, h => exact absurd h (by simp [apFs]))
    ⟨⟨hlb.below hBV q1, hmb.below hBV q2, hsb.below hBV q3, f0, GrowBut.below hBV⟩, (fun _ => rfl), (fun e => by cases e), (fun e => by cases e), (fun e => by cases e), (fun e => by cases e)⟩
  refine HS.mono ?_
  rintro e w2 (⟨rfl, ⟨_, _, _, _, h5⟩, _, _, _, _, r4⟩ | ⟨x, _, _, hx⟩)
  · obtain ⟨r5, r6⟩ := r4 rfl
    exact ⟨rfl, r5, r6, h5⟩
  · exact hx.elim
end
end Go.Proofs.YtocnabpplbeafaaGreat
/- wal: Append of one page to a log without frames. -/
namespace Go.Proofs.YtocnabpplbeafaaGreat
open Go Go.RowKit Lou

theorem pw_one (p : Int) (A : Option Addr) (n c : Nat) : ∀ v ∈ (#[.int .i64 p, .slice A n c] : Array Value).toList, v.oneCell' = true := by
  intro v hv
  simp at hv
  rcases hv with rfl | rfl <;> rfl
theorem x_storeR {P : Program} {w : World} {ρ : Operand → Value} {o : Oper} (T : TypeId) (x y : Operand) (ho : o.op = .store T x y) (g : Nat) {t : TypeId} {cs cs' : Array Value} (hx : ρ x = .pointer (some ⟨g, 0, none⟩)) (hy : ρ y = .agg cs') {n : Nat} (hT : RowTy P T n) (hb : BlkIs w g t cs) (hn : cs.size = n)
    (hs : cs'.size = cs.size) (h1 : ∀ v ∈ cs'.toList, v.oneCell' = true) : (execOp ρ o).run P w = .ok .skip (w.setRow g cs') := by
  unfold execOp
  simp only [ho, hx, hy, Instr.storeAt, Instr.sureAddr, Sem.run_bind, Sem.run_pure, Result.andThen_ok, run_storeW (hn ▸ hT) hb hs h1]
theorem zf_no (o : Nat) (x : UInt8) : (#[.int .u64 0, .int .i64 0, .int .i64 0, .bool false, .int .i64 0, .int .u32 0, .slice none 0 0] : Array Value)[o]? ≠ some (b8 x) := by
  match o with
  | 0 => simp [b8]
  | 1 => simp [b8]
  | 2 => simp [b8]
  | 3 => simp [b8]
  | 4 => simp [b8]
  | 5 => simp [b8]
  | 6 => simp [b8]
  | n + 7 => simp
theorem fr_no (e : Nat) (i p : Int) (f : Bool) (z : Int) (n : Nat) (A : Option Addr) (len k : Nat) (o : Nat) (x : UInt8) : (frCells e i p f z n A len k)[o]? ≠ some (b8 x) := by
  unfold frCells
  match o with
  | 0 => simp [b8]
  | 1 => simp [b8]
  | 2 => simp [b8]
  | 3 => simp [b8]
  | 4 => simp [b8]
  | 5 => simp [b8]
  | 6 => simp [b8]
  | n + 7 => simp
theorem x_sliceFr {w : World} {ρ : Operand → Value} {o : Oper} {x : Operand} (FC : Array Value) (h7 : FC.size = 7) (ho : o.op = .buildSlice 55 1 #[(0, x)]) (h1 : ρ x = .agg FC) : (execOp ρ o).run Tryz.prog w = .ok (.value (.slice (some ⟨w.heap.size, 0, none⟩) 1 1)) (w.alloc (.cells FC 97)) := by
  obtain ⟨l, rfl⟩ : ∃ l : List Value, FC = l.toArray := ⟨FC.toList, by simp⟩
  have hl : l.length = 7 := by simpa using h7
  have key := fun arr hs => fold0 l arr hs
  rw [hl] at key
  simp [execOp, ho, h1, go_sem, Result.andThen, hl, key]
theorem elFrame : ElT 55 97 7 72 (.agg zeroFr) := ⟨Tryz.underlying55, by kernel_rfl, by kernel_rfl, by decide⟩
def Q3 (F : Nat → Option Addr → Nat → World → Prop) (a : Nat → Option Addr → Nat → Act) : Exit → Act → World → Prop
  | .normal, b, w' => ∃ q A c, F q A c w' ∧ b = a q A c
  | _, _, _ => False
theorem wp_stop3 {P : Program} {C : Code} {Q : Exit → Act → World → Prop} {a0 : Act} {w0 : World} (F : Nat → Option Addr → Nat → World → Prop) (a : Nat → Option Addr → Nat → Act) (h1 : C.wp P (Q3 F a) a0 w0) (h2 : ∀ q A c w', F q A c w' → Q .normal (a q A c) w') : C.wp P Q a0 w0 :=
  wp_mono h1 fun e b w' h => by
    cases e with
    | normal =>
      obtain ⟨q, A, c, hf, rfl⟩ := h
      exact h2 q A c w' hf
    | _ => exact h.elim
section
variable (w : World) (l d many : Nat) (gD : Nat → List UInt8) (xs : List (Nat × List UInt8)) (left : Int) (fr pg : Int) (sr ep : Nat) (sz : Int)
set_option maxRecDepth 100000 in
set_option maxHeartbeats 16000000 in
theorem append_one (hD : DkIs w d many gD xs left false) (hl : xs.length ≤ 800000) (h1l : -1000000 ≤ left) (h2l : left ≤ 9223372036854775807) (hlg : BlkIs w l 57 (lgC (some ⟨d, 0, none⟩) fr pg sr ep sz none 0 0)) (hld : l ≠ d)
    (g o c : Nat) (p : Int) (Ay : Option Addr) (ky : Nat) (y : List UInt8) (hg : g < w.heap.size) (hx : w.rangeAt g o [.int .i64 p, .slice Ay 512 ky]) (hy : InB w w.heap.size Ay ky y) (hy512 : y.length = 512)
    (hpl : planOk fr pg = true) (hp0 : 0 ≤ p) (hp1 : p < pg) (s : Int) (hs : 0 ≤ s) (hs2 : s ≤ pg) (hsz : headOk sz 1 = true) (hm11 : 11 ≤ many) (hmax : many ≤ 1000000) (hsr : sr + 1 < 18446744073709551616) :
    Calls Tryz.prog 14 #[.pointer (some ⟨l, 0, none⟩), .int .i64 s, .slice (some ⟨g, o, none⟩) 1 c] w fun e w' => e = .returned (.int .i64 0) ∧ (∃ g', DkIs w' d many g' [] left false) ∧ (∃ A c', BlkIs w' l 57 (lgC (some ⟨d, 0, none⟩) fr pg (sr + 1) ep s A 1 c')) ∧ GrowBut (fun k => k = d ∨ k = l) w w' := by
  have hplr := (planOk_iff fr pg).1 hpl
  have hpe : plE (planOk fr pg) p pg = 0 := by rw [hpl]; simp [plE, hp0, hp1]
  have hpe0 : plE (planOk fr pg) 0 fr = 0 := by rw [hpl]; simp [plE]; omega
  have hB : Below w.heap.size w ((w.alloc (.cells #[.pointer (some ⟨l, 0, none⟩)] 33)).alloc (.cells #[.int .i64 s] 3)) := ((Below.refl _ w).alloc (Nat.le_refl _) _).alloc (by simp) _
  have b0 := (BlkIs.new w 33 #[.pointer (some ⟨l, 0, none⟩)]).alloc (.cells #[.int .i64 s] 3)
  have b1 := BlkIs.new (w.alloc (.cells #[.pointer (some ⟨l, 0, none⟩)] 33)) 3 #[.int .i64 s]
  rw [World.size_alloc] at b1
  have hlg0 := hlg.below hB hlg.lt
  have HN := lnone_gives hlg0
  have hxp : PwIn w g o 1 (fun _ => (p, Ay, ky)) := fun k hk => by
    obtain rfl : k = 0 := by omega
    exact hx
  have HR := lright_ok _ l _ fr pg sr ep sz none 0 0 hlg0 g o 1 c (fun _ => (p, Ay, ky)) (by omega) (by omega) (hxp.below hB hg) (by simp; omega) (fun _ _ => hpe) s hs hs2
  have hfr : ¬ fr < 1 := by omega
  have hw11 : IntKind.i64.wrap 1 = 1 := by decide
  have hDw := hD.lt
  have hlw := hlg.lt
  have hfo : frOk 512 0 p true s = true := (frOk_iff _ _ _ _ _).2 ⟨rfl, ⟨by omega, by omega⟩, ⟨hp0, by omega⟩, ⟨hs, by omega⟩, .inl rfl⟩
  clear hxp
  go_enter Tryz.func14, Tryz.ntmps14
  go_wp2_with (first
    | (go_at_call 42; refine HN.mono ?_; rintro e w' ⟨rfl, rfl⟩)
    | (go_at_call 43; refine HR.mono ?_; rintro e w2 ⟨rfl, hB2⟩; have hlg2 := hlg0.below hB2 hlg0.lt; have b02 := b0.below hB2 b0.lt; have b12 := b1.below hB2 b1.lt))
  have hBw2 := hB.trans (hB2.mono hB.size)
  have hw2 : w.heap.size + 2 ≤ w2.heap.size := by have := hB2.size; simp at this; omega
  have hS0 : Below w2.heap.size w2 w2.drew := (Below.refl _ _).drew
  have T0 : ∀ W, Below w2.heap.size w2 W → W.cell? ⟨w.heap.size, 0, none⟩ = some (.pointer (some ⟨l, 0, none⟩)) := fun W hW => (b02.below hW b02.lt).boxed
  have T6 : ∀ W, Below w2.heap.size w2 W → W.cell? ⟨l, 6, none⟩ = some (.slice none 0 0) := fun W hW => by rw [(hlg2.below hW hlg2.lt).cell]; rfl
  have T1 : ∀ W, Below w2.heap.size w2 W → W.cell? ⟨l, 1, none⟩ = some (.int .i64 fr) := fun W hW => by rw [(hlg2.below hW hlg2.lt).cell]; rfl
  have hD2 := hD.grow hBw2
  have hy2 := (hy.below hBw2).more hBw2.size
  have hx2 : w2.rangeAt g o [.int .i64 p, .slice Ay 512 ky] := fun j v hj => (hBw2.cell (p := ⟨g, o + j, none⟩) hg).trans (hx j v hj)
  clear HN HR hD hlg hlg0 b0 b1 hB hB2 hx hy
  refine RegF.start (fun W => Below w2.heap.size w2 W) 99 (by kernel_rfl) ?_
  refine RegF.take0 0 (.pointer (some ⟨l, 0, none⟩)) rfl (by kernel_rfl) (by kernel_rfl) (by kernel_rfl) rfl (fun _ _ _ h => h) hS0 (RegF.yld rfl (fun W hW => by have q := T0 W hW; go_simp)) ?_
  simp only [List.getElem_toArray, List.getElem_cons_zero, Act.put, List.setIfInBounds_toArray, List.set_cons_zero, List.set_cons_succ]
  refine RegF.take0 1 (.pointer (some ⟨l, 0, none⟩)) rfl (by kernel_rfl) (by kernel_rfl) (by kernel_rfl) rfl (fun _ _ _ h => h) hS0 (RegF.yld rfl (fun W hW => by go_simp)) ?_
  simp only [List.getElem_toArray, List.getElem_cons_succ, List.getElem_cons_zero, Act.put, List.setIfInBounds_toArray, List.set_cons_zero, List.set_cons_succ]
  refine RegF.take0 2 (.pointer (some ⟨l, 6, none⟩)) rfl (by kernel_rfl) (by kernel_rfl) (by kernel_rfl) rfl (fun _ _ _ h => h) hS0 (RegF.yld rfl (fun W hW => by go_simp)) ?_
  simp only [List.getElem_toArray, List.getElem_cons_succ, List.getElem_cons_zero, Act.put, List.setIfInBounds_toArray, List.set_cons_zero, List.set_cons_succ]
  refine RegF.take0 3 (.slice none 0 0) rfl (by kernel_rfl) (by kernel_rfl) (by kernel_rfl) rfl (fun _ _ _ h => h) hS0 (RegF.yld rfl (fun W hW => by have q := T6 W hW; go_simp)) ?_
  simp only [List.getElem_toArray, List.getElem_cons_succ, List.getElem_cons_zero, Act.put, List.setIfInBounds_toArray, List.set_cons_zero, List.set_cons_succ]
  refine RegF.take0 4 (.int .i64 0) rfl (by kernel_rfl) (by kernel_rfl) (by kernel_rfl) rfl (fun _ _ _ h => h) hS0 (RegF.yld rfl (fun W hW => by go_simp)) ?_
  simp only [List.getElem_toArray, List.getElem_cons_succ, List.getElem_cons_zero, Act.put, List.setIfInBounds_toArray, List.set_cons_zero, List.set_cons_succ]
  refine RegF.take0 5 (.slice (some ⟨g, o, none⟩) 1 c) rfl (by kernel_rfl) (by kernel_rfl) (by kernel_rfl) rfl (fun _ _ _ h => h) hS0 (RegF.yld rfl (fun W hW => by go_simp)) ?_
  simp only [List.getElem_toArray, List.getElem_cons_succ, List.getElem_cons_zero, Act.put, List.setIfInBounds_toArray, List.set_cons_zero, List.set_cons_succ]
  refine RegF.take0 6 (.int .i64 1) rfl (by kernel_rfl) (by kernel_rfl) (by kernel_rfl) rfl (fun _ _ _ h => h) hS0 (RegF.yld rfl (fun W hW => by go_simp)) ?_
  simp only [List.getElem_toArray, List.getElem_cons_succ, List.getElem_cons_zero, Act.put, List.setIfInBounds_toArray, List.set_cons_zero, List.set_cons_succ]
  refine RegF.take0 7 (.int .i64 1) rfl (by kernel_rfl) (by kernel_rfl) (by kernel_rfl) rfl (fun _ _ _ h => h) hS0 (RegF.yld rfl (fun W hW => by go_simp)) ?_
  simp only [List.getElem_toArray, List.getElem_cons_succ, List.getElem_cons_zero, Act.put, List.setIfInBounds_toArray, List.set_cons_zero, List.set_cons_succ]
  refine RegF.take0 8 (.pointer (some ⟨l, 0, none⟩)) rfl (by kernel_rfl) (by kernel_rfl) (by kernel_rfl) rfl (fun _ _ _ h => h) hS0 (RegF.yld rfl (fun W hW => by have q := T0 W hW; go_simp)) ?_
  simp only [List.getElem_toArray, List.getElem_cons_succ, List.getElem_cons_zero, Act.put, List.setIfInBounds_toArray, List.set_cons_zero, List.set_cons_succ]
  refine RegF.take0 9 (.pointer (some ⟨l, 0, none⟩)) rfl (by kernel_rfl) (by kernel_rfl) (by kernel_rfl) rfl (fun _ _ _ h => h) hS0 (RegF.yld rfl (fun W hW => by go_simp)) ?_
  simp only [List.getElem_toArray, List.getElem_cons_succ, List.getElem_cons_zero, Act.put, List.setIfInBounds_toArray, List.set_cons_zero, List.set_cons_succ]
  refine RegF.take0 10 (.pointer (some ⟨l, 0, none⟩)) rfl (by kernel_rfl) (by kernel_rfl) (by kernel_rfl) rfl (fun _ _ _ h => h) hS0 (RegF.yld rfl (fun W hW => by go_simp)) ?_
  simp only [List.getElem_toArray, List.getElem_cons_succ, List.getElem_cons_zero, Act.put, List.setIfInBounds_toArray, List.set_cons_zero, List.set_cons_succ]
  refine RegF.take0 11 (.pointer (some ⟨l, 1, none⟩)) rfl (by kernel_rfl) (by kernel_rfl) (by kernel_rfl) rfl (fun _ _ _ h => h) hS0 (RegF.yld rfl (fun W hW => by go_simp)) ?_
  simp only [List.getElem_toArray, List.getElem_cons_succ, List.getElem_cons_zero, Act.put, List.setIfInBounds_toArray, List.set_cons_zero, List.set_cons_succ]
  refine RegF.take0 12 (.pointer (some ⟨l, 1, none⟩)) rfl (by kernel_rfl) (by kernel_rfl) (by kernel_rfl) rfl (fun _ _ _ h => h) hS0 (RegF.yld rfl (fun W hW => by go_simp)) ?_
  simp only [List.getElem_toArray, List.getElem_cons_succ, List.getElem_cons_zero, Act.put, List.setIfInBounds_toArray, List.set_cons_zero, List.set_cons_succ]
  refine RegF.take0 13 (.int .i64 fr) rfl (by kernel_rfl) (by kernel_rfl) (by kernel_rfl) rfl (fun _ _ _ h => h) hS0 (RegF.yld rfl (fun W hW => by have q := T1 W hW; go_simp)) ?_
  simp only [List.getElem_toArray, List.getElem_cons_succ, List.getElem_cons_zero, Act.put, List.setIfInBounds_toArray, List.set_cons_zero, List.set_cons_succ]
  refine RegF.one 14 (by kernel_rfl) (RegF.opV (w' := w2.drew) (.bool false) rfl rfl (by go_simp) ⟨fun _ => hS0, ?_⟩)
  simp only [List.getElem_toArray, List.getElem_cons_succ, List.getElem_cons_zero, Act.put, List.setIfInBounds_toArray, List.set_cons_zero, List.set_cons_succ]
  refine RegF.one 15 (by kernel_rfl) (RegF.opV (w' := w2.drew) (.bool false) rfl rfl (by go_simp) ⟨fun _ => hS0, RegF.done (by kernel_rfl) ?_⟩)
  simp only [List.getElem_toArray, List.getElem_cons_succ, List.getElem_cons_zero, Act.put, List.setIfInBounds_toArray, List.set_cons_zero, List.set_cons_succ]
  have t0 := T0 _ hS0
  have t6 := T6 _ hS0
  have hD3 := hD2.grow hS0
  have hlg3 := hlg2.drew
  have b03 := b02.drew
  have b13 := b12.drew
  have hy3 : InB w2.drew w2.drew.heap.size Ay ky y := hy2.drew
  have hx3 : w2.drew.rangeAt g o [.int .i64 p, .slice Ay 512 ky] := hx2
  have hBw3 : Below w.heap.size w w2.drew := hBw2.drew
  have hw3 : w.heap.size + 2 ≤ w2.drew.heap.size := hw2
  clear T0 T6 T1 hD2 hlg2 b02 b12 hy2 hx2 hBw2 hw2 hS0
  generalize w2.drew = W3 at *
  go_wp2_with (go_at_call 44; refine (fclone_nil _).mono ?_; rintro e w' ⟨rfl, rfl⟩)
  obtain ⟨W4, hW4⟩ : ∃ W4, W4 = W3.alloc (.cells #[.slice none 0 0] 55) := ⟨_, rfl⟩
  have hB4 : Below W3.heap.size W3 W4 := by rw [hW4]; exact (Below.refl _ _).alloc (Nat.le_refl _) _
  have m4 : BlkIs W4 W3.heap.size 55 #[.slice none 0 0] := by rw [hW4]; exact BlkIs.new W3 _ _
  rw [← hW4]
  clear hW4
  go_loopw [43] (fun i wr => (i = .int .i64 0 ∧ Below W3.heap.size W3 wr ∧ BlkIs wr W3.heap.size 55 #[.slice none 0 0]) ∨
    (i = .int .i64 1 ∧ Below W3.heap.size W3 wr ∧ ∃ fg fc A6 c6, 1 ≤ fc ∧ fc ≤ 9223372036854775807 ∧ BlkIs wr W3.heap.size 55 #[.slice (some ⟨fg, 0, none⟩) 1 fc] ∧ wr.rangeAt fg 0 (frCells ep 0 p true s 0 A6 512 c6).toList ∧ fg < wr.heap.size ∧ W3.heap.size ≤ fg ∧ InB wr wr.heap.size A6 c6 y ∧ (∀ g o, A6 = some ⟨g, o, none⟩ → W3.heap.size ≤ g))) (fun i _ => 2 - (intOf i).toNat)
  case atStart => exact .inl ⟨rfl, hB4, m4⟩
  case round =>
    clear hB4 m4
    rcases hrel with ⟨rfl, hB4, m4⟩ | ⟨rfl, hB4, fg, fc, A6, c6, hfc1, hfc2, m4, hr4, hfg, hfg3, hy4, hA6⟩
    · have hx4 : wr.rangeAt g o [.int .i64 p, .slice Ay 512 ky] := fun j v hj => (hB4.cell (p := ⟨g, o + j, none⟩) (by show g < W3.heap.size; omega)).trans (hx3 j v hj)
      have hy4 := (hy3.below hB4).more hB4.size
      have b4 := BlkIs.new wr 80 #[.int .i64 0, .slice none 0 0]
      have b5 := b4.setRow #[.int .i64 p, .slice Ay 512 ky]
      have hB5 : Below W3.heap.size W3 ((wr.alloc (.cells #[.int .i64 0, .slice none 0 0] 80)).setRow wr.heap.size #[.int .i64 p, .slice Ay 512 ky]) := below_setRow (hB4.alloc hB4.size _) hB4.size _
      have hBr5 : Below wr.heap.size wr ((wr.alloc (.cells #[.int .i64 0, .slice none 0 0] 80)).setRow wr.heap.size #[.int .i64 p, .slice Ay 512 ky]) := below_setRow ((Below.refl _ wr).alloc (Nat.le_refl _) _) (Nat.le_refl _) _
      have m5 := m4.below hBr5 m4.lt
      have hy5 := (hy4.below hBr5).more hBr5.size
      go_wp2_with (first
        | (refine wp_exec rfl (x_loadM rowPW hx4 rfl rfl rfl) ?_)
        | (refine wp_storeW rfl 80 (.tmp 9) (.tmp 47) rfl wr.heap.size rfl rfl rowPW b4 rfl rfl (pw_one _ _ _ _) ?_))
      have hw4 := hB4.size
      clear hx4 hy4 b4 hBr5 m4 hB4
      generalize (wr.alloc (.cells #[.int .i64 0, .slice none 0 0] 80)).setRow wr.heap.size #[.int .i64 p, .slice Ay 512 ky] = W5 at *
      have T0 : ∀ W, Below W5.heap.size W5 W → W.cell? ⟨w.heap.size, 0, none⟩ = some (.pointer (some ⟨l, 0, none⟩)) := fun W hW => ((b03.below hB5 b03.lt).below hW (Nat.lt_of_lt_of_le b03.lt hB5.size)).boxed
      have T4 : ∀ W, Below W5.heap.size W5 W → W.cell? ⟨l, 4, none⟩ = some (.int .u64 (ep : Int)) := fun W hW => by rw [((hlg3.below hB5 hlg3.lt).below hW (Nat.lt_of_lt_of_le hlg3.lt hB5.size)).cell]; rfl
      have TM : ∀ W, Below W5.heap.size W5 W → W.cell? ⟨W3.heap.size, 0, none⟩ = some (.slice none 0 0) := fun W hW => (m5.below hW m5.lt).boxed
      have TP : ∀ W, Below W5.heap.size W5 W → W.cell? ⟨wr.heap.size, 0, none⟩ = some (.int .i64 p) := fun W hW => by rw [(b5.below hW b5.lt).cell]; rfl
      have TB : ∀ W, Below W5.heap.size W5 W → W.cell? ⟨wr.heap.size, 1, none⟩ = some (.slice Ay 512 ky) := fun W hW => by rw [(b5.below hW b5.lt).cell]; rfl
      have HCL : ∀ W, Below W5.heap.size W5 W → Calls Tryz.prog 46 #[.slice Ay 512 ky] W fun e w' => ∃ A c, e = .returned (.slice A 512 c) ∧ InB w' w'.heap.size A c y ∧ (∀ g o, A = some ⟨g, o, none⟩ → W5.heap.size ≤ g) ∧ Below W.heap.size W w' := fun W hW => by
        have h := clone_gives W Ay ky y ((hy5.below hW).more hW.size) (by omega)
        rw [hy512] at h
        refine h.mono ?_
        rintro e w' ⟨v, rfl, own, hBc⟩
        have hge := ownG_ge own
        obtain ⟨A, c, rfl, hin⟩ := own.inB
        exact ⟨A, c, by rw [hy512], hin, fun g o e => by subst e; exact Nat.le_trans hW.size (hge g rfl), hBc⟩
      have hS0 : Below W5.heap.size W5 W5.drew := (Below.refl _ _).drew
      go_wp2_with fail
      apply wp_stop3 (fun q A6 c6 w' => BlkIs w' q 97 (frCells ep 0 p false 0 0 A6 512 c6) ∧ W5.heap.size ≤ q ∧ InB w' w'.heap.size A6 c6 y ∧ (∀ g o, A6 = some ⟨g, o, none⟩ → W5.heap.size ≤ g) ∧ Below W5.heap.size W5 w')
      case h1 =>
        refine RegF.start (fun W => Below W5.heap.size W5 W) 99 (by kernel_rfl) ?_
        refine RegF.take0 0 (.pointer (some ⟨l, 0, none⟩)) rfl (by kernel_rfl) (by kernel_rfl) (by kernel_rfl) rfl (fun _ _ _ h => h) hS0 (RegF.yld rfl (fun W hW => by have q := T0 W hW; go_simp)) ?_
        simp only [List.getElem_toArray, List.getElem_cons_zero, Act.put, List.setIfInBounds_toArray, List.set_cons_zero, List.set_cons_succ]
        refine RegF.take0 1 (.pointer (some ⟨l, 0, none⟩)) rfl (by kernel_rfl) (by kernel_rfl) (by kernel_rfl) rfl (fun _ _ _ h => h) hS0 (RegF.yld rfl (fun W hW => by go_simp)) ?_
        simp only [List.getElem_toArray, List.getElem_cons_succ, List.getElem_cons_zero, Act.put, List.setIfInBounds_toArray, List.set_cons_zero, List.set_cons_succ]
        refine RegF.take0 2 (.pointer (some ⟨l, 4, none⟩)) rfl (by kernel_rfl) (by kernel_rfl) (by kernel_rfl) rfl (fun _ _ _ h => h) hS0 (RegF.yld rfl (fun W hW => by go_simp)) ?_
        simp only [List.getElem_toArray, List.getElem_cons_succ, List.getElem_cons_zero, Act.put, List.setIfInBounds_toArray, List.set_cons_zero, List.set_cons_succ]
        refine RegF.take0 3 (.int .u64 (ep : Int)) rfl (by kernel_rfl) (by kernel_rfl) (by kernel_rfl) rfl (fun _ _ _ h => h) hS0 (RegF.yld rfl (fun W hW => by have q := T4 W hW; go_simp)) ?_
        simp only [List.getElem_toArray, List.getElem_cons_succ, List.getElem_cons_zero, Act.put, List.setIfInBounds_toArray, List.set_cons_zero, List.set_cons_succ]
        refine RegF.take0 4 (.slice none 0 0) rfl (by kernel_rfl) (by kernel_rfl) (by kernel_rfl) rfl (fun _ _ _ h => h) hS0 (RegF.yld rfl (fun W hW => by have q := TM W hW; go_simp)) ?_
        simp only [List.getElem_toArray, List.getElem_cons_succ, List.getElem_cons_zero, Act.put, List.setIfInBounds_toArray, List.set_cons_zero, List.set_cons_succ]
        refine RegF.take0 5 (.int .i64 0) rfl (by kernel_rfl) (by kernel_rfl) (by kernel_rfl) rfl (fun _ _ _ h => h) hS0 (RegF.yld rfl (fun W hW => by go_simp)) ?_
        simp only [List.getElem_toArray, List.getElem_cons_succ, List.getElem_cons_zero, Act.put, List.setIfInBounds_toArray, List.set_cons_zero, List.set_cons_succ]
        refine RegF.take0 6 (.pointer (some ⟨wr.heap.size, 0, none⟩)) rfl (by kernel_rfl) (by kernel_rfl) (by kernel_rfl) rfl (fun _ _ _ h => h) hS0 (RegF.yld rfl (fun W hW => by go_simp)) ?_
        simp only [List.getElem_toArray, List.getElem_cons_succ, List.getElem_cons_zero, Act.put, List.setIfInBounds_toArray, List.set_cons_zero, List.set_cons_succ]
        refine RegF.take0 7 (.int .i64 p) rfl (by kernel_rfl) (by kernel_rfl) (by kernel_rfl) rfl (fun _ _ _ h => h) hS0 (RegF.yld rfl (fun W hW => by have q := TP W hW; go_simp)) ?_
        simp only [List.getElem_toArray, List.getElem_cons_succ, List.getElem_cons_zero, Act.put, List.setIfInBounds_toArray, List.set_cons_zero, List.set_cons_succ]
        refine RegF.take0 8 (.slice none 0 0) rfl (by kernel_rfl) (by kernel_rfl) (by kernel_rfl) rfl (fun _ _ _ h => h) hS0 (RegF.yld rfl (fun W hW => by have q := TM W hW; go_simp)) ?_
        simp only [List.getElem_toArray, List.getElem_cons_succ, List.getElem_cons_zero, Act.put, List.setIfInBounds_toArray, List.set_cons_zero, List.set_cons_succ]
        refine RegF.take0 10 (.pointer (some ⟨wr.heap.size, 1, none⟩)) rfl (by kernel_rfl) (by kernel_rfl) (by kernel_rfl) rfl (fun _ _ _ h => h) hS0 (RegF.yld rfl (fun W hW => by go_simp)) ?_
        simp only [List.getElem_toArray, List.getElem_cons_succ, List.getElem_cons_zero, Act.put, List.setIfInBounds_toArray, List.set_cons_zero, List.set_cons_succ]
        refine RegF.take0 11 (.slice Ay 512 ky) rfl (by kernel_rfl) (by kernel_rfl) (by kernel_rfl) rfl (fun _ _ _ h => h) hS0 (RegF.yld rfl (fun W hW => by have q := TB W hW; go_simp)) ?_
        simp only [List.getElem_toArray, List.getElem_cons_succ, List.getElem_cons_zero, Act.put, List.setIfInBounds_toArray, List.set_cons_zero, List.set_cons_succ]
        refine RegF.two 9 14 (by kernel_rfl) ?_ ?_
        case' refine_1 =>
          refine RegF.opC 45 #[.tmp 56] #[55] rfl rfl rfl (enters_of Tryz.func45 (by kernel_rfl) rfl) #[.slice none 0 0] (by simp only [List.map_toArray, List.map_cons, List.map_nil]; rfl) ((link_nil W5.drew).mono ?_)
          rintro e w' ⟨rfl, rfl⟩
          refine ⟨_, rfl, fun _ => hS0, ?_⟩
          simp only [List.getElem_toArray, List.getElem_cons_succ, List.getElem_cons_zero, Act.put, List.setIfInBounds_toArray, List.set_cons_zero, List.set_cons_succ]
          refine RegF.two 12 14 (by kernel_rfl) ?_ ?_
          case' refine_1 =>
            refine RegF.opC 46 #[.tmp 59] #[38] rfl rfl rfl (enters_of Tryz.func46 (by kernel_rfl) rfl) #[.slice Ay 512 ky] (by simp only [List.map_toArray, List.map_cons, List.map_nil]; rfl) ((HCL W5.drew hS0).mono ?_)
            rintro e Wc ⟨A6, c6, rfl, hin6, hA6, hBc⟩
            have hS6 : Below W5.heap.size W5 Wc := hS0.trans (hBc.mono hS0.size)
            refine ⟨_, rfl, fun _ => hS6, ?_⟩
            simp only [List.getElem_toArray, List.getElem_cons_succ, List.getElem_cons_zero, Act.put, List.setIfInBounds_toArray, List.set_cons_zero, List.set_cons_succ]
            refine RegF.take0 13 (.agg (frCells ep 0 p false 0 0 A6 512 c6)) rfl (by kernel_rfl) (by kernel_rfl) (by kernel_rfl) rfl (fun _ _ _ h => h) hS6 (RegF.yld rfl (fun W hW => by go_simp; rfl)) ?_
            simp only [List.getElem_toArray, List.getElem_cons_succ, List.getElem_cons_zero, Act.put, List.setIfInBounds_toArray, List.set_cons_zero, List.set_cons_succ]
            have bz := BlkIs.new Wc 97 #[.int .u64 0, .int .i64 0, .int .i64 0, .bool false, .int .i64 0, .int .u32 0, .slice none 0 0]
            have hS7 : Below W5.heap.size W5 (Wc.alloc (.cells #[.int .u64 0, .int .i64 0, .int .i64 0, .bool false, .int .i64 0, .int .u32 0, .slice none 0 0] 97)) := hS6.alloc hS6.size _
            have hBz : Below Wc.heap.size Wc (Wc.alloc (.cells #[.int .u64 0, .int .i64 0, .int .i64 0, .bool false, .int .i64 0, .int .u32 0, .slice none 0 0] 97)) := (Below.refl _ _).alloc (Nat.le_refl _) _
            refine RegF.one 14 (by kernel_rfl) ?_
            refine RegF.opV (w' := Wc.alloc (.cells #[.int .u64 0, .int .i64 0, .int .i64 0, .bool false, .int .i64 0, .int .u32 0, .slice none 0 0] 97)) (.pointer (some ⟨Wc.heap.size, 0, none⟩)) rfl rfl (by go_simp) ⟨fun _ => hS7, ?_⟩
            simp only [List.getElem_toArray, List.getElem_cons_succ, List.getElem_cons_zero, Act.put, List.setIfInBounds_toArray, List.set_cons_zero, List.set_cons_succ]
            refine RegF.one 15 (by kernel_rfl) (RegF.opS (w' := (Wc.alloc (.cells #[.int .u64 0, .int .i64 0, .int .i64 0, .bool false, .int .i64 0, .int .u32 0, .slice none 0 0] 97)).setRow Wc.heap.size (frCells ep 0 p false 0 0 A6 512 c6)) rfl rfl (x_storeR 97 (.tmp 10) (.tmp 61) rfl Wc.heap.size rfl rfl rowFrame bz rfl rfl (frCells_one _ _ _ _ _ _ _ _ _)) ⟨fun _ => below_setRow hS7 hS6.size _, RegF.done (by kernel_rfl) ?_⟩)
            simp only [List.getElem_toArray, List.getElem_cons_succ, List.getElem_cons_zero, Act.put]
            have hF : BlkIs ((Wc.alloc (.cells #[.int .u64 0, .int .i64 0, .int .i64 0, .bool false, .int .i64 0, .int .u32 0, .slice none 0 0] 97)).setRow Wc.heap.size (frCells ep 0 p false 0 0 A6 512 c6)) Wc.heap.size 97 (frCells ep 0 p false 0 0 A6 512 c6) ∧ W5.heap.size ≤ Wc.heap.size ∧ InB ((Wc.alloc (.cells #[.int .u64 0, .int .i64 0, .int .i64 0, .bool false, .int .i64 0, .int .u32 0, .slice none 0 0] 97)).setRow Wc.heap.size (frCells ep 0 p false 0 0 A6 512 c6)) ((Wc.alloc (.cells #[.int .u64 0, .int .i64 0, .int .i64 0, .bool false, .int .i64 0, .int .u32 0, .slice none 0 0] 97)).setRow Wc.heap.size (frCells ep 0 p false 0 0 A6 512 c6)).heap.size A6 c6 y ∧ (∀ g o, A6 = some ⟨g, o, none⟩ → W5.heap.size ≤ g) ∧ Below W5.heap.size W5 ((Wc.alloc (.cells #[.int .u64 0, .int .i64 0, .int .i64 0, .bool false, .int .i64 0, .int .u32 0, .slice none 0 0] 97)).setRow Wc.heap.size (frCells ep 0 p false 0 0 A6 512 c6)) := ⟨bz.setRow _, hS6.size, (hin6.below (below_setRow hBz (Nat.le_refl _) (frCells ep 0 p false 0 0 A6 512 c6))).more (below_setRow hBz (Nat.le_refl _) (frCells ep 0 p false 0 0 A6 512 c6)).size, hA6, below_setRow hS7 hS6.size _⟩
            generalize (Wc.alloc (.cells #[.int .u64 0, .int .i64 0, .int .i64 0, .bool false, .int .i64 0, .int .u32 0, .slice none 0 0] 97)).setRow Wc.heap.size (frCells ep 0 p false 0 0 A6 512 c6) = W7 at hF ⊢
            generalize Wc.heap.size = q at hF ⊢
            exact ⟨q, A6, c6, hF, rfl⟩
          case' refine_2 =>
            have bz := BlkIs.new W5.drew 97 #[.int .u64 0, .int .i64 0, .int .i64 0, .bool false, .int .i64 0, .int .u32 0, .slice none 0 0]
            have hSa : Below W5.heap.size W5 (W5.drew.alloc (.cells #[.int .u64 0, .int .i64 0, .int .i64 0, .bool false, .int .i64 0, .int .u32 0, .slice none 0 0] 97)) := hS0.alloc hS0.size _
            refine RegF.opV (w' := W5.drew.alloc (.cells #[.int .u64 0, .int .i64 0, .int .i64 0, .bool false, .int .i64 0, .int .u32 0, .slice none 0 0] 97)) (.pointer (some ⟨W5.drew.heap.size, 0, none⟩)) rfl rfl (by go_simp) ⟨fun _ => hSa, ?_⟩
            simp only [List.getElem_toArray, List.getElem_cons_succ, List.getElem_cons_zero, Act.put, List.setIfInBounds_toArray, List.set_cons_zero, List.set_cons_succ]
            generalize W5.drew.alloc (.cells #[.int .u64 0, .int .i64 0, .int .i64 0, .bool false, .int .i64 0, .int .u32 0, .slice none 0 0] 97) = Wa at bz hSa ⊢
            refine RegF.one 12 (by kernel_rfl) ?_
            refine RegF.opC 46 #[.tmp 59] #[38] rfl rfl rfl (enters_of Tryz.func46 (by kernel_rfl) rfl) #[.slice Ay 512 ky] (by simp only [List.map_toArray, List.map_cons, List.map_nil]; rfl) ((HCL Wa hSa).mono ?_)
            rintro e Wc ⟨A6, c6, rfl, hin6, hA6, hBc⟩
            have bc := bz.below hBc bz.lt
            have hS6 : Below W5.heap.size W5 Wc := hSa.trans (hBc.mono hSa.size)
            refine ⟨_, rfl, fun _ => hS6, ?_⟩
            simp only [List.getElem_toArray, List.getElem_cons_succ, List.getElem_cons_zero, Act.put, List.setIfInBounds_toArray, List.set_cons_zero, List.set_cons_succ]
            refine RegF.one 13 (by kernel_rfl) (RegF.opV (w' := Wc) (.agg (frCells ep 0 p false 0 0 A6 512 c6)) rfl rfl (by go_simp; rfl) ⟨fun _ => hS6, ?_⟩)
            simp only [List.getElem_toArray, List.getElem_cons_succ, List.getElem_cons_zero, Act.put, List.setIfInBounds_toArray, List.set_cons_zero, List.set_cons_succ]
            have hS8 : Below W5.heap.size W5 (Wc.setRow W5.drew.heap.size (frCells ep 0 p false 0 0 A6 512 c6)) := below_setRow hS6 hS0.size _
            refine RegF.one 15 (by kernel_rfl) (RegF.opS (w' := Wc.setRow W5.drew.heap.size (frCells ep 0 p false 0 0 A6 512 c6)) rfl rfl (x_storeR 97 (.tmp 10) (.tmp 61) rfl W5.drew.heap.size rfl rfl rowFrame bc rfl rfl (frCells_one _ _ _ _ _ _ _ _ _)) ⟨fun _ => hS8, RegF.done (by kernel_rfl) ?_⟩)
            simp only [List.getElem_toArray, List.getElem_cons_succ, List.getElem_cons_zero, Act.put]
            have hne : ∀ g o, A6 = some ⟨g, o, none⟩ → g ≠ W5.drew.heap.size := fun g o e => by
              subst e
              intro e2
              subst e2
              obtain ⟨g', o', e3, hg', hc'⟩ := hin6.lies (by omega)
              injection e3 with e3
              injection e3 with e3 e4
              subst e3 e4
              have h0 := hc' 0 (by omega)
              rw [bc.cell] at h0
              exact zf_no _ _ h0
            have hF : BlkIs (Wc.setRow W5.drew.heap.size (frCells ep 0 p false 0 0 A6 512 c6)) W5.drew.heap.size 97 (frCells ep 0 p false 0 0 A6 512 c6) ∧ W5.heap.size ≤ W5.drew.heap.size ∧ InB (Wc.setRow W5.drew.heap.size (frCells ep 0 p false 0 0 A6 512 c6)) (Wc.setRow W5.drew.heap.size (frCells ep 0 p false 0 0 A6 512 c6)).heap.size A6 c6 y ∧ (∀ g o, A6 = some ⟨g, o, none⟩ → W5.heap.size ≤ g) ∧ Below W5.heap.size W5 (Wc.setRow W5.drew.heap.size (frCells ep 0 p false 0 0 A6 512 c6)) := ⟨bc.setRow _, hS0.size, GrowBut.inB (Mu := fun k => k = W5.drew.heap.size) (GrowBut.grown (setRow_grown Wc W5.drew.heap.size (frCells ep 0 p false 0 0 A6 512 c6)) (fun r e => by injection e with e; exact .inl e.symm)) hin6 (fun g o e _ => hne g o e), hA6, hS8⟩
            generalize Wc.setRow W5.drew.heap.size (frCells ep 0 p false 0 0 A6 512 c6) = W7 at hF ⊢
            generalize W5.drew.heap.size = q at hF ⊢
            exact ⟨q, A6, c6, hF, rfl⟩
        case' refine_2 =>
          have bz := BlkIs.new W5.drew 97 #[.int .u64 0, .int .i64 0, .int .i64 0, .bool false, .int .i64 0, .int .u32 0, .slice none 0 0]
          have hSa : Below W5.heap.size W5 (W5.drew.alloc (.cells #[.int .u64 0, .int .i64 0, .int .i64 0, .bool false, .int .i64 0, .int .u32 0, .slice none 0 0] 97)) := hS0.alloc hS0.size _
          refine RegF.opV (w' := W5.drew.alloc (.cells #[.int .u64 0, .int .i64 0, .int .i64 0, .bool false, .int .i64 0, .int .u32 0, .slice none 0 0] 97)) (.pointer (some ⟨W5.drew.heap.size, 0, none⟩)) rfl rfl (by go_simp) ⟨fun _ => hSa, ?_⟩
          simp only [List.getElem_toArray, List.getElem_cons_succ, List.getElem_cons_zero, Act.put, List.setIfInBounds_toArray, List.set_cons_zero, List.set_cons_succ]
          generalize W5.drew.alloc (.cells #[.int .u64 0, .int .i64 0, .int .i64 0, .bool false, .int .i64 0, .int .u32 0, .slice none 0 0] 97) = Wa at bz hSa ⊢
          refine RegF.one 9 (by kernel_rfl) ?_
          refine RegF.opC 45 #[.tmp 56] #[55] rfl rfl rfl (enters_of Tryz.func45 (by kernel_rfl) rfl) #[.slice none 0 0] (by simp only [List.map_toArray, List.map_cons, List.map_nil]; rfl) ((link_nil _).mono ?_)
          rintro e w' ⟨rfl, rfl⟩
          refine ⟨_, rfl, fun _ => hSa, ?_⟩
          simp only [List.getElem_toArray, List.getElem_cons_succ, List.getElem_cons_zero, Act.put, List.setIfInBounds_toArray, List.set_cons_zero, List.set_cons_succ]
          refine RegF.one 12 (by kernel_rfl) ?_
          refine RegF.opC 46 #[.tmp 59] #[38] rfl rfl rfl (enters_of Tryz.func46 (by kernel_rfl) rfl) #[.slice Ay 512 ky] (by simp only [List.map_toArray, List.map_cons, List.map_nil]; rfl) ((HCL Wa hSa).mono ?_)
          rintro e Wc ⟨A6, c6, rfl, hin6, hA6, hBc⟩
          have bc := bz.below hBc bz.lt
          have hS6 : Below W5.heap.size W5 Wc := hSa.trans (hBc.mono hSa.size)
          refine ⟨_, rfl, fun _ => hS6, ?_⟩
          simp only [List.getElem_toArray, List.getElem_cons_succ, List.getElem_cons_zero, Act.put, List.setIfInBounds_toArray, List.set_cons_zero, List.set_cons_succ]
          refine RegF.one 13 (by kernel_rfl) (RegF.opV (w' := Wc) (.agg (frCells ep 0 p false 0 0 A6 512 c6)) rfl rfl (by go_simp; rfl) ⟨fun _ => hS6, ?_⟩)
          simp only [List.getElem_toArray, List.getElem_cons_succ, List.getElem_cons_zero, Act.put, List.setIfInBounds_toArray, List.set_cons_zero, List.set_cons_succ]
          have hS8 : Below W5.heap.size W5 (Wc.setRow W5.drew.heap.size (frCells ep 0 p false 0 0 A6 512 c6)) := below_setRow hS6 hS0.size _
          refine RegF.one 15 (by kernel_rfl) (RegF.opS (w' := Wc.setRow W5.drew.heap.size (frCells ep 0 p false 0 0 A6 512 c6)) rfl rfl (x_storeR 97 (.tmp 10) (.tmp 61) rfl W5.drew.heap.size rfl rfl rowFrame bc rfl rfl (frCells_one _ _ _ _ _ _ _ _ _)) ⟨fun _ => hS8, RegF.done (by kernel_rfl) ?_⟩)
          simp only [List.getElem_toArray, List.getElem_cons_succ, List.getElem_cons_zero, Act.put]
          have hne : ∀ g o, A6 = some ⟨g, o, none⟩ → g ≠ W5.drew.heap.size := fun g o e => by
            subst e
            intro e2
            subst e2
            obtain ⟨g', o', e3, hg', hc'⟩ := hin6.lies (by omega)
            injection e3 with e3
            injection e3 with e3 e4
            subst e3 e4
            have h0 := hc' 0 (by omega)
            rw [bc.cell] at h0
            exact zf_no _ _ h0
          have hF : BlkIs (Wc.setRow W5.drew.heap.size (frCells ep 0 p false 0 0 A6 512 c6)) W5.drew.heap.size 97 (frCells ep 0 p false 0 0 A6 512 c6) ∧ W5.heap.size ≤ W5.drew.heap.size ∧ InB (Wc.setRow W5.drew.heap.size (frCells ep 0 p false 0 0 A6 512 c6)) (Wc.setRow W5.drew.heap.size (frCells ep 0 p false 0 0 A6 512 c6)).heap.size A6 c6 y ∧ (∀ g o, A6 = some ⟨g, o, none⟩ → W5.heap.size ≤ g) ∧ Below W5.heap.size W5 (Wc.setRow W5.drew.heap.size (frCells ep 0 p false 0 0 A6 512 c6)) := ⟨bc.setRow _, hS0.size, GrowBut.inB (Mu := fun k => k = W5.drew.heap.size) (GrowBut.grown (setRow_grown Wc W5.drew.heap.size (frCells ep 0 p false 0 0 A6 512 c6)) (fun r e => by injection e with e; exact .inl e.symm)) hin6 (fun g o e _ => hne g o e), hA6, hS8⟩
          generalize Wc.setRow W5.drew.heap.size (frCells ep 0 p false 0 0 A6 512 c6) = W7 at hF ⊢
          generalize W5.drew.heap.size = q at hF ⊢
          exact ⟨q, A6, c6, hF, rfl⟩
      case h2 =>
        rintro q A6 c6 w6 ⟨hbq, hq5, hin6, hA6, hB6⟩
        have hB36 := hB5.trans (hB6.mono hB5.size)
        have m6 := m5.below hB6 m5.lt
        have s6 := b13.below hB36 b13.lt
        have hw0 : IntKind.i64.wrap 0 = 0 := by decide
        have hbA := hbq.drew.set 3 (.bool true)
        have hbB : BlkIs ((w6.drew.setCell ⟨q, 3, none⟩ (.bool true)).setCell ⟨q, 4, none⟩ (.int .i64 s)) q 97 (frCells ep 0 p true s 0 A6 512 c6) := hbA.set 4 (.int .i64 s)
        have hqA : ∀ g o, A6 = some ⟨g, o, none⟩ → ¬ g = q := fun g o e => by
          subst e
          intro e2
          subst e2
          obtain ⟨g', o', e3, hg', hc'⟩ := hin6.lies (by omega)
          injection e3 with e3
          injection e3 with e3 e4
          subst e3 e4
          have h0 := hc' 0 (by omega)
          rw [hbq.cell] at h0
          exact fr_no _ _ _ _ _ _ _ _ _ _ _ h0
        have z3 : w6.cell? ⟨q, 3, none⟩ = some (.bool false) := by rw [hbq.cell]; rfl
        have z4 : w6.cell? ⟨q, 4, none⟩ = some (.int .i64 0) := by rw [hbq.cell]; rfl
        have y3 := hbq.free 3
        have y4 := hbq.free 4
        have w5s := hB5.size
        have nq1 : ¬ w.heap.size + 1 = q := by omega
        have nqm : ¬ W3.heap.size = q := by have := m5.lt; omega
        have hS1 := s6.drew
        have hSA := hS1.other (p := ⟨q, 3, none⟩) nq1 (.bool true)
        have hMB := (m6.drew.other (p := ⟨q, 3, none⟩) nqm (.bool true)).other (p := ⟨q, 4, none⟩) nqm (.int .i64 s)
        have hGB : GrowBut (fun k => k = q) w6 ((w6.drew.setCell ⟨q, 3, none⟩ (.bool true)).setCell ⟨q, 4, none⟩ (.int .i64 s)) := ((GrowBut.grown (grownBy_drew w6 none) (fun r e => by cases e)).trans (GrowBut.grown (setCell_grown _ ⟨q, 3, none⟩ _) (fun r e => by injection e with e; exact .inl e.symm))).trans (GrowBut.grown (setCell_grown _ ⟨q, 4, none⟩ _) (fun r e => by injection e with e; exact .inl e.symm))
        clear T0 T4 TM TP TB HCL
        go_wp2_with fail
        refine RegF.start (fun W => BlkIs W (w.heap.size + 1) 3 #[.int .i64 s]) 4 (by kernel_rfl) ?_
        refine RegF.take 0 (.int .i64 s) rfl (by kernel_rfl) (by kernel_rfl) (by kernel_rfl) (by kernel_rfl) (fun _ _ _ h => h) hS1 (RegF.yld rfl (fun W hW => by have q := hW.boxed; go_simp)) ?_
        simp only [List.getElem_toArray, List.getElem_cons_zero, Act.put, List.setIfInBounds_toArray, List.set_cons_zero, List.set_cons_succ]
        refine RegF.one 1 (by kernel_rfl) (RegF.opV (w' := w6.drew) (.pointer (some ⟨q, 3, none⟩)) rfl rfl (by go_simp) ⟨fun _ => hS1, ?_⟩)
        simp only [List.getElem_toArray, List.getElem_cons_succ, List.getElem_cons_zero, Act.put, List.setIfInBounds_toArray, List.set_cons_zero, List.set_cons_succ]
        refine RegF.one 2 (by kernel_rfl) (RegF.opS (w' := w6.drew.setCell ⟨q, 3, none⟩ (.bool true)) rfl rfl (by go_simp) ⟨fun _ => hSA, ?_⟩)
        simp only [List.getElem_toArray, List.getElem_cons_succ, List.getElem_cons_zero, Act.put]
        refine RegF.one 3 (by kernel_rfl) (RegF.opV (w' := w6.drew.setCell ⟨q, 3, none⟩ (.bool true)) (.pointer (some ⟨q, 4, none⟩)) rfl rfl (by go_simp) ⟨fun _ => hSA, ?_⟩)
        simp only [List.getElem_toArray, List.getElem_cons_succ, List.getElem_cons_zero, Act.put, List.setIfInBounds_toArray, List.set_cons_zero, List.set_cons_succ]
        refine RegF.one 4 (by kernel_rfl) (RegF.opS (w' := (w6.drew.setCell ⟨q, 3, none⟩ (.bool true)).setCell ⟨q, 4, none⟩ (.int .i64 s)) rfl rfl (by go_simp) ⟨fun h => absurd rfl h, RegF.done (by kernel_rfl) ?_⟩)
        simp only [List.getElem_toArray, List.getElem_cons_succ, List.getElem_cons_zero, Act.put]
        clear z3 z4 y3 y4 hS1 hSA hbA hw0
        generalize (w6.drew.setCell ⟨q, 3, none⟩ (.bool true)).setCell ⟨q, 4, none⟩ (.int .i64 s) = w7 at *
        have hBq : Below W3.heap.size W3 w7 := hB36.trans (hGB.toBelow hB36.size (fun k e => by subst e; omega))
        have km := hMB.boxed
        have bL := BlkIs.new w7 97 (frCells ep 0 p true s 0 A6 512 c6)
        have hBL : Below w7.heap.size w7 (w7.alloc (.cells (frCells ep 0 p true s 0 A6 512 c6) 97)) := (Below.refl _ _).alloc (Nat.le_refl _) _
        have hin := (ownG_in (World.ownsRow_lit (base := w7.heap.size) (size := 7) (e := 97) w7 (frCells ep 0 p true s 0 A6 512 c6) 1 (Nat.le_refl _) (by decide) rfl) (frCells_one _ _ _ _ _ _ _ _ _))
        obtain ⟨AL, cL, eL, hin⟩ := hin
        injection eL with eL1 _ eL2
        subst eL1 eL2
        have fm := hMB.free 0
        have hin7 : InB w7 w7.heap.size A6 c6 y := GrowBut.inB hGB hin6 (fun g o e _ => hqA g o e)
        obtain ⟨FC, hFC⟩ : ∃ FC, FC = frCells ep 0 p true s 0 A6 512 c6 := ⟨_, rfl⟩
        rw [← hFC] at hbB bL hBL hin
        have hfs : FC.size = 7 := by rw [hFC]; rfl
        have HFC := Lib.hid hFC
        clear hFC hin6 hB6 hB36 m6 s6 hGB
        go_wp2_with (first
          | (refine wp_loadW rfl 97 (.tmp 10) rfl q rfl rowFrame hbB hfs ?_)
          | (refine wp_exec rfl (x_sliceFr FC hfs rfl rfl) ?_)
          | (at_builtin; refine wp_appG rfl elFrame (.tmp 70) (.tmp 72) rfl w7.heap.size (.slice none 0 0) 0 [] rfl (World.ownsRow_nil _ _ _ _) _ (some ⟨w7.heap.size, 0, none⟩) 1 1 FC.toList rfl hin (by decide) (by decide) hBL.size ?_; intro v8 w8 own8 hg8; replace own8 : w8.ownsRow w7.heap.size 97 7 v8 1 FC.toList := own8; obtain ⟨g8, c8, cur8, rfl, hgb8, hcell8, hn8, hm8, hs8, ht8⟩ := own8.2.resolve_left (fun h => absurd h.2 (by decide)); have m8 := (hMB.alloc (.cells FC 97)).grown hg8 (fun e => by cases e); have km8 := m8.boxed; have fm8 := m8.free 0))
        have hB8 : Below W3.heap.size W3 w8 := hBq.trans (((hBL.mono hBq.size).trans (grown_below hg8 (Nat.le_trans hBq.size hBL.size) (fun r e => by cases e))))
        refine ⟨.inr ⟨rfl, hB8.setCell (p := ⟨W3.heap.size, 0, none⟩) (Nat.le_refl _) _, g8, c8, A6, c6, hn8, hm8, m8.set 0 _, ?_, ?_, ?_, ?_, ?_⟩, by decide⟩
        · intro j v hj
          rw [← HFC.out] at hj
          have hne : ¬ g8 = W3.heap.size := by have := hMB.lt; omega
          have hb8 : BlkIs w8 g8 97 cur8 := hcell8
          refine (World.cell?_of_block (Below.heap_setCell w8 ⟨W3.heap.size, 0, none⟩ _ g8 hne)).trans ?_
          rw [hb8.cell, ← ht8] at *
          rw [List.getElem?_take] at hj
          split at hj
          · simpa using hj
          · cases hj
        · show g8 < _
          have := (Array.getElem?_eq_some_iff.1 hcell8).1
          simpa using this
        · have := hBq.size
          omega
        · exact GrowBut.inB (Mu := fun k => k = W3.heap.size) (((GrowBut.below hBL).trans (GrowBut.grown hg8 (fun r e => by cases e))).trans (GrowBut.setCell _ _ _ rfl)) hin7 (fun g o e _ => by have := hA6 g o e; have := m5.lt; omega)
        · intro g o e
          have := hA6 g o e
          omega
    · have hsz4 := hB4.size
      have d0 := hD3.lt
      have d1 := hlg3.lt
      have ne0 := b03.lt
      have ne1 := b13.lt
      rw [← hy512] at hr4
      have hdl : d ≠ w.heap.size := by omega
      have hdl1 : d ≠ w.heap.size + 1 := by omega
      have hll0 : l < w.heap.size := hlw
      have hok : frOk y.length 0 p true s = true := by
        rw [hy512]
        exact hfo
      have HS := appS_gives wr l d many w.heap.size W3.heap.size (w.heap.size + 1) gD xs left fr pg sr ep sz fg fc p s A6 c6 y (hD3.grow hB4) hl h1l h2l (hlg3.below hB4 hlg3.lt) (b03.below hB4 b03.lt) m4 (b13.below hB4 b13.lt) hfc1 hfc2 hr4 hfg hy4 (fun g o e _ => by have := hA6 g o e; omega) hld hdl.symm (by omega) hdl1.symm (by omega) (by omega) (by omega) (by omega) hpe0 hok hsz hm11 hmax hsr
      have k0 := (b03.below hB4 b03.lt).boxed
      have kl : wr.cell? ⟨l, 0, none⟩ = some (.pointer (some ⟨d, 0, none⟩)) := by rw [(hlg3.below hB4 hlg3.lt).cell]; rfl
      clear hD3 hlg3 b03 b13 hy3 hx3 t0 t6
      go_wp2_with (go_at_call 47; refine HS.mono ?_; rintro e w9 ⟨rfl, hD9, hl9, hG9⟩)
      go_ret
      exact ⟨rfl, hD9, ⟨_, _, hl9⟩, (GrowBut.below (hBw3.trans (hB4.mono hBw3.size))).trans hG9⟩
end
end Go.Proofs.YtocnabpplbeafaaGreat
/- As DkLay, for the seat of rows 16 to 19 (maps of pages; the numbers are that seat's). -/
namespace Go.Proofs.YtocnabpplbeafaaGreat
open Go Go.RowKit Lou Go.Maps Go.Sort Go.Shelf

def layK_ren : Go.Shelf.Ren := ⟨fun | 7 => 98 | 10 => 127 | n => n, fun | 23 => 115 | 26 => 3 | 3 => 38 | 28 => 151 | 0 => 0 | 27 => 150 | 33 => 184 | 4 => 4 | n => n, fun | n => n⟩
theorem layK : SlLaysZI.n7 Tryz.prog layK_ren := {
  mixed := by kernel_rfl
  f7 := ⟨Tryz.f98.name, by decide, Tryz.func98.trans (congrArg some (by kernel_rfl))⟩
  f10 := ⟨Tryz.f127.name, by decide, Tryz.func127.trans (congrArg some (by kernel_rfl))⟩
  t0 := Tryz.underlying0
  a0 := Tryz.isAgg0
  z0 := Tryz.sizeOf0
  v0 := Tryz.zeroValue0
  t4 := Tryz.underlying4
  a4 := Tryz.isAgg4
  z4 := Tryz.sizeOf4
  v4 := Tryz.zeroValue4
  t23 := Tryz.underlying115
  a23 := Tryz.isAgg115
  z23 := Tryz.sizeOf115
  v23 := Tryz.zeroValue115
  t26 := Tryz.underlying3
  a26 := Tryz.isAgg3
  z26 := Tryz.sizeOf3
  v26 := Tryz.zeroValue3
  t27 := Tryz.underlying150
  a27 := Tryz.isAgg150
  z27 := Tryz.sizeOf150
  v27 := Tryz.zeroValue150
  t28 := Tryz.underlying151
  a28 := Tryz.isAgg151
  z28 := Tryz.sizeOf151
  v28 := Tryz.zeroValue151
  t33 := Tryz.underlying184
  a33 := Tryz.isAgg184
  z33 := Tryz.sizeOf184
  v33 := Tryz.zeroValue184 }
def layS_ren : Go.Shelf.Ren := ⟨fun | 6 => 97 | 8 => 125 | 9 => 126 | 11 => 142 | 13 => 144 | 12 => 143 | 23 => 161 | 24 => 162 | 14 => 152 | 15 => 153 | 16 => 154 | 17 => 155 | 18 => 156 | 19 => 157 | 20 => 158 | 21 => 159 | 22 => 160 | 25 => 169 | 26 => 170 | 27 => 171 | 28 => 172 | 29 => 173 | 30 => 174 | 31 => 178 | n => n, fun | 26 => 3 | 28 => 151 | 24 => 37 | 0 => 0 | 3 => 3 | 37 => 205 | 48 => 95 | 50 => 54 | 4 => 4 | 40 => 234 | 39 => 233 | 45 => 239 | 5 => 5 | 9 => 9 | 51 => 250 | 55 => 253 | 57 => 257 | 58 => 58 | 33 => 184 | n => n, fun | n => n⟩
theorem layS : SlLaysZI.n6 Tryz.prog layS_ren := {
  mixed := by kernel_rfl
  f6 := ⟨Tryz.f97.name, by decide, Tryz.func97.trans (congrArg some (by kernel_rfl))⟩
  f8 := ⟨Tryz.f125.name, by decide, Tryz.func125.trans (congrArg some (by kernel_rfl))⟩
  f11 := ⟨Tryz.f142.name, by decide, Tryz.func142.trans (congrArg some (by kernel_rfl))⟩
  t0 := Tryz.underlying0
  a0 := Tryz.isAgg0
  z0 := Tryz.sizeOf0
  v0 := Tryz.zeroValue0
  t24 := Tryz.underlying37
  a24 := Tryz.isAgg37
  z24 := Tryz.sizeOf37
  v24 := Tryz.zeroValue37
  t26 := Tryz.underlying3
  a26 := Tryz.isAgg3
  z26 := Tryz.sizeOf3
  v26 := Tryz.zeroValue3
  t28 := Tryz.underlying151
  a28 := Tryz.isAgg151
  z28 := Tryz.sizeOf151
  v28 := Tryz.zeroValue151
  i26 := by kernel_rfl }
def layO_ren : Go.Shelf.Ren := ⟨fun | 5 => 126 | 8 => 144 | 7 => 143 | 19 => 161 | 20 => 162 | 10 => 152 | 11 => 153 | 12 => 154 | 13 => 155 | 14 => 156 | 15 => 157 | 16 => 158 | 17 => 159 | 18 => 160 | 30 => 169 | 31 => 170 | 32 => 171 | 33 => 172 | 34 => 173 | 35 => 174 | 40 => 178 | n => n, fun | 23 => 37 | 25 => 3 | 3 => 3 | 32 => 205 | 22 => 37 | 0 => 0 | 44 => 95 | 46 => 54 | 4 => 4 | 36 => 234 | 35 => 233 | 41 => 239 | 5 => 5 | 9 => 9 | 53 => 250 | 57 => 253 | 63 => 257 | 64 => 58 | n => n, fun | n => n⟩
theorem layO : SlLaysM.n5 Tryz.prog layO_ren := {
  mixed := by kernel_rfl
  f5 := ⟨Tryz.f126.name, by decide, Tryz.func126.trans (congrArg some (by kernel_rfl))⟩
  f7 := ⟨Tryz.f143.name, by decide, Tryz.func143.trans (congrArg some (by kernel_rfl))⟩
  f8 := Tryz.func144.trans (congrArg some (by kernel_rfl))
  f10 := ⟨Tryz.f152.name, by decide, Tryz.func152.trans (congrArg some (by kernel_rfl))⟩
  f11 := ⟨Tryz.f153.name, by decide, Tryz.func153.trans (congrArg some (by kernel_rfl))⟩
  f12 := ⟨Tryz.f154.name, by decide, Tryz.func154.trans (congrArg some (by kernel_rfl))⟩
  f13 := ⟨Tryz.f155.name, by decide, Tryz.func155.trans (congrArg some (by kernel_rfl))⟩
  f14 := ⟨Tryz.f156.name, by decide, Tryz.func156.trans (congrArg some (by kernel_rfl))⟩
  f15 := ⟨Tryz.f157.name, by decide, Tryz.func157.trans (congrArg some (by kernel_rfl))⟩
  f16 := ⟨Tryz.f158.name, by decide, Tryz.func158.trans (congrArg some (by kernel_rfl))⟩
  f17 := ⟨Tryz.f159.name, by decide, Tryz.func159.trans (congrArg some (by kernel_rfl))⟩
  f18 := ⟨Tryz.f160.name, by decide, Tryz.func160.trans (congrArg some (by kernel_rfl))⟩
  f19 := Tryz.func161.trans (congrArg some (by kernel_rfl))
  f20 := Tryz.func162.trans (congrArg some (by kernel_rfl))
  f30 := ⟨Tryz.f169.name, by decide, Tryz.func169.trans (congrArg some (by kernel_rfl))⟩
  f31 := Tryz.func170.trans (congrArg some (by kernel_rfl))
  f32 := Tryz.func171.trans (congrArg some (by kernel_rfl))
  f33 := ⟨Tryz.f172.name, by decide, Tryz.func172.trans (congrArg some (by kernel_rfl))⟩
  f34 := ⟨Tryz.f173.name, by decide, Tryz.func173.trans (congrArg some (by kernel_rfl))⟩
  f35 := ⟨Tryz.f174.name, by decide, Tryz.func174.trans (congrArg some (by kernel_rfl))⟩
  f40 := ⟨Tryz.f178.name, by decide, Tryz.func178.trans (congrArg some (by kernel_rfl))⟩
  t0 := Tryz.underlying0
  a0 := Tryz.isAgg0
  z0 := Tryz.sizeOf0
  v0 := Tryz.zeroValue0
  t3 := Tryz.underlying3
  a3 := Tryz.isAgg3
  z3 := Tryz.sizeOf3
  v3 := Tryz.zeroValue3
  t4 := Tryz.underlying4
  a4 := Tryz.isAgg4
  z4 := Tryz.sizeOf4
  v4 := Tryz.zeroValue4
  t5 := Tryz.underlying5
  a5 := Tryz.isAgg5
  z5 := Tryz.sizeOf5
  v5 := Tryz.zeroValue5
  t9 := Tryz.underlying9
  a9 := Tryz.isAgg9
  z9 := Tryz.sizeOf9
  v9 := Tryz.zeroValue9
  t22 := Tryz.underlying37
  a22 := Tryz.isAgg37
  z22 := Tryz.sizeOf37
  v22 := Tryz.zeroValue37
  t23 := Tryz.underlying37
  a23 := Tryz.isAgg37
  z23 := Tryz.sizeOf37
  v23 := Tryz.zeroValue37
  t25 := Tryz.underlying3
  a25 := Tryz.isAgg3
  z25 := Tryz.sizeOf3
  v25 := Tryz.zeroValue3
  t32 := Tryz.underlying205
  a32 := Tryz.isAgg205
  z32 := Tryz.sizeOf205
  v32 := Tryz.zeroValue205
  t35 := Tryz.underlying233
  a35 := Tryz.isAgg233
  z35 := Tryz.sizeOf233
  v35 := Tryz.zeroValue233
  t36 := Tryz.underlying234
  a36 := Tryz.isAgg234
  z36 := Tryz.sizeOf234
  v36 := Tryz.zeroValue234
  t41 := Tryz.underlying239
  a41 := Tryz.isAgg239
  z41 := Tryz.sizeOf239
  v41 := Tryz.zeroValue239
  t44 := Tryz.underlying95
  a44 := Tryz.isAgg95
  z44 := Tryz.sizeOf95
  v44 := Tryz.zeroValue95
  t46 := Tryz.underlying54
  a46 := Tryz.isAgg54
  z46 := Tryz.sizeOf54
  v46 := Tryz.zeroValue54
  t53 := Tryz.underlying250
  a53 := Tryz.isAgg250
  z53 := Tryz.sizeOf250
  v53 := Tryz.zeroValue250
  t57 := Tryz.underlying253
  a57 := Tryz.isAgg253
  z57 := Tryz.sizeOf253
  v57 := Tryz.zeroValue253
  t63 := Tryz.underlying257
  a63 := Tryz.isAgg257
  z63 := Tryz.sizeOf257
  v63 := Tryz.zeroValue257
  t64 := Tryz.underlying58
  a64 := Tryz.isAgg58
  z64 := Tryz.sizeOf58
  v64 := Tryz.zeroValue58 }
theorem sortsInts (m : Nat) : AnyZI.SortsIn Tryz.prog layS_ren Fence.wide m :=
  ⟨fun blk off cap ss W hH hblk hsz => callsIn_wide.2 (AnyM.slices_Sort_int layO blk off cap ss W hH hblk hsz),
   fun p cap W => callsIn_wide.2 (AnyM.slices_Sort_int_none layO p cap W)⟩
end Go.Proofs.YtocnabpplbeafaaGreat
/- wal: no frames: the map of pages is empty; what is told of it. -/
namespace Go.Proofs.YtocnabpplbeafaaGreat
open Go Go.RowKit Lou Go.Maps Go.Sort Go.Shelf

/-- How the map's values read: each as nothing. -/
def dRn : Value → Option (DataW Unit × List MemPlace) := fun _ => some (.nil, [])
theorem own_mt {w : World} {r clock : Nat} (h : MapIs w r #[] clock) : ∃ D0, w.ownsMap Tryz.prog 3 dRn r 0 D0 ∧ Maps.size D0 = 0 ∧ intKeys D0 = [] :=
  ⟨.map [], ⟨#[], clock, h, ⟨by decide, MapKept.stamped_empty clock, fun x hx => by simp at hx⟩, by decide, rfl⟩, rfl, rfl⟩
set_option maxHeartbeats 2000000 in
/-- sorted of an empty map. -/
theorem wsorted_mt (w : World) (r clock : Nat) (h : MapIs w r #[] clock) :
    Calls Tryz.prog 64 #[.map (some r)] w fun e w' => ∃ A c, e = .returned (.slice A 0 c) ∧ Below w.heap.size w w' := by
  obtain ⟨D0, hown, hsz, hks⟩ := own_mt h
  refine (callsIn_wide (n := 6)).1 ?_
  have hbl := hown.lt
  have hmax : Maps.size D0 ≤ maxLen := by rw [hsz]; decide
  have hbytes : Maps.size D0 * 8 ≤ 140737488355328 := by omega
  have hseq : SeqGives Fence.wide 2 Tryz.prog 127 #[.pointer (some ⟨w.heap.size, 0, none⟩)] encZ (fun ss => ss.Perm (intKeys D0)) (Maps.size D0) (w.alloc (.cells #[.map (some r)] 115)) :=
    AnyZI.keys_gives (ρ := layK_ren) { layK with } Fence.wide _ trivial rfl (by omega) w.heap.size r 0 D0 _ (by simp) (by simp) (by
      obtain ⟨es, clock, hb, Ft, hs, hD⟩ := hown
      exact ⟨es, clock, (Below.heap_alloc _ _ r hbl).trans hb, Ft, hs, hD⟩)
  have cK : ∀ mb W, CallsIn Fence.wide 5 Tryz.prog 98 #[.map mb] W fun e w' => e = .returned (.func (.func 127) #[] #[.pointer (some ⟨W.heap.size, 0, none⟩)]) ∧ w' = W.alloc (.cells #[.map mb] 115) := fun mb W => AnyZI.keys_in layK Fence.wide 5 trivial rfl mb W
  have cS := AnyZI.sorted_in layS Fence.wide 5 trivial trivial trivial trivial rfl (by omega) (sortsInts _) (enters_of Tryz.func126 (by kernel_rfl) rfl) 127 #[.pointer (some ⟨w.heap.size, 0, none⟩)] trivial (enters_of Tryz.func127 (by kernel_rfl) rfl) _ _ hmax hbytes _ hseq
  change CallsIn _ _ Tryz.prog 97 _ _ _ at cS
  have hfK : Fence.wide.fn 98 := trivial
  have hfS : Fence.wide.fn 97 := trivial
  refine callsIn_of_wp Tryz.func64 rfl trivial ?_ rfl
  simp only [Tryz.ntmps64, List.size_toArray, List.length_cons, List.length_nil, Nat.reduceAdd, Nat.reduceSub, Array.replicate_succ, Array.replicate_zero, List.push_toArray, List.append_toArray, List.nil_append, List.cons_append]
  gi_wp2_with (first
    | (gi_at_call 98; refine (cK _ _).mono ?_; rintro e w' ⟨rfl, rfl⟩)
    | (gi_at_call 97; refine cS.mono ?_; rintro e w' ⟨v, ss, rfl, hS, hrow, hnil, hb⟩))
  go_ret
  rw [hks] at hS
  have hss : ss = [] := List.Perm.eq_nil hS
  subst hss
  obtain ⟨A, c, rfl, _⟩ := ownG_in hrow (fun v hv => by simp at hv)
  exact ⟨A, c, rfl, ((Below.refl _ w).alloc (Nat.le_refl _) _).trans (hb.mono (by simp))⟩
set_option maxRecDepth 100000 in
/-- last, where there is no log. -/
theorem last_no (w : World) (v : Value) (h : NoLog w v) : Calls Tryz.prog 62 #[v] w fun e w' => e = .returned (.map (some w.heap.size)) ∧ MapIs w' w.heap.size #[] 0 ∧ Below w.heap.size w w' := by
  have hB : Below w.heap.size w (w.alloc (.map #[] 0)) := (Below.refl _ w).alloc (Nat.le_refl _) _
  have HN := lnone_no (h.grow hB)
  go_enter Tryz.func62, Tryz.ntmps62
  go_wp2_with (first
    | (refine wp_makeMap rfl rfl ?_; intro hm)
    | (go_at_call 42; refine HN.mono ?_; rintro e w' ⟨rfl, rfl⟩))
  go_ret
  exact ⟨rfl, hm, hB⟩
set_option maxRecDepth 100000 in
/-- last, where no frame counts. -/
theorem last_mt (w : World) (l d : Nat) (fr pg : Int) (sr ep : Nat) (sz : Int) (hlg : BlkIs w l 57 (lgC (some ⟨d, 0, none⟩) fr pg sr ep sz none 0 0)) : Calls Tryz.prog 62 #[.pointer (some ⟨l, 0, none⟩)] w fun e w' => e = .returned (.map (some w.heap.size)) ∧ MapIs w' w.heap.size #[] 0 ∧ Below w.heap.size w w' := by
  have hB : Below w.heap.size w (w.alloc (.map #[] 0)) := (Below.refl _ w).alloc (Nat.le_refl _) _
  have hlg0 := hlg.below hB hlg.lt
  have HN := lnone_gives hlg0
  have k6 : (w.alloc (.map #[] 0)).cell? ⟨l, 6, none⟩ = some (.slice none 0 0) := by rw [hlg0.cell]; rfl
  go_enter Tryz.func62, Tryz.ntmps62
  go_wp2_with (first
    | (refine wp_makeMap rfl rfl ?_; intro hm)
    | (go_at_call 42; refine HN.mono ?_; rintro e w' ⟨rfl, rfl⟩))
  go_loopw [15] (fun i wr => i = .int .i64 0 ∧ wr = w.alloc (.map #[] 0)) (fun _ _ => 0)
  case atStart => exact ⟨rfl, rfl⟩
  case round =>
    obtain ⟨rfl, rfl⟩ := hrel
    go_wp2
    go_ret
    exact ⟨rfl, hm, hB⟩
theorem x_lookup_mt {w : World} {o : Oper} {ρ : Operand → Value} {x y : Operand} {r clock : Nat} {k : Int} (h : MapIs w r #[] clock) (b : Bool) (ho : o.op = .lookup 115 x y b) (h1 : ρ x = .map (some r)) (h2 : ρ y = .int .i64 k) : (execOp ρ o).run Tryz.prog w = .ok (.value (if b then .tuple #[.slice none 0 0, .bool false] else .slice none 0 0)) w := by
  have hk : MapKept.IsKey (.int .i64) (.int .i64 k) := rfl
  have hc : (Instr.checkKey true 10000 3 (.int .i64 k)).run Tryz.prog w = .ok () w := MapKept.run_checkKey Tryz.underlying3 hk true 9999
  have hm' : w.heap[r]? = some (.map #[] clock) := h
  have hf : Instr.findNow (.int .i64) (.int .i64 k) (#[] : Array MapEntry).toList 0 = some none := rfl
  have zv : (zeroValue 38).run Tryz.prog w = .ok (.slice none 0 0) w := by simp [go_sem]
  cases b <;> simp [execOp, ho, h1, h2, Instr.lookup, run_underlying Tryz.underlying115, MapKept.run_getObj_map hm', hc, MapKept.run_findKey Tryz.underlying3 hf, zv, Result.andThen]
set_option maxRecDepth 100000 in
theorem page_of (w : World) (v : Value) (p : Int) (HL : Calls Tryz.prog 62 #[v] w fun e w' => e = .returned (.map (some w.heap.size)) ∧ MapIs w' w.heap.size #[] 0 ∧ Below w.heap.size w w') :
    Calls Tryz.prog 23 #[v, .int .i64 p] w fun e w' => ∃ A c, e = .returned (.tuple #[.slice A 0 c, .bool false]) ∧ Below w.heap.size w w' := by
  go_enter Tryz.func23, Tryz.ntmps23
  go_wp2_with (first
    | (go_at_call 62; refine HL.mono ?_; rintro e w1 ⟨rfl, hm, hB⟩)
    | (refine wp_exec rfl (x_lookup_mt hm true rfl rfl rfl) ?_)
    | (go_at_call 46; refine (clone_gives w1 none 0 [] (InB.mt _ _) (by simp)).mono ?_; rintro e w2 ⟨v2, rfl, own2, hB2⟩; obtain ⟨A2, c2, rfl, _⟩ := own2.inB))
  exact bodyPost_ret (results_tmp2 rfl _ _ _) rfl ⟨A2, c2, rfl, hB.trans (hB2.mono hB.size)⟩
set_option maxRecDepth 100000 in
theorem pages_of (w : World) (v : Value) (HL : Calls Tryz.prog 62 #[v] w fun e w' => e = .returned (.map (some w.heap.size)) ∧ MapIs w' w.heap.size #[] 0 ∧ Below w.heap.size w w') :
    Calls Tryz.prog 24 #[v] w fun e w' => ∃ q, e = .returned (.func (.func 63) #[] #[.pointer (some ⟨q, 0, none⟩)]) ∧ BlkIs w' q 115 #[.map (some w.heap.size)] ∧ MapIs w' w.heap.size #[] 0 ∧ Below w.heap.size w w' := by
  go_enter Tryz.func24, Tryz.ntmps24
  go_wp2_with (go_at_call 62; refine HL.mono ?_; rintro e w1 ⟨rfl, hm, hB⟩)
  go_ret
  have hB2 : Below w1.heap.size w1 (w1.alloc (.cells #[.map (some w.heap.size)] 115)) := (Below.refl _ _).alloc (Nat.le_refl _) _
  exact ⟨_, rfl, BlkIs.new w1 _ _, hm.below hB2 hm.lt, hB.trans (hB2.mono hB.size)⟩
set_option maxRecDepth 100000 in
set_option maxHeartbeats 4000000 in
/-- The pages of no frames: none. -/
theorem pages1_seq (n : Nat) (hn : 6 ≤ n) (q r clock : Nat) (w : World) (hq : BlkIs w q 115 #[.map (some r)]) (hm : MapIs w r #[] clock) :
    SeqR Fence.wide n Tryz.prog 63 #[.pointer (some ⟨q, 0, none⟩)] (fun _ : Unit => #[.int .i64 0, .slice none 0 0]) (fun _ => False) (fun _ _ _ => False) (fun ys => ys = []) (fun _ => False) w := by
  intro l J Jx W hW hJ _ _ h0
  have h1 : 1 ≤ n := by omega
  have hqW := hq.below hW hq.lt
  have hmW := hm.below hW hm.lt
  have kq := hqW.boxed
  have HS := wsorted_mt W r clock hmW
  refine callsIn_of_wp Tryz.func63 rfl trivial ?_ rfl
  simp only [Tryz.ntmps63, List.size_toArray, List.length_cons, List.length_nil, Nat.reduceAdd, Nat.reduceSub, Array.replicate_succ, Array.replicate_zero, List.push_toArray, List.append_toArray, List.nil_append, List.cons_append]
  gi_wp2
  refine wpIn_scope_wide ?_
  gi_wp2
  refine wpIn_label ?_
  gi_wp2_with (refine ⟨trivial, ?_⟩; gi_at_call 64; refine (callsIn_wide.2 HS).mono ?_; rintro e w1 ⟨A, c, rfl, hB⟩)
  gi_loopw [8] (fun i wr => i = .int .i64 0 ∧ wr = w1) (fun _ _ => 0)
  case atStart => exact ⟨rfl, rfl⟩
  case round =>
    obtain ⟨rfl, rfl⟩ := hrel
    gi_wp2
    simp only [Exit.noGoto]
    go_end0
    exact ⟨⟨_, rfl⟩, .inl ⟨[], rfl, hJ.grow h0 hB⟩⟩
end Go.Proofs.YtocnabpplbeafaaGreat
/- loupelaw06.page: 512 bytes alike; num. -/
namespace Go.Proofs.YtocnabpplbeafaaGreat
open Go Go.RowKit Lou

theorem num6_gives (e : Int) (w : World) : Calls Tryz.prog 12 #[.int .i64 e] w fun x w' => x = .returned (.int .i64 e) ∧ w = w' := by
  go_enter Tryz.func12, Tryz.ntmps12
  go_wp2
  go_ret
  exact ⟨rfl, rfl⟩
def pgL (v : UInt8) : List UInt8 := List.replicate 512 v
theorem fill_nextP (v : UInt8) (k : Nat) (h : k < 512) : (List.replicate k v ++ List.replicate (512 - k) (0 : UInt8)).set k v = List.replicate (k + 1) v ++ List.replicate (512 - (k + 1)) 0 := by
  rw [List.set_append_right _ _ (by simp)]
  have e : 512 - k = (512 - (k + 1)) + 1 := by omega
  rw [List.length_replicate, Nat.sub_self, e, List.replicate_succ, List.set_cons_zero, List.replicate_succ', List.append_assoc]
  rfl
set_option maxRecDepth 100000 in
set_option maxHeartbeats 2000000 in
theorem page6_gives (w : World) (v : UInt8) : Calls Tryz.prog 36 #[.int .u8 (v.toNat : Int)] w (GivesB w (pgL v)) := by
  have hv := v.toNat_lt
  have hu : UInt8.ofNat v.toNat = v := by simp
  obtain ⟨F, hF⟩ : ∃ F : Nat → List UInt8, F = fun k => List.replicate k v ++ List.replicate (512 - k) 0 := ⟨_, rfl⟩
  have hF0 : F 0 = List.replicate 512 0 := by rw [hF]; rfl
  have hFn : F 512 = pgL v := by rw [hF]; simp [pgL]
  have hFs : Hid (∀ k, k < 512 → (F k).set k (UInt8.ofNat v.toNat) = F (k + 1)) := Lib.hid (by rw [hF, hu]; exact fun k h => fill_nextP v k h)
  have hFl : Hid (∀ k, k ≤ 512 → (F k).length = 512) := Lib.hid (by rw [hF]; intro k h; simp; omega)
  obtain ⟨x, hx⟩ : ∃ x, x = v.toNat := ⟨_, rfl⟩
  rw [← hx] at hFs hv ⊢
  rw [← hFn]
  clear hF hu hx hFn
  go_enter Tryz.func36, Tryz.ntmps36
  go_wp2_with (refine wp_makeB rfl _ _ rfl w.heap.size .i64 .i64 512 rfl rfl (by omega) (Nat.le_refl _) ?_; intro w1 own1 hg1; have hB1 : Below w.heap.size w w1 := grown_below hg1 (Nat.le_refl _) (fun r hr => by cases hr))
  rw [← hF0] at own1
  have hgw : w.heap.size < w1.heap.size := by
    rcases own1.form with ⟨h1, _⟩ | ⟨g', cap', h1, h2, h3, h4⟩
    · cases h1
    · exact ownG_lt own1 w.heap.size rfl
  clear hF0
  go_loopw [4] (fun i wr => ∃ k : Nat, k ≤ 512 ∧ i = .int .i64 k ∧ OwnB wr w.heap.size (.slice (some ⟨w.heap.size, 0, none⟩) 512 512) (F k) ∧ Below w.heap.size w wr) (fun i _ => 512 - (intOf i).toNat)
  case atStart => exact ⟨0, by omega, rfl, own1, hB1⟩
  case round =>
    obtain ⟨k, hk, rfl, ownr, hBr⟩ := hrel
    by_cases hlt : k < 512
    · have hwk : IntKind.i64.wrap ((k : Int) + 1) = (k : Int) + 1 := wrap_i64_fr _ (by omega) (by omega)
      have hc := ownr.cell k (by rw [hFl.out k hk]; exact hlt)
      have hfz := ownr.free k
      have own2 := ownr.set k x hv
      rw [hFs.out k hlt] at own2
      go_wp2
      exact ⟨⟨k + 1, by omega, by simp, own2, hBr.setCell (p := ⟨w.heap.size, k, none⟩) (Nat.le_refl _) _⟩, by simp [intOf]; omega⟩
    · obtain rfl : k = 512 := by omega
      go_wp2
      go_ret
      exact ⟨_, rfl, ownr, hBr⟩
end Go.Proofs.YtocnabpplbeafaaGreat
/- loupelaw06.works: the chapter's rows. -/
namespace Go.Proofs.YtocnabpplbeafaaGreat
open Go Go.RowKit Lou

theorem BlkIs.rng {w : World} {g : Nat} {T : TypeId} {l : List Value} (h : BlkIs w g T l.toArray) : w.rangeAt g 0 l := fun j v hj => by
  rw [h.cell, Nat.zero_add]
  simpa using hj
theorem pw3_in {w : World} {g : Nat} {T : TypeId} {x y : Value} (h : BlkIs w g T #[x, y, x, y, x, y]) (k : Nat) (hk : k < 3) : w.rangeAt g (0 + k * 2) [x, y] := fun j v hj => by
  rw [h.cell]
  rcases k with _ | _ | _ | k
  · rcases j with _ | _ | j
    · exact hj
    · exact hj
    · simp at hj
  · rcases j with _ | _ | j
    · exact hj
    · exact hj
    · simp at hj
  · rcases j with _ | _ | j
    · exact hj
    · exact hj
    · simp at hj
  · omega
theorem pgL_length (v : UInt8) : (pgL v).length = 512 := List.length_replicate
theorem page6_at (v : UInt8) (x : Int) (hx : (v.toNat : Int) = x) (W : World) : Calls Tryz.prog 36 #[.int .u8 x] W fun e w' => ∃ A c, e = .returned (.slice A 512 c) ∧ InB w' w'.heap.size A c (pgL v) ∧ (∀ g o, A = some ⟨g, o, none⟩ → W.heap.size ≤ g) ∧ Below W.heap.size W w' := by
  subst hx
  refine (page6_gives W v).mono ?_
  rintro e w' ⟨y, rfl, own, hB⟩
  have hge := ownG_ge own
  obtain ⟨A, c, rfl, hin⟩ := own.inB
  exact ⟨A, c, by rw [pgL_length], hin, fun g o e => by subst e; exact hge g rfl, hB⟩
set_option maxRecDepth 100000 in
set_option maxHeartbeats 8000000 in
theorem works6_gives (w : World) : Calls Tryz.prog 8 #[] w fun e w' => e = .returned (.bool true) ∧ Below w.heap.size w w' := by
  have HN : ∀ W, Calls Tryz.prog 9 #[.int .i64 45] W fun e w' => ∃ p, e = .returned (.tuple #[.pointer (some ⟨p, 0, none⟩), .int .i64 0]) ∧ W.heap.size ≤ p ∧ DkIs w' p 45 (fun _ => zer64) [] 0 false ∧ Below W.heap.size W w' := fun W => new_gives W 45 (by decide) (by decide)
  have HO : ∀ W d, DkIs W d 45 (fun _ => zer64) [] 0 false → Calls Tryz.prog 11 #[.pointer (some ⟨d, 0, none⟩), .agg #[.int .i64 3, .int .i64 2]] W fun e w' => ∃ l g, e = .returned (.tuple #[.pointer (some ⟨l, 0, none⟩), .int .i64 0]) ∧ W.heap.size ≤ l ∧ DkIs w' d 45 g [] 0 false ∧ BlkIs w' l 57 (lgC (some ⟨d, 0, none⟩) 3 2 1 1 0 none 0 0) ∧ W.grownBy w' (some d) := fun W d hD => open_new W 3 2 d 45 0 hD (by decide) (by decide) (by decide) (by decide) (by decide)
  have HE1 : ∀ W l d sr sz A n c, BlkIs W l 57 (lgC (some ⟨d, 0, none⟩) 3 2 sr 1 sz A n c) → Calls Tryz.prog 26 #[.pointer (some ⟨l, 0, none⟩)] W fun e w' => e = .returned (.int .u64 1) ∧ W = w' := fun W l d sr sz A n c h => lepoch_gives h
  have HE2 : ∀ W l d sr sz A n c, BlkIs W l 57 (lgC (some ⟨d, 0, none⟩) 3 2 sr 2 sz A n c) → Calls Tryz.prog 26 #[.pointer (some ⟨l, 0, none⟩)] W fun e w' => e = .returned (.int .u64 2) ∧ W = w' := fun W l d sr sz A n c h => lepoch_gives h
  obtain ⟨P7, HP7, h7⟩ : ∃ P7, (∀ W, Calls Tryz.prog 36 #[.int .u8 7] W fun e w' => ∃ A c, e = .returned (.slice A 512 c) ∧ InB w' w'.heap.size A c P7 ∧ (∀ g o, A = some ⟨g, o, none⟩ → W.heap.size ≤ g) ∧ Below W.heap.size W w') ∧ Hid (P7.length = 512) := ⟨_, page6_at 7 7 (by decide), Lib.hid (pgL_length 7)⟩
  obtain ⟨P1, HP1, h1⟩ : ∃ P1, (∀ W, Calls Tryz.prog 36 #[.int .u8 1] W fun e w' => ∃ A c, e = .returned (.slice A 512 c) ∧ InB w' w'.heap.size A c P1 ∧ (∀ g o, A = some ⟨g, o, none⟩ → W.heap.size ≤ g) ∧ Below W.heap.size W w') ∧ Hid (P1.length = 512) := ⟨_, page6_at 1 1 (by decide), Lib.hid (pgL_length 1)⟩
  go_enter Tryz.func8, Tryz.ntmps8
  go_wp2_with fail
  refine (HN _).mono ?_
  rintro x W1 ⟨d, rfl, hp, hD1, hB1⟩
  have hdl := hD1.lt
  go_wp2_with fail
  refine (HO _ _ hD1).mono ?_
  rintro x W2 ⟨l, g2, rfl, hl2, hD2, hb2, hg2⟩
  have hB2 := hB1.trans (grown_below hg2 hB1.size (fun r h => by injection h with h; omega))
  have hld : ¬ l = d := by omega
  have hw1 := hB1.size
  go_wp2_with (go_at_call 12; refine (num6_gives _ _).mono ?_; rintro x W ⟨rfl, rfl⟩)
  refine (HE1 _ _ _ _ _ _ _ _ hb2).mono ?_
  rintro x W ⟨rfl, rfl⟩
  go_wp2_with fail
  refine (HP7 _).mono ?_
  rintro x W3 ⟨A7, c7, rfl, hin7, _, hB3⟩
  obtain ⟨V3, hV3⟩ : ∃ V3, V3 = W3.alloc (.cells #[.int .i64 1, .slice A7 512 c7] 80) := ⟨_, rfl⟩
  have bV3 : BlkIs V3 W3.heap.size 80 #[.int .i64 1, .slice A7 512 c7] := by rw [hV3]; exact BlkIs.new W3 _ _
  have hBV3 : Below W3.heap.size W3 V3 := by rw [hV3]; exact (Below.refl _ _).alloc (Nat.le_refl _) _
  have hB23 := hB3.trans (hBV3.mono hB3.size)
  have HA : Calls Tryz.prog 14 #[.pointer (some ⟨l, 0, none⟩), .int .i64 2, .slice (some ⟨W3.heap.size, 0, none⟩) 1 1] V3 fun e w' => e = .returned (.int .i64 0) ∧ (∃ g', DkIs w' d 45 g' [] 0 false) ∧ (∃ A c', BlkIs w' l 57 (lgC (some ⟨d, 0, none⟩) 3 2 2 1 2 A 1 c')) ∧ GrowBut (fun k => k = d ∨ k = l) V3 w' :=
    append_one V3 l d 45 g2 [] 0 3 2 1 1 0 (hD2.grow hB23) (by decide) (by decide) (by decide) (hb2.below hB23 hb2.lt) hld W3.heap.size 0 1 1 A7 c7 P7 bV3.lt (bV3.rng) ((hin7.below hBV3).more hBV3.size) h7.out (by decide) (by decide) (by decide) 2 (by decide) (by decide) (by decide) (by decide) (by decide) (by decide)
  go_wp2_with fail
  rw [← hV3]
  refine HA.mono ?_
  rintro x W4 ⟨rfl, ⟨g4, hD4⟩, ⟨A4, c4, hb4⟩, hG4⟩
  have hB4 : Below w.heap.size w W4 := (hB2.trans (hB23.mono hB2.size)).trans (hG4.toBelow (Nat.le_trans hB2.size hB23.size) (fun k e => by rcases e with rfl | rfl <;> omega))
  clear HA hV3 bV3 hBV3 hB23 hin7 hB3
  go_wp2_with (go_at_call 12; refine (num6_gives _ _).mono ?_; rintro x W ⟨rfl, rfl⟩)
  have HM : Calls Tryz.prog 22 #[.pointer (some ⟨l, 0, none⟩)] W4 fun e w' => e = .returned (.tuple #[.int .i64 1, .int .i64 2]) ∧ Below W4.heap.size W4 w' := lmany_gives W4 l d 3 2 2 1 2 A4 1 c4 hb4 (by decide) (by decide) (by decide)
  refine HM.mono ?_
  rintro x W5 ⟨rfl, hB5⟩
  have hD5 := hD4.grow hB5
  have hb5 := hb4.below hB5 hb4.lt
  have hB05 := hB4.trans (hB5.mono hB4.size)
  clear HM
  go_wp2_with fail
  refine (HP1 _).mono ?_
  rintro x W6 ⟨A1, c1, rfl, hin1, _, hB6⟩
  have hb6 := hb5.below hB6 hb5.lt
  have hD6 := hD5.grow hB6
  have hB06 := hB05.trans (hB6.mono hB05.size)
  go_wp2_with fail
  obtain ⟨V6, hV6⟩ : ∃ V6, V6 = (W6.alloc (.cells #[.int .i64 0, .slice A1 512 c1] 80)).alloc (.cells #[.int .i64 0, .slice A1 512 c1, .int .i64 0, .slice A1 512 c1, .int .i64 0, .slice A1 512 c1] 80) := ⟨_, rfl⟩
  have bV6 : BlkIs V6 (W6.heap.size + 1) 80 #[.int .i64 0, .slice A1 512 c1, .int .i64 0, .slice A1 512 c1, .int .i64 0, .slice A1 512 c1] := by
    have := BlkIs.new (W6.alloc (.cells #[.int .i64 0, .slice A1 512 c1] 80)) 80 #[.int .i64 0, .slice A1 512 c1, .int .i64 0, .slice A1 512 c1, .int .i64 0, .slice A1 512 c1]
    rw [World.size_alloc] at this
    rw [hV6]
    exact this
  have hBV6 : Below W6.heap.size W6 V6 := by rw [hV6]; exact ((Below.refl _ _).alloc (Nat.le_refl _) _).alloc (by simp) _
  have HF : Calls Tryz.prog 14 #[.pointer (some ⟨l, 0, none⟩), .int .i64 2, .slice (some ⟨W6.heap.size + 1, 0, none⟩) 3 3] V6 fun e w' => e = .returned (.int .i64 160) ∧ Below V6.heap.size V6 w' :=
    append_full V6 l d 3 2 2 1 2 A4 1 c4 (hb6.below hBV6 hb6.lt) (by decide) (W6.heap.size + 1) 0 3 3 (fun _ => (0, A1, c1)) (by decide) (by decide) (fun k hk => pw3_in bV6 k hk) bV6.lt (fun _ _ => by show plE (planOk 3 2) 0 2 = 0; decide) 2 (by decide) (by decide) (by decide)
  rw [← hV6]
  refine HF.mono ?_
  rintro x W7 ⟨rfl, hB7⟩
  have hB67 := hBV6.trans (hB7.mono hBV6.size)
  have hD7 := hD6.grow hB67
  have hb7 := hb6.below hB67 hb6.lt
  have hB07 := hB06.trans (hB67.mono hB06.size)
  clear HF hV6 bV6 hBV6
  have HR : Calls Tryz.prog 13 #[.pointer (some ⟨l, 0, none⟩)] W7 fun e w' => e = .returned (.int .i64 0) ∧ (∃ g', DkIs w' d 45 g' [] 0 false) ∧ BlkIs w' l 57 (lgC (some ⟨d, 0, none⟩) 3 2 3 2 2 none 0 0) ∧ GrowBut (fun k => k = d ∨ k = l) W7 w' :=
    (lreset_gives W7 l d 45 g4 [] 0 3 2 2 1 2 A4 1 c4 hD7 (by decide) (by decide) (by decide) hb7 hld (by decide) (by decide) (by decide) (by decide) (by decide)).mono fun e w' ⟨h1, h2, h3, h4⟩ => ⟨h1, ⟨_, h2⟩, h3, h4⟩
  go_wp2_with fail
  refine HR.mono ?_
  rintro x W8 ⟨rfl, ⟨g8, hD8⟩, hb8, hG8⟩
  have hB08 : Below w.heap.size w W8 := hB07.trans (hG8.toBelow hB07.size (fun k e => by rcases e with rfl | rfl <;> omega))
  clear HR
  go_wp2_with fail
  refine (page_of W8 (.pointer (some ⟨l, 0, none⟩)) 1 (last_mt W8 l d 3 2 3 2 2 hb8)).mono ?_
  rintro x W9 ⟨A9, c9, rfl, hB9⟩
  have hb9 := hb8.below hB9 hb8.lt
  have hB09 := hB08.trans (hB9.mono hB08.size)
  go_wp2_with (first
    | (go_at_call 12; refine (num6_gives _ _).mono ?_; rintro x W ⟨rfl, rfl⟩)
    | (go_at_call 26; refine (HE2 _ _ _ _ _ _ _ _ hb9).mono ?_; rintro x W ⟨rfl, rfl⟩)
    | (go_at_call 25; refine (lsize_gives hb9).mono ?_; rintro x W ⟨rfl, rfl⟩))
  go_ret
  exact ⟨rfl, hB09⟩
end Go.Proofs.YtocnabpplbeafaaGreat
/- loupelaw05.FramePlaces: the walk. -/
namespace Go.Proofs.YtocnabpplbeafaaGreat
open Go Go.RowKit Lou

section
variable (fr pg n : Int)
set_option maxRecDepth 100000 in
set_option maxHeartbeats 1000000 in
theorem refSectors_gives (w : World) (h1 : 1 ≤ fr ∧ fr ≤ 2000) (h2 : 1 ≤ pg ∧ pg ≤ 2000) : Calls Tryz.prog 10 #[.agg #[.int .i64 fr, .int .i64 pg]] w fun e w' => e = .returned (.int .i64 (2 + 9 * fr + 8 * pg)) ∧ Below w.heap.size w w' := by
  have e1 : IntKind.i64.wrap (9 * fr) = 9 * fr := wrap_i64_fr _ (by omega) (by omega)
  have e2 : IntKind.i64.wrap (2 + 9 * fr) = 2 + 9 * fr := wrap_i64_fr _ (by omega) (by omega)
  have e3 : IntKind.i64.wrap (8 * pg) = 8 * pg := wrap_i64_fr _ (by omega) (by omega)
  have e4 : IntKind.i64.wrap (2 + 9 * fr + 8 * pg) = 2 + 9 * fr + 8 * pg := wrap_i64_fr _ (by omega) (by omega)
  go_enter Tryz.func10, Tryz.ntmps10
  go_wp2
  go_ret
  exact ⟨rfl, (Below.refl _ _).alloc (Nat.le_refl _) _⟩
end
def planV (fr pg : Int) : Value := .agg #[.int .i64 fr, .int .i64 pg]
end Go.Proofs.YtocnabpplbeafaaGreat
