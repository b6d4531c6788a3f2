/- Texts that the proof of FileHolds leans on, part 12. -/
import Derived.Test.YtocnabpplbeafaaGreatFileHoldsB11
/- wal: Append, whatever is asked and whatever stop is set. -/
namespace Go.Proofs.YtocnabpplbeafaaGreat
open Go Go.RowKit Lou

def newF (ep : Nat) (z : Int) (fs : List FrP) (x : Int × List UInt8) (last : Bool) : FrP := ⟨ep, (fs.length : Int), x.1, last, if last then z else 0, linkOf fs, x.2⟩
/-- The frames behind k of n pages. -/
def addK (ep : Nat) (z : Int) (fs : List FrP) (n : Nat) (pw : Nat → Int × List UInt8) : Nat → List FrP
  | 0 => fs
  | k + 1 => addK ep z fs n pw k ++ [newF ep z (addK ep z fs n pw k) (pw k) (decide (k + 1 = n))]
theorem addK_length (ep : Nat) (z : Int) (fs : List FrP) (n : Nat) (pw : Nat → Int × List UInt8) : ∀ k, (addK ep z fs n pw k).length = fs.length + k
  | 0 => rfl
  | k + 1 => by
    unfold addK
    rw [List.length_append, addK_length ep z fs n pw k]
    rfl
/-- What holds of each new frame. -/
theorem addK_all (ep : Nat) (z : Int) (fs : List FrP) (n : Nat) (pw : Nat → Int × List UInt8) (T : Nat → FrP → Prop) (h0 : ∀ k, k < n → T (fs.length + k) (newF ep z (addK ep z fs n pw k) (pw k) (decide (k + 1 = n)))) :
    ∀ k, k ≤ n → ∀ j (h : j < (addK ep z fs n pw k).length), fs.length ≤ j → T j (addK ep z fs n pw k)[j]
  | 0, _, j, h, hj => absurd h (by show ¬ j < fs.length; omega)
  | k + 1, hk, j, h, hj => by
    have hlen := addK_length ep z fs n pw k
    by_cases hlt : j < (addK ep z fs n pw k).length
    · have := addK_all ep z fs n pw T h0 k (by omega) j hlt hj
      have e : (addK ep z fs n pw (k + 1))[j] = (addK ep z fs n pw k)[j] := List.getElem_append_left hlt
      rw [e]
      exact this
    · have h' : j < (addK ep z fs n pw (k + 1)).length := h
      rw [addK_length] at h'
      have hj2 : j = fs.length + k := by omega
      subst hj2
      have e : (addK ep z fs n pw (k + 1))[fs.length + k] = newF ep z (addK ep z fs n pw k) (pw k) (decide (k + 1 = n)) := by
        have h2 : (addK ep z fs n pw (k + 1))[fs.length + k]? = some (newF ep z (addK ep z fs n pw k) (pw k) (decide (k + 1 = n))) := by
          show (addK ep z fs n pw k ++ [newF ep z (addK ep z fs n pw k) (pw k) (decide (k + 1 = n))])[fs.length + k]? = _
          rw [List.getElem?_append_right (by omega)]
          simp [hlen]
        exact (List.getElem?_eq_some_iff.1 h2).2
      rw [e]
      exact h0 k (by omega)
/-- A log in memory, in plain words. -/
structure LgS where
  sr : Nat
  ep : Nat
  sz : Int
  fs : List FrP
def LogIs (w : World) (l d : Nat) (fr pg : Int) (S : LgS) : Prop := l ≠ d ∧ ∃ A c vs, BlkIs w l 57 (lgC (some ⟨d, 0, none⟩) fr pg S.sr S.ep S.sz A vs.length c) ∧ FrsIs (fun k => k = d ∨ k = l) w A c vs ∧ vs.map (·.1) = S.fs
/-- What Append answers, and leaves. -/
def AppOut (fr pg : Int) (s : DS) (S : LgS) (n : Nat) (xs : Nat → Int × Option Addr × Nat) (pw : Nat → Int × List UInt8) (z : Int) (x : Int) (s' : DS) (S' : LgS) : Prop :=
  (¬ RightC fr pg z n xs ∧ x = 2 ∧ s' = s ∧ S' = S) ∨ (RightC fr pg z n xs ∧ fr < (S.fs.length : Int) + (n : Int) ∧ x = 160 ∧ s' = s ∧ S' = S) ∨
  (RightC fr pg z n xs ∧ (S.fs.length : Int) + (n : Int) ≤ fr ∧ ∃ fs' r, fs' = addK S.ep z S.fs n pw n ∧ r = appD s (frsW (fs'.drop S.fs.length)) (wrL ((S.sr + 1) % 2) (hEnc (S.sr + 1) S.ep S.sz (fs'.length : Int)) 1) ∧ x = r.2 ∧ s' = r.1 ∧ ((x = 0 ∧ S' = ⟨S.sr + 1, S.ep, z, fs'⟩) ∨ (¬ x = 0 ∧ S' = S)))
/-- Bytes in a block of bytes. -/
def TyB (w : World) (A : Option Addr) : Prop := ∀ g o, A = some ⟨g, o, none⟩ → ∃ cs, BlkIs w g 5 cs
theorem TyB.grow {w w' : World} {A : Option Addr} (h : TyB w A) (hB : Below w.heap.size w w') : TyB w' A := fun g o e => by
  obtain ⟨cs, hb⟩ := h g o e
  exact ⟨cs, hb.below hB hb.lt⟩
theorem TyB.grown {w w' : World} {A : Option Addr} {row : Option Nat} (h : TyB w A) (hB : w.grownBy w' row) (hn : ∀ g o, A = some ⟨g, o, none⟩ → row ≠ some g) : TyB w' A := fun g o e => by
  obtain ⟨cs, hb⟩ := h g o e
  exact ⟨cs, hb.grown hB (fun e2 => hn g o e e2.symm)⟩
theorem TyB.row {w : World} {A : Option Addr} (h : TyB w A) (q : Nat) (F : Array Value) (hn : ∀ g o, A = some ⟨g, o, none⟩ → g ≠ q) : TyB (w.setRow q F) A := h.grown (setRow_grown w q F) (fun g o e e2 => by injection e2 with e2; exact hn g o e e2.symm)
theorem BlkIs.ne_type {w : World} {g h : Nat} {t u : TypeId} {cs ds : Array Value} (h1 : BlkIs w g t cs) (h2 : BlkIs w h u ds) (hn : t ≠ u) : g ≠ h := fun e => by
  subst e
  have h3 : w.heap[g]? = some (.cells cs t (0, 0)) := h1
  have h4 : w.heap[g]? = some (.cells ds u (0, 0)) := h2
  rw [h3] at h4
  injection h4 with h4
  injection h4 with _ h5
  exact hn h5
theorem ownG_ty {w : World} {base : Nat} {T : TypeId} {sz : Nat} {v : Value} {n : Nat} {cs : List Value} (h : w.ownsRow base T sz v n cs) : ∀ r, v.ownBlock = some r → ∃ cur, BlkIs w r T cur := by
  intro r hr
  rcases h.2 with ⟨rfl, _⟩ | ⟨g, cap, cur, rfl, hb, hg, _⟩
  · cases hr
  · injection hr with hr
    exact ⟨cur, by rw [← hr]; exact hg⟩
theorem keepB {Mu : Nat → Prop} {w w' : World} {A : Option Addr} {c : Nat} {y : List UInt8} (G : GrowBut Mu w w') (hin : InB w w.heap.size A c y) (hty : TyB w A) (hMu : ∀ g cs, BlkIs w g 5 cs → ¬ Mu g) : InB w' w'.heap.size A c y ∧ TyB w' A :=
  ⟨G.inB hin (fun g o e _ => by obtain ⟨cs, hb⟩ := hty g o e; exact hMu g cs hb), fun g o e => by
    obtain ⟨cs, hb⟩ := hty g o e
    exact ⟨cs, G.blk hb (hMu g cs hb)⟩⟩
theorem headOk_of {z c : Int} (h1 : 0 ≤ z) (h2 : z ≤ 2000) (h3 : 0 ≤ c) (h4 : c ≤ 2000) : headOk z c = true := (headOk_iff _ _).2 ⟨⟨h1, h2⟩, h3, h4⟩
theorem r_eqI {ρ : Operand → Value} {w : World} {o : Oper} {x y : Operand} {m n : Int} {b : Bool} (ho : o.op = .binOp .eql 3 x y 3) (h1 : ρ x = .int .i64 m) (h2 : ρ y = .int .i64 n) (hb : decide (m = n) = b) : (execOp ρ o).run Tryz.prog w = .ok (.value (.bool b)) w := by
  subst hb
  have e : (m == n) = decide (m = n) := by by_cases h : m = n <;> simp [h]
  simp [execOp, ho, h1, h2, go_sem, e]
set_option maxRecDepth 100000 in
set_option maxHeartbeats 4000000 in
theorem append_wrong (w : World) (l d : Nat) (fr pg : Int) (sr ep : Nat) (sz : Int) (A : Option Addr) (n0 c0 : Nat) (hlg : BlkIs w l 57 (lgC (some ⟨d, 0, none⟩) fr pg sr ep sz A n0 c0)) (A1 : Option Addr) (n c : Nat) (xs : Nat → Int × Option Addr × Nat) (hn : n ≤ 1000) (hA : 1 ≤ n → ∃ g o, A1 = some ⟨g, o, none⟩ ∧ PwIn w g o n xs ∧ g < w.heap.size)
    (s : Int) (hR : ¬ RightC fr pg s n xs) :
    Calls Tryz.prog 14 #[.pointer (some ⟨l, 0, none⟩), .int .i64 s, .slice A1 n c] w fun e w' => e = .returned (.int .i64 2) ∧ Below w.heap.size w w' := by
  have hB : Below w.heap.size w ((w.alloc (.cells #[.pointer (some ⟨l, 0, none⟩)] 33)).alloc (.cells #[.int .i64 s] 3)) := ((Below.refl _ w).alloc (Nat.le_refl _) _).alloc (by simp) _
  have hlg0 := hlg.below hB hlg.lt
  have HN := lnone_gives hlg0
  have HRR := lrightG_gives _ l _ fr pg sr ep sz A n0 c0 hlg0 A1 n c xs hn (fun h => by
    obtain ⟨g, o, e, hx, hg⟩ := hA h
    exact ⟨g, o, e, hx.below hB hg, by simp; omega⟩) s
  have HR := HRR.mono (R' := fun e w' => e = .returned (.bool false) ∧ Below ((w.alloc (.cells #[.pointer (some ⟨l, 0, none⟩)] 33)).alloc (.cells #[.int .i64 s] 3)).heap.size ((w.alloc (.cells #[.pointer (some ⟨l, 0, none⟩)] 33)).alloc (.cells #[.int .i64 s] 3)) w') (fun e w' ⟨⟨b, hb, hi⟩, hB2⟩ => by
    cases b
    · exact ⟨hb, hB2⟩
    · exact absurd (hi.1 rfl) hR)
  clear HRR hR hA
  go_enter Tryz.func14, Tryz.ntmps14
  go_wp2_with (first
    | (go_at_call 42; refine HN.mono ?_; rintro e w' ⟨rfl, rfl⟩)
    | (go_at_call 43; refine HR.mono ?_; rintro e w2 ⟨rfl, hB2⟩))
  go_ret
  exact ⟨rfl, hB.trans (hB2.mono hB.size)⟩
section
variable (w : World) (l d many : Nat) (s : DS) (fr pg : Int) (S : LgS)
set_option maxRecDepth 100000 in
set_option maxHeartbeats 16000000 in
theorem append_more (A0 : Option Addr) (c0 : Nat) (vs : List FrV) (hD : DkS w d many s) (hO : s.Ok) (hl : s.xs.length ≤ 500000) (hlg : BlkIs w l 57 (lgC (some ⟨d, 0, none⟩) fr pg S.sr S.ep S.sz A0 vs.length c0)) (hF : FrsIs (fun k => k = d ∨ k = l) w A0 c0 vs) (hfs : vs.map (·.1) = S.fs) (hld : l ≠ d)
    (g o n c : Nat) (xs : Nat → Int × Option Addr × Nat) (pw : Nat → Int × List UInt8) (hn1 : 1 ≤ n) (hn : n ≤ 1000) (hg : g < w.heap.size) (hx : PwIn w g o n xs) (hY : ∀ k, k < n → (pw k).1 = (xs k).1 ∧ (pw k).2.length = 512 ∧ InB w w.heap.size (xs k).2.1 (xs k).2.2 (pw k).2)
    (hpl : planOk fr pg = true) (z : Int) (hR : RightC fr pg z n xs) (hroom : (S.fs.length : Int) + (n : Int) ≤ fr) (hz : 0 ≤ S.sz ∧ S.sz ≤ 2000) (hmany : 2 + 9 * fr ≤ (many : Int)) (hmax : many ≤ 1000000) (hsr : S.sr + 1 < 18446744073709551616) :
    Calls Tryz.prog 14 #[.pointer (some ⟨l, 0, none⟩), .int .i64 z, .slice (some ⟨g, o, none⟩) n c] w fun e w' => ∃ x s' S', e = .returned (.int .i64 x) ∧ AppOut fr pg s S n xs pw z x s' S' ∧ DkS w' d many s' ∧ LogIs w' l d fr pg S' ∧ GrowBut (fun k => k = d ∨ k = l) w w' := by
  have hplr := (planOk_iff fr pg).1 hpl
  obtain ⟨hr1, hr2, hr3, hr4⟩ := id hR
  have hR0 := hR
  clear hR
  obtain ⟨n0, hn0⟩ : ∃ n0, n0 = vs.length := ⟨_, rfl⟩
  have hn0s : n0 = S.fs.length := by rw [hn0, ← hfs, List.length_map]
  have hcle := hF.row.le
  have hp1 : ∀ k, k < n → 0 ≤ (xs k).1 ∧ (xs k).1 < pg := fun k hk => by
    have := hr4 k hk
    rw [hpl] at this
    simp [plE] at this
    exact this
  have hgood : ∀ k, k ≤ n → ∀ j (h : j < (addK S.ep z S.fs n pw k).length), S.fs.length ≤ j → (addK S.ep z S.fs n pw k)[j].i = (j : Int) ∧ frOk (addK S.ep z S.fs n pw k)[j].y.length (addK S.ep z S.fs n pw k)[j].i (addK S.ep z S.fs n pw k)[j].p (addK S.ep z S.fs n pw k)[j].f (addK S.ep z S.fs n pw k)[j].z = true :=
    addK_all S.ep z S.fs n pw (fun j x => x.i = (j : Int) ∧ frOk x.y.length x.i x.p x.f x.z = true) (fun k hk => by
      obtain ⟨hy1, hy2, _⟩ := hY k hk
      have hp := hp1 k hk
      refine ⟨by simp only [newF, addK_length], (frOk_iff _ _ _ _ _).2 ?_⟩
      simp only [newF, addK_length, hy1]
      refine ⟨hy2, ⟨by omega, by omega⟩, ⟨by omega, by omega⟩, ?_, ?_⟩
      · split <;> constructor <;> omega
      · by_cases hkn : k + 1 = n
        · exact .inl (by simp [hkn])
        · exact .inr (by simp [hkn]))
  have hB : Below w.heap.size w ((w.alloc (.cells #[.pointer (some ⟨l, 0, none⟩)] 33)).alloc (.cells #[.int .i64 z] 3)) := ((Below.refl _ w).alloc (Nat.le_refl _) _).alloc (by simp) _
  have b0 := (BlkIs.new w 33 #[.pointer (some ⟨l, 0, none⟩)]).alloc (.cells #[.int .i64 z] 3)
  have b1 := BlkIs.new (w.alloc (.cells #[.pointer (some ⟨l, 0, none⟩)] 33)) 3 #[.int .i64 z]
  rw [World.size_alloc] at b1
  rw [← hn0] at hlg
  have hlg0 := hlg.below hB hlg.lt
  have HN := lnone_gives hlg0
  have HR := lright_ok _ l _ fr pg S.sr S.ep S.sz A0 n0 c0 hlg0 g o n c xs hn1 hn (hx.below hB hg) (by simp; omega) hr4 z hr2 hr3
  have hfr : ¬ fr < (n0 : Int) + (n : Int) := by omega
  have hw11 : IntKind.i64.wrap ((n0 : Int) + (n : Int)) = (n0 : Int) + (n : Int) := wrap_i64_fr _ (by omega) (by omega)
  have hDw := hD.lt
  have hlw := hlg.lt
  have HFS := Lib.hid hfs
  have HN0 := Lib.hid hn0
  have HN0S := Lib.hid hn0s
  have hnl : n0 ≤ 2000 := by omega
  clear hr1 hr4 hfs hn0 hn0s hcle
  go_enter Tryz.func14, Tryz.ntmps14
  go_wp2_with (first
    | (go_at_call 42; refine HN.mono ?_; rintro e w' ⟨rfl, rfl⟩)
    | (go_at_call 43; refine HR.mono ?_; rintro e w2 ⟨rfl, hB2⟩; have hlg2 := hlg0.below hB2 hlg0.lt; have b02 := b0.below hB2 b0.lt; have b12 := b1.below hB2 b1.lt))
  have hBw2 := hB.trans (hB2.mono hB.size)
  have hw2 : w.heap.size + 2 ≤ w2.heap.size := by have := hB2.size; simp at this; omega
  have hS0 : Below w2.heap.size w2 w2.drew := (Below.refl _ _).drew
  have T0 : ∀ W, Below w2.heap.size w2 W → W.cell? ⟨w.heap.size, 0, none⟩ = some (.pointer (some ⟨l, 0, none⟩)) := fun W hW => (b02.below hW b02.lt).boxed
  have T6 : ∀ W, Below w2.heap.size w2 W → W.cell? ⟨l, 6, none⟩ = some (.slice A0 n0 c0) := fun W hW => by rw [(hlg2.below hW hlg2.lt).cell]; rfl
  have T1 : ∀ W, Below w2.heap.size w2 W → W.cell? ⟨l, 1, none⟩ = some (.int .i64 fr) := fun W hW => by rw [(hlg2.below hW hlg2.lt).cell]; rfl
  clear HN HR hlg0 b0 b1 hB hB2
  refine RegF.start (fun W => Below w2.heap.size w2 W) 99 (by kernel_rfl) ?_
  refine RegF.take0 0 (.pointer (some ⟨l, 0, none⟩)) rfl (by kernel_rfl) (by kernel_rfl) (by kernel_rfl) rfl (fun _ _ _ h => h) hS0 (RegF.yld rfl (fun W hW => by have q := T0 W hW; go_simp)) ?_
  simp only [List.getElem_toArray, List.getElem_cons_zero, Act.put, List.setIfInBounds_toArray, List.set_cons_zero, List.set_cons_succ]
  refine RegF.take0 1 (.pointer (some ⟨l, 0, none⟩)) rfl (by kernel_rfl) (by kernel_rfl) (by kernel_rfl) rfl (fun _ _ _ h => h) hS0 (RegF.yld rfl (fun W hW => by go_simp)) ?_
  simp only [List.getElem_toArray, List.getElem_cons_succ, List.getElem_cons_zero, Act.put, List.setIfInBounds_toArray, List.set_cons_zero, List.set_cons_succ]
  refine RegF.take0 2 (.pointer (some ⟨l, 6, none⟩)) rfl (by kernel_rfl) (by kernel_rfl) (by kernel_rfl) rfl (fun _ _ _ h => h) hS0 (RegF.yld rfl (fun W hW => by go_simp)) ?_
  simp only [List.getElem_toArray, List.getElem_cons_succ, List.getElem_cons_zero, Act.put, List.setIfInBounds_toArray, List.set_cons_zero, List.set_cons_succ]
  refine RegF.take0 3 (.slice A0 n0 c0) rfl (by kernel_rfl) (by kernel_rfl) (by kernel_rfl) rfl (fun _ _ _ h => h) hS0 (RegF.yld rfl (fun W hW => by have q := T6 W hW; go_simp)) ?_
  simp only [List.getElem_toArray, List.getElem_cons_succ, List.getElem_cons_zero, Act.put, List.setIfInBounds_toArray, List.set_cons_zero, List.set_cons_succ]
  refine RegF.take0 4 (.int .i64 (n0 : Int)) rfl (by kernel_rfl) (by kernel_rfl) (by kernel_rfl) rfl (fun _ _ _ h => h) hS0 (RegF.yld rfl (fun W hW => by go_simp)) ?_
  simp only [List.getElem_toArray, List.getElem_cons_succ, List.getElem_cons_zero, Act.put, List.setIfInBounds_toArray, List.set_cons_zero, List.set_cons_succ]
  refine RegF.take0 5 (.slice (some ⟨g, o, none⟩) n c) rfl (by kernel_rfl) (by kernel_rfl) (by kernel_rfl) rfl (fun _ _ _ h => h) hS0 (RegF.yld rfl (fun W hW => by go_simp)) ?_
  simp only [List.getElem_toArray, List.getElem_cons_succ, List.getElem_cons_zero, Act.put, List.setIfInBounds_toArray, List.set_cons_zero, List.set_cons_succ]
  refine RegF.take0 6 (.int .i64 (n : Int)) rfl (by kernel_rfl) (by kernel_rfl) (by kernel_rfl) rfl (fun _ _ _ h => h) hS0 (RegF.yld rfl (fun W hW => by go_simp)) ?_
  simp only [List.getElem_toArray, List.getElem_cons_succ, List.getElem_cons_zero, Act.put, List.setIfInBounds_toArray, List.set_cons_zero, List.set_cons_succ]
  refine RegF.take0 7 (.int .i64 ((n0 : Int) + (n : Int))) rfl (by kernel_rfl) (by kernel_rfl) (by kernel_rfl) rfl (fun _ _ _ h => h) hS0 (RegF.yld rfl (fun W hW => by go_simp)) ?_
  simp only [List.getElem_toArray, List.getElem_cons_succ, List.getElem_cons_zero, Act.put, List.setIfInBounds_toArray, List.set_cons_zero, List.set_cons_succ]
  refine RegF.take0 8 (.pointer (some ⟨l, 0, none⟩)) rfl (by kernel_rfl) (by kernel_rfl) (by kernel_rfl) rfl (fun _ _ _ h => h) hS0 (RegF.yld rfl (fun W hW => by have q := T0 W hW; go_simp)) ?_
  simp only [List.getElem_toArray, List.getElem_cons_succ, List.getElem_cons_zero, Act.put, List.setIfInBounds_toArray, List.set_cons_zero, List.set_cons_succ]
  refine RegF.take0 9 (.pointer (some ⟨l, 0, none⟩)) rfl (by kernel_rfl) (by kernel_rfl) (by kernel_rfl) rfl (fun _ _ _ h => h) hS0 (RegF.yld rfl (fun W hW => by go_simp)) ?_
  simp only [List.getElem_toArray, List.getElem_cons_succ, List.getElem_cons_zero, Act.put, List.setIfInBounds_toArray, List.set_cons_zero, List.set_cons_succ]
  refine RegF.take0 10 (.pointer (some ⟨l, 0, none⟩)) rfl (by kernel_rfl) (by kernel_rfl) (by kernel_rfl) rfl (fun _ _ _ h => h) hS0 (RegF.yld rfl (fun W hW => by go_simp)) ?_
  simp only [List.getElem_toArray, List.getElem_cons_succ, List.getElem_cons_zero, Act.put, List.setIfInBounds_toArray, List.set_cons_zero, List.set_cons_succ]
  refine RegF.take0 11 (.pointer (some ⟨l, 1, none⟩)) rfl (by kernel_rfl) (by kernel_rfl) (by kernel_rfl) rfl (fun _ _ _ h => h) hS0 (RegF.yld rfl (fun W hW => by go_simp)) ?_
  simp only [List.getElem_toArray, List.getElem_cons_succ, List.getElem_cons_zero, Act.put, List.setIfInBounds_toArray, List.set_cons_zero, List.set_cons_succ]
  refine RegF.take0 12 (.pointer (some ⟨l, 1, none⟩)) rfl (by kernel_rfl) (by kernel_rfl) (by kernel_rfl) rfl (fun _ _ _ h => h) hS0 (RegF.yld rfl (fun W hW => by go_simp)) ?_
  simp only [List.getElem_toArray, List.getElem_cons_succ, List.getElem_cons_zero, Act.put, List.setIfInBounds_toArray, List.set_cons_zero, List.set_cons_succ]
  refine RegF.take0 13 (.int .i64 fr) rfl (by kernel_rfl) (by kernel_rfl) (by kernel_rfl) rfl (fun _ _ _ h => h) hS0 (RegF.yld rfl (fun W hW => by have q := T1 W hW; go_simp)) ?_
  simp only [List.getElem_toArray, List.getElem_cons_succ, List.getElem_cons_zero, Act.put, List.setIfInBounds_toArray, List.set_cons_zero, List.set_cons_succ]
  refine RegF.one 14 (by kernel_rfl) (RegF.opV (w' := w2.drew) (.bool false) rfl rfl (by go_simp) ⟨fun _ => hS0, ?_⟩)
  simp only [List.getElem_toArray, List.getElem_cons_succ, List.getElem_cons_zero, Act.put, List.setIfInBounds_toArray, List.set_cons_zero, List.set_cons_succ]
  refine RegF.one 15 (by kernel_rfl) (RegF.opV (w' := w2.drew) (.bool false) rfl rfl (by go_simp) ⟨fun _ => hS0, RegF.done (by kernel_rfl) ?_⟩)
  simp only [List.getElem_toArray, List.getElem_cons_succ, List.getElem_cons_zero, Act.put, List.setIfInBounds_toArray, List.set_cons_zero, List.set_cons_succ]
  have t0 := T0 _ hS0
  have t6 := T6 _ hS0
  have hlg3 := hlg2.drew
  have b03 := b02.drew
  have b13 := b12.drew
  have hBw3 : Below w.heap.size w w2.drew := hBw2.drew
  have hw3 : w.heap.size + 2 ≤ w2.drew.heap.size := hw2
  clear T0 T6 T1 hlg2 b02 b12 hBw2 hw2 hS0
  generalize w2.drew = W3 at *
  have hF3 := hF.grow hBw3
  have HCF := fclone_gives W3 A0 c0 vs hF3.row (by have := HN0.out; omega)
  rw [← HN0.out] at HCF
  go_wp2_with (go_at_call 44; refine HCF.mono ?_; rintro e Wc ⟨v0, rfl, own0, hB3c⟩; obtain ⟨Am0, cm0, rfl, _⟩ := ownG_in own0 (vsC_one vs))
  obtain ⟨W4, hW4⟩ : ∃ W4, W4 = Wc.alloc (.cells #[.slice Am0 n0 cm0] 55) := ⟨_, rfl⟩
  have hBc4 : Below Wc.heap.size Wc W4 := by rw [hW4]; exact (Below.refl _ _).alloc (Nat.le_refl _) _
  have hB4 : Below W3.heap.size W3 W4 := hB3c.trans (hBc4.mono hB3c.size)
  have m4 : BlkIs W4 Wc.heap.size 55 #[.slice Am0 n0 cm0] := by rw [hW4]; exact BlkIs.new Wc _ _
  have own4 := ownG_grow own0 hBc4
  rw [← hW4]
  obtain ⟨mb, hmb⟩ : ∃ mb, mb = Wc.heap.size := ⟨_, rfl⟩
  rw [← hmb] at m4 ⊢
  have hmb3 : W3.heap.size ≤ mb := by rw [hmb]; exact hB3c.size
  have hOld : ∀ v ∈ vs, ∀ g o, v.2.1 = some ⟨g, o, none⟩ → InB W4 W4.heap.size v.2.1 v.2.2 v.1.y → 0 < v.1.y.length → g < W3.heap.size := fun v hv g o e _ h0 => by
    obtain ⟨g', o', e', hg', _⟩ := ((hF3.bys v hv).1).lies h0
    rw [e] at e'
    injection e' with e'
    injection e' with e1 e2
    omega
  clear hW4 hmb HCF own0 hB3c hBc4
  go_loopw [43] (fun i wr => ∃ k : Nat, k ≤ n ∧ i = .int .i64 (k : Int) ∧ Below W3.heap.size W3 wr ∧ ∃ Am cm vk, BlkIs wr mb 55 #[.slice Am (n0 + k) cm] ∧ wr.ownsRow W3.heap.size 97 7 (.slice Am (n0 + k) cm) (n0 + k) (vsC vk) ∧ vk.map (·.1) = addK S.ep z S.fs n pw k ∧
    (∀ v ∈ vk, InB wr wr.heap.size v.2.1 v.2.2 v.1.y ∧ (v ∈ vs ∨ ((∀ g o, v.2.1 = some ⟨g, o, none⟩ → W3.heap.size ≤ g) ∧ TyB wr v.2.1)))) (fun i _ => n - (intOf i).toNat)
  case atStart => exact ⟨0, by omega, rfl, hB4, Am0, cm0, vs, m4, own4, HFS.out, fun v hv => ⟨(hF3.grow hB4).bys v hv |>.1, .inl hv⟩⟩
  case round =>
    clear hB4 m4 own4 hlg
    obtain ⟨k, hk, rfl, hB4, Am, cm, vk, m4, own4, hvk, hbk⟩ := hrel
    have hvl : vk.length = n0 + k := by
      have := congrArg List.length hvk
      rw [List.length_map, addK_length] at this
      have := HN0S.out
      omega
    by_cases hlt : k < n
    · have hx4 : wr.rangeAt g (o + k * 2) [.int .i64 (xs k).1, .slice (xs k).2.1 512 (xs k).2.2] := (hx.below (hBw3.trans (hB4.mono hBw3.size)) hg) k hlt
      obtain ⟨hy1, hy512, hyw⟩ := hY k hlt
      have hy4 := (hyw.below (hBw3.trans (hB4.mono hBw3.size))).more (hBw3.trans (hB4.mono hBw3.size)).size
      obtain ⟨_, _, eAm, hin4⟩ := ownG_in own4 (vsC_one vk)
      injection eAm with eA1 _ eA2
      subst eA1 eA2
      have hNx : addK S.ep z S.fs n pw (k + 1) = addK S.ep z S.fs n pw k ++ [newF S.ep z (addK S.ep z S.fs n pw k) (pw k) (decide (k + 1 = n))] := rfl
      generalize hxk : xs k = X at hx4 hy4 hy1
      generalize pw k = Y at hy1 hy512 hy4 hNx
      obtain ⟨p, Ay, ky⟩ := X
      obtain ⟨p', y⟩ := Y
      simp only at hx4 hy4 hy1 hy512
      subst hy1
      clear hxk hyw
      obtain ⟨nk, hnk⟩ : ∃ nk, nk = n0 + k := ⟨_, rfl⟩
      have hSM : linkOf (addK S.ep z S.fs n pw k) = linkOf (vk.map (·.1)) := by rw [hvk]
      have hsz4 := addK_length S.ep z S.fs n pw k
      have HNX := Lib.hid hNx
      have HVK := Lib.hid hvk
      have HVL := Lib.hid hvl
      have HNK := Lib.hid hnk
      rw [← hnk] at m4 own4 hin4 hvl
      obtain ⟨SM, hSM2⟩ : ∃ SM, SM = linkOf (vk.map (·.1)) := ⟨_, rfl⟩
      have HSM := Lib.hid (hSM.trans hSM2.symm)
      have b4 := BlkIs.new wr 80 #[.int .i64 0, .slice none 0 0]
      have b5 := b4.setRow #[.int .i64 p', .slice Ay 512 ky]
      have hB5 : Below W3.heap.size W3 ((wr.alloc (.cells #[.int .i64 0, .slice none 0 0] 80)).setRow wr.heap.size #[.int .i64 p', .slice Ay 512 ky]) := below_setRow (hB4.alloc hB4.size _) hB4.size _
      have hBr5 : Below wr.heap.size wr ((wr.alloc (.cells #[.int .i64 0, .slice none 0 0] 80)).setRow wr.heap.size #[.int .i64 p', .slice Ay 512 ky]) := below_setRow ((Below.refl _ wr).alloc (Nat.le_refl _) _) (Nat.le_refl _) _
      have m5 := m4.below hBr5 m4.lt
      have hy5 := (hy4.below hBr5).more hBr5.size
      have hin5 := hin4.grow hBr5
      have hm4l := m4.lt
      clear hvk hvl hnk hNx hSM hsz4 hY hx hgood
      go_wp2_with (first
        | (refine wp_exec rfl (x_loadM rowPW hx4 rfl rfl rfl) ?_)
        | (refine wp_storeW rfl 80 (.tmp 9) (.tmp 47) rfl wr.heap.size rfl rfl rowPW b4 rfl rfl (pw_one _ _ _ _) ?_))
      have hw4 := hB4.size
      clear hx4 hy4 b4 m4
      generalize hW5 : (wr.alloc (.cells #[.int .i64 0, .slice none 0 0] 80)).setRow wr.heap.size #[.int .i64 p', .slice Ay 512 ky] = W5 at *
      clear hW5
      have T0 : ∀ W, Below W5.heap.size W5 W → W.cell? ⟨w.heap.size, 0, none⟩ = some (.pointer (some ⟨l, 0, none⟩)) := fun W hW => ((b03.below hB5 b03.lt).below hW (Nat.lt_of_lt_of_le b03.lt hB5.size)).boxed
      have T4 : ∀ W, Below W5.heap.size W5 W → W.cell? ⟨l, 4, none⟩ = some (.int .u64 (S.ep : Int)) := fun W hW => by rw [((hlg3.below hB5 hlg3.lt).below hW (Nat.lt_of_lt_of_le hlg3.lt hB5.size)).cell]; rfl
      have TM : ∀ W, Below W5.heap.size W5 W → W.cell? ⟨mb, 0, none⟩ = some (.slice Am nk cm) := fun W hW => (m5.below hW m5.lt).boxed
      have TP : ∀ W, Below W5.heap.size W5 W → W.cell? ⟨wr.heap.size, 0, none⟩ = some (.int .i64 p') := fun W hW => by rw [(b5.below hW b5.lt).cell]; rfl
      have TB : ∀ W, Below W5.heap.size W5 W → W.cell? ⟨wr.heap.size, 1, none⟩ = some (.slice Ay 512 ky) := fun W hW => by rw [(b5.below hW b5.lt).cell]; rfl
      have HLK : ∀ W, Below W5.heap.size W5 W → Calls Tryz.prog 45 #[.slice Am nk cm] W fun e w' => e = .returned (.int .u32 (SM : Int)) ∧ Below W.heap.size W w' := fun W hW => by
        have h := link_gives W Am cm vk (by rw [HVL.out, ← HNK.out]; exact hin5.grow hW) (fun v hv => ((((hbk v hv).1.below hBr5).more hBr5.size).below hW).more hW.size) (by rw [HVL.out]; omega)
        rw [HVL.out, ← HNK.out, ← hSM2] at h
        exact h
      have HCL : ∀ W, Below W5.heap.size W5 W → Calls Tryz.prog 46 #[.slice Ay 512 ky] W fun e w' => ∃ A c, e = .returned (.slice A 512 c) ∧ InB w' w'.heap.size A c y ∧ (∀ g o, A = some ⟨g, o, none⟩ → W5.heap.size ≤ g) ∧ TyB w' A ∧ Below W.heap.size W w' := fun W hW => by
        have h := clone_gives W Ay ky y ((hy5.below hW).more hW.size) (by omega)
        rw [hy512] at h
        refine h.mono ?_
        rintro e w' ⟨v, rfl, own, hBc⟩
        have hge := ownG_ge own
        have hty := ownG_ty own
        obtain ⟨A, c, rfl, hin⟩ := own.inB
        exact ⟨A, c, by rw [hy512], hin, fun g o e => by subst e; exact Nat.le_trans hW.size (hge g rfl), fun g o e => by subst e; exact hty g rfl, hBc⟩
      have hS0 : Below W5.heap.size W5 W5.drew := (Below.refl _ _).drew
      have HSM2 := Lib.hid hSM2
      clear hSM2
      go_wp2_with fail
      apply wp_stop3 (fun q A6 c6 w' => BlkIs w' q 97 (frCells S.ep (nk : Int) p' false 0 SM A6 512 c6) ∧ W5.heap.size ≤ q ∧ InB w' w'.heap.size A6 c6 y ∧ (∀ g o, A6 = some ⟨g, o, none⟩ → W5.heap.size ≤ g) ∧ TyB w' A6 ∧ Below W5.heap.size W5 w')
      case h1 =>
        refine RegF.start (fun W => Below W5.heap.size W5 W) 99 (by kernel_rfl) ?_
        refine RegF.take0 0 (.pointer (some ⟨l, 0, none⟩)) rfl (by kernel_rfl) (by kernel_rfl) (by kernel_rfl) rfl (fun _ _ _ h => h) hS0 (RegF.yld rfl (fun W hW => by have q := T0 W hW; go_simp)) ?_
        simp only [List.getElem_toArray, List.getElem_cons_zero, Act.put, List.setIfInBounds_toArray, List.set_cons_zero, List.set_cons_succ]
        refine RegF.take0 1 (.pointer (some ⟨l, 0, none⟩)) rfl (by kernel_rfl) (by kernel_rfl) (by kernel_rfl) rfl (fun _ _ _ h => h) hS0 (RegF.yld rfl (fun W hW => by go_simp)) ?_
        simp only [List.getElem_toArray, List.getElem_cons_succ, List.getElem_cons_zero, Act.put, List.setIfInBounds_toArray, List.set_cons_zero, List.set_cons_succ]
        refine RegF.take0 2 (.pointer (some ⟨l, 4, none⟩)) rfl (by kernel_rfl) (by kernel_rfl) (by kernel_rfl) rfl (fun _ _ _ h => h) hS0 (RegF.yld rfl (fun W hW => by go_simp)) ?_
        simp only [List.getElem_toArray, List.getElem_cons_succ, List.getElem_cons_zero, Act.put, List.setIfInBounds_toArray, List.set_cons_zero, List.set_cons_succ]
        refine RegF.take0 3 (.int .u64 (S.ep : Int)) rfl (by kernel_rfl) (by kernel_rfl) (by kernel_rfl) rfl (fun _ _ _ h => h) hS0 (RegF.yld rfl (fun W hW => by have q := T4 W hW; go_simp)) ?_
        simp only [List.getElem_toArray, List.getElem_cons_succ, List.getElem_cons_zero, Act.put, List.setIfInBounds_toArray, List.set_cons_zero, List.set_cons_succ]
        refine RegF.take0 4 (.slice Am nk cm) rfl (by kernel_rfl) (by kernel_rfl) (by kernel_rfl) rfl (fun _ _ _ h => h) hS0 (RegF.yld rfl (fun W hW => by have q := TM W hW; go_simp)) ?_
        simp only [List.getElem_toArray, List.getElem_cons_succ, List.getElem_cons_zero, Act.put, List.setIfInBounds_toArray, List.set_cons_zero, List.set_cons_succ]
        refine RegF.take0 5 (.int .i64 (nk : Int)) rfl (by kernel_rfl) (by kernel_rfl) (by kernel_rfl) rfl (fun _ _ _ h => h) hS0 (RegF.yld rfl (fun W hW => by go_simp)) ?_
        simp only [List.getElem_toArray, List.getElem_cons_succ, List.getElem_cons_zero, Act.put, List.setIfInBounds_toArray, List.set_cons_zero, List.set_cons_succ]
        refine RegF.take0 6 (.pointer (some ⟨wr.heap.size, 0, none⟩)) rfl (by kernel_rfl) (by kernel_rfl) (by kernel_rfl) rfl (fun _ _ _ h => h) hS0 (RegF.yld rfl (fun W hW => by go_simp)) ?_
        simp only [List.getElem_toArray, List.getElem_cons_succ, List.getElem_cons_zero, Act.put, List.setIfInBounds_toArray, List.set_cons_zero, List.set_cons_succ]
        refine RegF.take0 7 (.int .i64 p') rfl (by kernel_rfl) (by kernel_rfl) (by kernel_rfl) rfl (fun _ _ _ h => h) hS0 (RegF.yld rfl (fun W hW => by have q := TP W hW; go_simp)) ?_
        simp only [List.getElem_toArray, List.getElem_cons_succ, List.getElem_cons_zero, Act.put, List.setIfInBounds_toArray, List.set_cons_zero, List.set_cons_succ]
        refine RegF.take0 8 (.slice Am nk cm) rfl (by kernel_rfl) (by kernel_rfl) (by kernel_rfl) rfl (fun _ _ _ h => h) hS0 (RegF.yld rfl (fun W hW => by have q := TM W hW; go_simp)) ?_
        simp only [List.getElem_toArray, List.getElem_cons_succ, List.getElem_cons_zero, Act.put, List.setIfInBounds_toArray, List.set_cons_zero, List.set_cons_succ]
        refine RegF.take0 10 (.pointer (some ⟨wr.heap.size, 1, none⟩)) rfl (by kernel_rfl) (by kernel_rfl) (by kernel_rfl) rfl (fun _ _ _ h => h) hS0 (RegF.yld rfl (fun W hW => by go_simp)) ?_
        simp only [List.getElem_toArray, List.getElem_cons_succ, List.getElem_cons_zero, Act.put, List.setIfInBounds_toArray, List.set_cons_zero, List.set_cons_succ]
        refine RegF.take0 11 (.slice Ay 512 ky) rfl (by kernel_rfl) (by kernel_rfl) (by kernel_rfl) rfl (fun _ _ _ h => h) hS0 (RegF.yld rfl (fun W hW => by have q := TB W hW; go_simp)) ?_
        simp only [List.getElem_toArray, List.getElem_cons_succ, List.getElem_cons_zero, Act.put, List.setIfInBounds_toArray, List.set_cons_zero, List.set_cons_succ]
        refine RegF.two 9 14 (by kernel_rfl) ?_ ?_
        case' refine_1 =>
          refine RegF.opC 45 #[.tmp 56] #[55] rfl rfl rfl (enters_of Tryz.func45 (by kernel_rfl) rfl) #[.slice Am nk cm] (by simp only [List.map_toArray, List.map_cons, List.map_nil]; rfl) ((HLK W5.drew hS0).mono ?_)
          rintro e Wl ⟨rfl, hBl⟩
          have hSl : Below W5.heap.size W5 Wl := hS0.trans (hBl.mono hS0.size)
          refine ⟨_, rfl, fun _ => hSl, ?_⟩
          simp only [List.getElem_toArray, List.getElem_cons_succ, List.getElem_cons_zero, Act.put, List.setIfInBounds_toArray, List.set_cons_zero, List.set_cons_succ]
          refine RegF.two 12 14 (by kernel_rfl) ?_ ?_
          case' refine_1 =>
            refine RegF.opC 46 #[.tmp 59] #[38] rfl rfl rfl (enters_of Tryz.func46 (by kernel_rfl) rfl) #[.slice Ay 512 ky] (by simp only [List.map_toArray, List.map_cons, List.map_nil]; rfl) ((HCL Wl hSl).mono ?_)
            rintro e Wc ⟨A6, c6, rfl, hin6, hA6, hty, hBc⟩
            have hS6 : Below W5.heap.size W5 Wc := hSl.trans (hBc.mono hSl.size)
            refine ⟨_, rfl, fun _ => hS6, ?_⟩
            simp only [List.getElem_toArray, List.getElem_cons_succ, List.getElem_cons_zero, Act.put, List.setIfInBounds_toArray, List.set_cons_zero, List.set_cons_succ]
            refine RegF.take0 13 (.agg (frCells S.ep (nk : Int) p' false 0 SM A6 512 c6)) rfl (by kernel_rfl) (by kernel_rfl) (by kernel_rfl) rfl (fun _ _ _ h => h) hS6 (RegF.yld rfl (fun W hW => by go_simp; rfl)) ?_
            simp only [List.getElem_toArray, List.getElem_cons_succ, List.getElem_cons_zero, Act.put, List.setIfInBounds_toArray, List.set_cons_zero, List.set_cons_succ]
            have bz := BlkIs.new Wc 97 #[.int .u64 0, .int .i64 0, .int .i64 0, .bool false, .int .i64 0, .int .u32 0, .slice none 0 0]
            have hS7 : Below W5.heap.size W5 (Wc.alloc (.cells #[.int .u64 0, .int .i64 0, .int .i64 0, .bool false, .int .i64 0, .int .u32 0, .slice none 0 0] 97)) := hS6.alloc hS6.size _
            have hBz : Below Wc.heap.size Wc (Wc.alloc (.cells #[.int .u64 0, .int .i64 0, .int .i64 0, .bool false, .int .i64 0, .int .u32 0, .slice none 0 0] 97)) := (Below.refl _ _).alloc (Nat.le_refl _) _
            refine RegF.one 14 (by kernel_rfl) ?_
            refine RegF.opV (w' := Wc.alloc (.cells #[.int .u64 0, .int .i64 0, .int .i64 0, .bool false, .int .i64 0, .int .u32 0, .slice none 0 0] 97)) (.pointer (some ⟨Wc.heap.size, 0, none⟩)) rfl rfl (by go_simp) ⟨fun _ => hS7, ?_⟩
            simp only [List.getElem_toArray, List.getElem_cons_succ, List.getElem_cons_zero, Act.put, List.setIfInBounds_toArray, List.set_cons_zero, List.set_cons_succ]
            refine RegF.one 15 (by kernel_rfl) (RegF.opS (w' := (Wc.alloc (.cells #[.int .u64 0, .int .i64 0, .int .i64 0, .bool false, .int .i64 0, .int .u32 0, .slice none 0 0] 97)).setRow Wc.heap.size (frCells S.ep (nk : Int) p' false 0 SM A6 512 c6)) rfl rfl (x_storeR 97 (.tmp 10) (.tmp 61) rfl Wc.heap.size rfl rfl rowFrame bz rfl rfl (frCells_one _ _ _ _ _ _ _ _ _)) ⟨fun _ => below_setRow hS7 hS6.size _, RegF.done (by kernel_rfl) ?_⟩)
            simp only [List.getElem_toArray, List.getElem_cons_succ, List.getElem_cons_zero, Act.put]
            have hF : BlkIs ((Wc.alloc (.cells #[.int .u64 0, .int .i64 0, .int .i64 0, .bool false, .int .i64 0, .int .u32 0, .slice none 0 0] 97)).setRow Wc.heap.size (frCells S.ep (nk : Int) p' false 0 SM A6 512 c6)) Wc.heap.size 97 (frCells S.ep (nk : Int) p' false 0 SM A6 512 c6) ∧ W5.heap.size ≤ Wc.heap.size ∧ InB ((Wc.alloc (.cells #[.int .u64 0, .int .i64 0, .int .i64 0, .bool false, .int .i64 0, .int .u32 0, .slice none 0 0] 97)).setRow Wc.heap.size (frCells S.ep (nk : Int) p' false 0 SM A6 512 c6)) ((Wc.alloc (.cells #[.int .u64 0, .int .i64 0, .int .i64 0, .bool false, .int .i64 0, .int .u32 0, .slice none 0 0] 97)).setRow Wc.heap.size (frCells S.ep (nk : Int) p' false 0 SM A6 512 c6)).heap.size A6 c6 y ∧ (∀ g o, A6 = some ⟨g, o, none⟩ → W5.heap.size ≤ g) ∧ TyB ((Wc.alloc (.cells #[.int .u64 0, .int .i64 0, .int .i64 0, .bool false, .int .i64 0, .int .u32 0, .slice none 0 0] 97)).setRow Wc.heap.size (frCells S.ep (nk : Int) p' false 0 SM A6 512 c6)) A6 ∧ Below W5.heap.size W5 ((Wc.alloc (.cells #[.int .u64 0, .int .i64 0, .int .i64 0, .bool false, .int .i64 0, .int .u32 0, .slice none 0 0] 97)).setRow Wc.heap.size (frCells S.ep (nk : Int) p' false 0 SM A6 512 c6)) := ⟨bz.setRow _, hS6.size, (hin6.below (below_setRow hBz (Nat.le_refl _) (frCells S.ep (nk : Int) p' false 0 SM A6 512 c6))).more (below_setRow hBz (Nat.le_refl _) (frCells S.ep (nk : Int) p' false 0 SM A6 512 c6)).size, hA6, hty.grow (below_setRow hBz (Nat.le_refl _) _), below_setRow hS7 hS6.size _⟩
            generalize (Wc.alloc (.cells #[.int .u64 0, .int .i64 0, .int .i64 0, .bool false, .int .i64 0, .int .u32 0, .slice none 0 0] 97)).setRow Wc.heap.size (frCells S.ep (nk : Int) p' false 0 SM A6 512 c6) = W7 at hF ⊢
            generalize Wc.heap.size = q at hF ⊢
            exact ⟨q, A6, c6, hF, rfl⟩
          case' refine_2 =>
            have bz := BlkIs.new Wl 97 #[.int .u64 0, .int .i64 0, .int .i64 0, .bool false, .int .i64 0, .int .u32 0, .slice none 0 0]
            have hSa : Below W5.heap.size W5 (Wl.alloc (.cells #[.int .u64 0, .int .i64 0, .int .i64 0, .bool false, .int .i64 0, .int .u32 0, .slice none 0 0] 97)) := hSl.alloc hSl.size _
            refine RegF.opV (w' := Wl.alloc (.cells #[.int .u64 0, .int .i64 0, .int .i64 0, .bool false, .int .i64 0, .int .u32 0, .slice none 0 0] 97)) (.pointer (some ⟨Wl.heap.size, 0, none⟩)) rfl rfl (by go_simp) ⟨fun _ => hSa, ?_⟩
            simp only [List.getElem_toArray, List.getElem_cons_succ, List.getElem_cons_zero, Act.put, List.setIfInBounds_toArray, List.set_cons_zero, List.set_cons_succ]
            generalize Wl.alloc (.cells #[.int .u64 0, .int .i64 0, .int .i64 0, .bool false, .int .i64 0, .int .u32 0, .slice none 0 0] 97) = Wa at bz hSa ⊢
            refine RegF.one 12 (by kernel_rfl) ?_
            refine RegF.opC 46 #[.tmp 59] #[38] rfl rfl rfl (enters_of Tryz.func46 (by kernel_rfl) rfl) #[.slice Ay 512 ky] (by simp only [List.map_toArray, List.map_cons, List.map_nil]; rfl) ((HCL Wa hSa).mono ?_)
            rintro e Wc ⟨A6, c6, rfl, hin6, hA6, hty, hBc⟩
            have bc := bz.below hBc bz.lt
            have hS6 : Below W5.heap.size W5 Wc := hSa.trans (hBc.mono hSa.size)
            refine ⟨_, rfl, fun _ => hS6, ?_⟩
            simp only [List.getElem_toArray, List.getElem_cons_succ, List.getElem_cons_zero, Act.put, List.setIfInBounds_toArray, List.set_cons_zero, List.set_cons_succ]
            refine RegF.one 13 (by kernel_rfl) (RegF.opV (w' := Wc) (.agg (frCells S.ep (nk : Int) p' false 0 SM A6 512 c6)) rfl rfl (by go_simp; rfl) ⟨fun _ => hS6, ?_⟩)
            simp only [List.getElem_toArray, List.getElem_cons_succ, List.getElem_cons_zero, Act.put, List.setIfInBounds_toArray, List.set_cons_zero, List.set_cons_succ]
            have hS8 : Below W5.heap.size W5 (Wc.setRow Wl.heap.size (frCells S.ep (nk : Int) p' false 0 SM A6 512 c6)) := below_setRow hS6 hSl.size _
            refine RegF.one 15 (by kernel_rfl) (RegF.opS (w' := Wc.setRow Wl.heap.size (frCells S.ep (nk : Int) p' false 0 SM A6 512 c6)) rfl rfl (x_storeR 97 (.tmp 10) (.tmp 61) rfl Wl.heap.size rfl rfl rowFrame bc rfl rfl (frCells_one _ _ _ _ _ _ _ _ _)) ⟨fun _ => hS8, RegF.done (by kernel_rfl) ?_⟩)
            simp only [List.getElem_toArray, List.getElem_cons_succ, List.getElem_cons_zero, Act.put]
            have hne : ∀ g o, A6 = some ⟨g, o, none⟩ → g ≠ Wl.heap.size := fun g o e => by
              subst e
              intro e2
              subst e2
              obtain ⟨g', o', e3, hg', hc'⟩ := hin6.lies (by omega)
              injection e3 with e3
              injection e3 with e3 e4
              subst e3 e4
              have h0 := hc' 0 (by omega)
              rw [bc.cell] at h0
              exact zf_no _ _ h0
            have hF : BlkIs (Wc.setRow Wl.heap.size (frCells S.ep (nk : Int) p' false 0 SM A6 512 c6)) Wl.heap.size 97 (frCells S.ep (nk : Int) p' false 0 SM A6 512 c6) ∧ W5.heap.size ≤ Wl.heap.size ∧ InB (Wc.setRow Wl.heap.size (frCells S.ep (nk : Int) p' false 0 SM A6 512 c6)) (Wc.setRow Wl.heap.size (frCells S.ep (nk : Int) p' false 0 SM A6 512 c6)).heap.size A6 c6 y ∧ (∀ g o, A6 = some ⟨g, o, none⟩ → W5.heap.size ≤ g) ∧ TyB (Wc.setRow Wl.heap.size (frCells S.ep (nk : Int) p' false 0 SM A6 512 c6)) A6 ∧ Below W5.heap.size W5 (Wc.setRow Wl.heap.size (frCells S.ep (nk : Int) p' false 0 SM A6 512 c6)) := ⟨bc.setRow _, hSl.size, GrowBut.inB (Mu := fun k => k = Wl.heap.size) (GrowBut.grown (setRow_grown Wc Wl.heap.size (frCells S.ep (nk : Int) p' false 0 SM A6 512 c6)) (fun r e => by injection e with e; exact .inl e.symm)) hin6 (fun g o e _ => hne g o e), hA6, hty.row _ _ hne, hS8⟩
            generalize Wc.setRow Wl.heap.size (frCells S.ep (nk : Int) p' false 0 SM A6 512 c6) = W7 at hF ⊢
            generalize Wl.heap.size = q at hF ⊢
            exact ⟨q, A6, c6, hF, rfl⟩
        case' refine_2 =>
          have bz := BlkIs.new W5.drew 97 #[.int .u64 0, .int .i64 0, .int .i64 0, .bool false, .int .i64 0, .int .u32 0, .slice none 0 0]
          have hSa : Below W5.heap.size W5 (W5.drew.alloc (.cells #[.int .u64 0, .int .i64 0, .int .i64 0, .bool false, .int .i64 0, .int .u32 0, .slice none 0 0] 97)) := hS0.alloc hS0.size _
          refine RegF.opV (w' := W5.drew.alloc (.cells #[.int .u64 0, .int .i64 0, .int .i64 0, .bool false, .int .i64 0, .int .u32 0, .slice none 0 0] 97)) (.pointer (some ⟨W5.drew.heap.size, 0, none⟩)) rfl rfl (by go_simp) ⟨fun _ => hSa, ?_⟩
          simp only [List.getElem_toArray, List.getElem_cons_succ, List.getElem_cons_zero, Act.put, List.setIfInBounds_toArray, List.set_cons_zero, List.set_cons_succ]
          generalize W5.drew.alloc (.cells #[.int .u64 0, .int .i64 0, .int .i64 0, .bool false, .int .i64 0, .int .u32 0, .slice none 0 0] 97) = Wa at bz hSa ⊢
          refine RegF.one 9 (by kernel_rfl) ?_
          refine RegF.opC 45 #[.tmp 56] #[55] rfl rfl rfl (enters_of Tryz.func45 (by kernel_rfl) rfl) #[.slice Am nk cm] (by simp only [List.map_toArray, List.map_cons, List.map_nil]; rfl) ((HLK Wa hSa).mono ?_)
          rintro e Wl ⟨rfl, hBl⟩
          have bl := bz.below hBl bz.lt
          have hSl : Below W5.heap.size W5 Wl := hSa.trans (hBl.mono hSa.size)
          refine ⟨_, rfl, fun _ => hSl, ?_⟩
          simp only [List.getElem_toArray, List.getElem_cons_succ, List.getElem_cons_zero, Act.put, List.setIfInBounds_toArray, List.set_cons_zero, List.set_cons_succ]
          refine RegF.one 12 (by kernel_rfl) ?_
          refine RegF.opC 46 #[.tmp 59] #[38] rfl rfl rfl (enters_of Tryz.func46 (by kernel_rfl) rfl) #[.slice Ay 512 ky] (by simp only [List.map_toArray, List.map_cons, List.map_nil]; rfl) ((HCL Wl hSl).mono ?_)
          rintro e Wc ⟨A6, c6, rfl, hin6, hA6, hty, hBc⟩
          have bc := bl.below hBc bl.lt
          have hS6 : Below W5.heap.size W5 Wc := hSl.trans (hBc.mono hSl.size)
          refine ⟨_, rfl, fun _ => hS6, ?_⟩
          simp only [List.getElem_toArray, List.getElem_cons_succ, List.getElem_cons_zero, Act.put, List.setIfInBounds_toArray, List.set_cons_zero, List.set_cons_succ]
          refine RegF.one 13 (by kernel_rfl) (RegF.opV (w' := Wc) (.agg (frCells S.ep (nk : Int) p' false 0 SM A6 512 c6)) rfl rfl (by go_simp; rfl) ⟨fun _ => hS6, ?_⟩)
          simp only [List.getElem_toArray, List.getElem_cons_succ, List.getElem_cons_zero, Act.put, List.setIfInBounds_toArray, List.set_cons_zero, List.set_cons_succ]
          have hS8 : Below W5.heap.size W5 (Wc.setRow W5.drew.heap.size (frCells S.ep (nk : Int) p' false 0 SM A6 512 c6)) := below_setRow hS6 hS0.size _
          refine RegF.one 15 (by kernel_rfl) (RegF.opS (w' := Wc.setRow W5.drew.heap.size (frCells S.ep (nk : Int) p' false 0 SM A6 512 c6)) rfl rfl (x_storeR 97 (.tmp 10) (.tmp 61) rfl W5.drew.heap.size rfl rfl rowFrame bc rfl rfl (frCells_one _ _ _ _ _ _ _ _ _)) ⟨fun _ => hS8, RegF.done (by kernel_rfl) ?_⟩)
          simp only [List.getElem_toArray, List.getElem_cons_succ, List.getElem_cons_zero, Act.put]
          have hne : ∀ g o, A6 = some ⟨g, o, none⟩ → g ≠ W5.drew.heap.size := fun g o e => by
            subst e
            intro e2
            subst e2
            obtain ⟨g', o', e3, hg', hc'⟩ := hin6.lies (by omega)
            injection e3 with e3
            injection e3 with e3 e4
            subst e3 e4
            have h0 := hc' 0 (by omega)
            rw [bc.cell] at h0
            exact zf_no _ _ h0
          have hF : BlkIs (Wc.setRow W5.drew.heap.size (frCells S.ep (nk : Int) p' false 0 SM A6 512 c6)) W5.drew.heap.size 97 (frCells S.ep (nk : Int) p' false 0 SM A6 512 c6) ∧ W5.heap.size ≤ W5.drew.heap.size ∧ InB (Wc.setRow W5.drew.heap.size (frCells S.ep (nk : Int) p' false 0 SM A6 512 c6)) (Wc.setRow W5.drew.heap.size (frCells S.ep (nk : Int) p' false 0 SM A6 512 c6)).heap.size A6 c6 y ∧ (∀ g o, A6 = some ⟨g, o, none⟩ → W5.heap.size ≤ g) ∧ TyB (Wc.setRow W5.drew.heap.size (frCells S.ep (nk : Int) p' false 0 SM A6 512 c6)) A6 ∧ Below W5.heap.size W5 (Wc.setRow W5.drew.heap.size (frCells S.ep (nk : Int) p' false 0 SM A6 512 c6)) := ⟨bc.setRow _, hS0.size, GrowBut.inB (Mu := fun k => k = W5.drew.heap.size) (GrowBut.grown (setRow_grown Wc W5.drew.heap.size (frCells S.ep (nk : Int) p' false 0 SM A6 512 c6)) (fun r e => by injection e with e; exact .inl e.symm)) hin6 (fun g o e _ => hne g o e), hA6, hty.row _ _ hne, hS8⟩
          generalize Wc.setRow W5.drew.heap.size (frCells S.ep (nk : Int) p' false 0 SM A6 512 c6) = W7 at hF ⊢
          generalize W5.drew.heap.size = q at hF ⊢
          exact ⟨q, A6, c6, hF, rfl⟩
      case h2 =>
        rintro q A6 c6 w6 ⟨hbq, hq5, hin6, hA6, hty6, hB6⟩
        have hB36 := hB5.trans (hB6.mono hB5.size)
        have m6 := m5.below hB6 m5.lt
        have s6 := b13.below hB36 b13.lt
        have w5s := hB5.size
        have w5r := hBr5.size
        have nq1 : ¬ w.heap.size + 1 = q := by omega
        have nqm : ¬ mb = q := by omega
        have hsub : IntKind.i64.wrap ((n : Int) - 1) = (n : Int) - 1 := wrap_i64_fr _ (by omega) (by omega)
        have hwk : IntKind.i64.wrap ((k : Int) + 1) = (k : Int) + 1 := wrap_i64_fr _ (by omega) (by omega)
        clear T0 T4 TM TP TB HLK HCL b5 hy5 hin5 hS0
        by_cases hlast : k + 1 = n
        case' pos =>
          have HEQ : Hid (decide ((k : Int) = (n : Int) - 1) = true) := Lib.hid (decide_eq_true (by omega))
          have hbA := hbq.drew.set 3 (.bool true)
          have hbB : BlkIs ((w6.drew.setCell ⟨q, 3, none⟩ (.bool true)).setCell ⟨q, 4, none⟩ (.int .i64 z)) q 97 (frCells S.ep (nk : Int) p' true z SM A6 512 c6) := hbA.set 4 (.int .i64 z)
          have z3 : w6.cell? ⟨q, 3, none⟩ = some (.bool false) := by rw [hbq.cell]; rfl
          have z4 : w6.cell? ⟨q, 4, none⟩ = some (.int .i64 0) := by rw [hbq.cell]; rfl
          have y3 := hbq.free 3
          have y4 := hbq.free 4
          have hS1 := s6.drew
          have hSA := hS1.other (p := ⟨q, 3, none⟩) nq1 (.bool true)
          have hMB := (m6.drew.other (p := ⟨q, 3, none⟩) nqm (.bool true)).other (p := ⟨q, 4, none⟩) nqm (.int .i64 z)
          have hGB : GrowBut (fun k => k = q) w6 ((w6.drew.setCell ⟨q, 3, none⟩ (.bool true)).setCell ⟨q, 4, none⟩ (.int .i64 z)) := ((GrowBut.grown (grownBy_drew w6 none) (fun r e => by cases e)).trans (GrowBut.grown (setCell_grown _ ⟨q, 3, none⟩ _) (fun r e => by injection e with e; exact .inl e.symm))).trans (GrowBut.grown (setCell_grown _ ⟨q, 4, none⟩ _) (fun r e => by injection e with e; exact .inl e.symm))
          have HLA := Lib.hid hlast
          clear hlast
          go_wp2_with (refine wp_exec rfl (r_eqI (b := true) rfl rfl rfl HEQ.out) ?_)
          refine RegF.start (fun W => BlkIs W (w.heap.size + 1) 3 #[.int .i64 z]) 4 (by kernel_rfl) ?_
          refine RegF.take 0 (.int .i64 z) rfl (by kernel_rfl) (by kernel_rfl) (by kernel_rfl) (by kernel_rfl) (fun _ _ _ h => h) hS1 (RegF.yld rfl (fun W hW => by have q := hW.boxed; go_simp)) ?_
          simp only [List.getElem_toArray, List.getElem_cons_zero, Act.put, List.setIfInBounds_toArray, List.set_cons_zero, List.set_cons_succ]
          refine RegF.one 1 (by kernel_rfl) (RegF.opV (w' := w6.drew) (.pointer (some ⟨q, 3, none⟩)) rfl rfl (by go_simp) ⟨fun _ => hS1, ?_⟩)
          simp only [List.getElem_toArray, List.getElem_cons_succ, List.getElem_cons_zero, Act.put, List.setIfInBounds_toArray, List.set_cons_zero, List.set_cons_succ]
          refine RegF.one 2 (by kernel_rfl) (RegF.opS (w' := w6.drew.setCell ⟨q, 3, none⟩ (.bool true)) rfl rfl (by go_simp) ⟨fun _ => hSA, ?_⟩)
          simp only [List.getElem_toArray, List.getElem_cons_succ, List.getElem_cons_zero, Act.put]
          refine RegF.one 3 (by kernel_rfl) (RegF.opV (w' := w6.drew.setCell ⟨q, 3, none⟩ (.bool true)) (.pointer (some ⟨q, 4, none⟩)) rfl rfl (by go_simp) ⟨fun _ => hSA, ?_⟩)
          simp only [List.getElem_toArray, List.getElem_cons_succ, List.getElem_cons_zero, Act.put, List.setIfInBounds_toArray, List.set_cons_zero, List.set_cons_succ]
          refine RegF.one 4 (by kernel_rfl) (RegF.opS (w' := (w6.drew.setCell ⟨q, 3, none⟩ (.bool true)).setCell ⟨q, 4, none⟩ (.int .i64 z)) rfl rfl (by go_simp) ⟨fun h => absurd rfl h, RegF.done (by kernel_rfl) ?_⟩)
          simp only [List.getElem_toArray, List.getElem_cons_succ, List.getElem_cons_zero, Act.put]

          clear z3 z4 y3 y4 hS1 hSA hbA
          generalize (w6.drew.setCell ⟨q, 3, none⟩ (.bool true)).setCell ⟨q, 4, none⟩ (.int .i64 z) = w7 at *
          obtain ⟨FC, hFC⟩ : ∃ FC, FC = frCells S.ep (nk : Int) p' true z SM A6 512 c6 := ⟨_, rfl⟩
          have HFC : Hid (FC.toList = (FrV.arr (newF S.ep z (addK S.ep z S.fs n pw k) (p', y) (decide (k + 1 = n)), A6, c6)).toList) := Lib.hid (by
            rw [hFC]
            have h1 := HVK.out
            have h2 := HVL.out
            have h3 := HNK.out
            have h4 := addK_length S.ep z S.fs n pw k
            have h5 := HN0S.out
            simp only [FrV.arr, newF, HSM.out, h4, hy512, HLA.out, decide_true, if_true]
            rw [show S.fs.length + k = nk by omega])
          have hfs : FC.size = 7 := by rw [hFC]; rfl
          have hFC1 : ∀ v ∈ FC.toList, v.oneCell' = true := by rw [hFC]; exact frCells_one _ _ _ _ _ _ _ _ _
          rw [← hFC] at hbB
          clear hFC HLA HEQ
          have hB67 : Below W5.heap.size W5 w7 := hB6.trans (hGB.toBelow hB6.size (fun k e => by subst e; exact hq5))
          have hBr7 : Below wr.heap.size wr w7 := hBr5.trans (hB67.mono hBr5.size)
          have hB37 : Below W3.heap.size W3 w7 := hB5.trans (hB67.mono hB5.size)
          obtain ⟨hi7, hty7⟩ := keepB hGB hin6 hty6 (fun g cs hb e => by subst e; exact BlkIs.ne_type hb hbq (by decide) rfl)
          have hBL : Below w7.heap.size w7 (w7.alloc (.cells FC 97)) := (Below.refl _ _).alloc (Nat.le_refl _) _
          have hin7 : InG (w7.alloc (.cells FC 97)) (w7.alloc (.cells FC 97)).heap.size 7 (some ⟨w7.heap.size, 0, none⟩) 1 1 FC.toList := by
            obtain ⟨AL, cL, eL, hin⟩ := ownG_in (World.ownsRow_lit (base := w7.heap.size) (size := 7) (e := 97) w7 FC 1 (Nat.le_refl _) (by decide) hfs) hFC1
            injection eL with eL1 _ eL2
            subst eL1 eL2
            exact hin
          have own7 := ownG_grow (ownG_grow own4 hBr7) hBL
          have hsz7 : W3.heap.size ≤ (w7.alloc (.cells FC 97)).heap.size := Nat.le_trans hB37.size hBL.size
          have hne8 : some mb ≠ (Value.slice Am nk cm).ownBlock := fun e => by
            obtain ⟨cur, hcur⟩ := ownG_ty own7 mb e.symm
            exact BlkIs.ne_type hcur (hMB.alloc (.cells FC 97)) (by decide) rfl
          have hone : ∀ v ∈ vsC vk ++ FC.toList, v.oneCell' = true := fun v hv => by
            rcases List.mem_append.1 hv with h | h
            · exact vsC_one vk v h
            · exact hFC1 v h
          have fm := hMB.free 0
          have km := hMB.boxed
          have hnkb : nk ≤ 4000 := by have := HNK.out; omega
          go_wp2_with (first
            | (refine wp_loadW rfl 97 (.tmp 10) rfl q rfl rowFrame hbB hfs ?_)
            | (refine wp_exec rfl (x_sliceFr FC hfs rfl rfl) ?_)
            | (at_builtin; refine wp_appG rfl elFrame (.tmp 70) (.tmp 72) rfl W3.heap.size (.slice Am nk cm) nk (vsC vk) rfl own7 _ (some ⟨w7.heap.size, 0, none⟩) 1 1 FC.toList rfl hin7 (by unfold maxLen; omega) (by omega) hsz7 ?_; intro v8 w8 own8 hg8; have m8 := hMB.alloc (.cells FC 97) |>.grown hg8 hne8; obtain ⟨A8, c8, rfl, _⟩ := ownG_in own8 hone; have km8 := m8.boxed; have fm8 := m8.free 0))
        case' neg =>
          have HEQ : Hid (decide ((k : Int) = (n : Int) - 1) = false) := Lib.hid (decide_eq_false (by omega))
          obtain ⟨w7, hw7⟩ : ∃ w7, w7 = w6 := ⟨_, rfl⟩
          rw [← hw7] at hbq m6 hin6 hty6 hB6 ⊢
          have hbB := hbq
          have hMB := m6
          have hGB : GrowBut (fun k => k = q) w7 w7 := GrowBut.refl _ _
          obtain ⟨FC, hFC⟩ : ∃ FC, FC = frCells S.ep (nk : Int) p' false 0 SM A6 512 c6 := ⟨_, rfl⟩
          have HFC : Hid (FC.toList = (FrV.arr (newF S.ep z (addK S.ep z S.fs n pw k) (p', y) (decide (k + 1 = n)), A6, c6)).toList) := Lib.hid (by
            rw [hFC]
            have h1 := HVK.out
            have h2 := HVL.out
            have h3 := HNK.out
            have h4 := addK_length S.ep z S.fs n pw k
            have h5 := HN0S.out
            have h6 : decide (k + 1 = n) = false := decide_eq_false hlast
            simp only [FrV.arr, newF, HSM.out, h4, hy512, h6]
            rw [show S.fs.length + k = nk by omega]
            rfl)
          have hfs : FC.size = 7 := by rw [hFC]; rfl
          have hFC1 : ∀ v ∈ FC.toList, v.oneCell' = true := by rw [hFC]; exact frCells_one _ _ _ _ _ _ _ _ _
          rw [← hFC] at hbB
          clear hFC hw7 hlast
          have hB67 : Below W5.heap.size W5 w7 := hB6.trans (hGB.toBelow hB6.size (fun k e => by subst e; exact hq5))
          have hBr7 : Below wr.heap.size wr w7 := hBr5.trans (hB67.mono hBr5.size)
          have hB37 : Below W3.heap.size W3 w7 := hB5.trans (hB67.mono hB5.size)
          obtain ⟨hi7, hty7⟩ := keepB hGB hin6 hty6 (fun g cs hb e => by subst e; exact BlkIs.ne_type hb hbq (by decide) rfl)
          have hBL : Below w7.heap.size w7 (w7.alloc (.cells FC 97)) := (Below.refl _ _).alloc (Nat.le_refl _) _
          have hin7 : InG (w7.alloc (.cells FC 97)) (w7.alloc (.cells FC 97)).heap.size 7 (some ⟨w7.heap.size, 0, none⟩) 1 1 FC.toList := by
            obtain ⟨AL, cL, eL, hin⟩ := ownG_in (World.ownsRow_lit (base := w7.heap.size) (size := 7) (e := 97) w7 FC 1 (Nat.le_refl _) (by decide) hfs) hFC1
            injection eL with eL1 _ eL2
            subst eL1 eL2
            exact hin
          have own7 := ownG_grow (ownG_grow own4 hBr7) hBL
          have hsz7 : W3.heap.size ≤ (w7.alloc (.cells FC 97)).heap.size := Nat.le_trans hB37.size hBL.size
          have hne8 : some mb ≠ (Value.slice Am nk cm).ownBlock := fun e => by
            obtain ⟨cur, hcur⟩ := ownG_ty own7 mb e.symm
            exact BlkIs.ne_type hcur (hMB.alloc (.cells FC 97)) (by decide) rfl
          have hone : ∀ v ∈ vsC vk ++ FC.toList, v.oneCell' = true := fun v hv => by
            rcases List.mem_append.1 hv with h | h
            · exact vsC_one vk v h
            · exact hFC1 v h
          have fm := hMB.free 0
          have km := hMB.boxed
          have hnkb : nk ≤ 4000 := by have := HNK.out; omega
          go_wp2_with (first
            | (refine wp_loadW rfl 97 (.tmp 10) rfl q rfl rowFrame hbB hfs ?_)
            | (refine wp_exec rfl (x_sliceFr FC hfs rfl rfl) ?_)
            | (at_builtin; refine wp_appG rfl elFrame (.tmp 70) (.tmp 72) rfl W3.heap.size (.slice Am nk cm) nk (vsC vk) rfl own7 _ (some ⟨w7.heap.size, 0, none⟩) 1 1 FC.toList rfl hin7 (by unfold maxLen; omega) (by omega) hsz7 ?_; intro v8 w8 own8 hg8; have m8 := hMB.alloc (.cells FC 97) |>.grown hg8 hne8; obtain ⟨A8, c8, rfl, _⟩ := ownG_in own8 hone; have km8 := m8.boxed; have fm8 := m8.free 0)
            | (refine wp_exec rfl (r_eqI (b := false) rfl rfl rfl HEQ.out) ?_))
        all_goals
          have hB8 : Below W3.heap.size W3 w8 := hB37.trans ((hBL.mono hB37.size).trans (grown_below hg8 hsz7 (ownG_ge own7)))
          have hB9 := hB8.setCell (p := ⟨mb, 0, none⟩) hmb3 (.slice A8 (nk + 1) c8)
          have G9 : GrowBut (fun g => (Value.slice Am nk cm).ownBlock = some g ∨ g = mb) w7 (w8.setCell ⟨mb, 0, none⟩ (.slice A8 (nk + 1) c8)) := ((GrowBut.below hBL).trans (GrowBut.grown hg8 (fun r e => .inl (.inl e)))).trans (GrowBut.setCell _ _ _ (.inr rfl))
          have hMu : ∀ g cs, BlkIs w7 g 5 cs → ¬ ((Value.slice Am nk cm).ownBlock = some g ∨ g = mb) := fun g cs hb h => by
            rcases h with h | rfl
            · obtain ⟨cur, hcur⟩ := ownG_ty own7 g h
              exact BlkIs.ne_type hcur (hb.alloc (.cells FC 97)) (by decide) rfl
            · exact BlkIs.ne_type hb hMB (by decide) rfl
          have own9 : (w8.setCell ⟨mb, 0, none⟩ (.slice A8 (nk + 1) c8)).ownsRow W3.heap.size 97 7 (.slice A8 (nk + 1) c8) (nk + 1) (vsC vk ++ FC.toList) := ownG_later own8 (fun r hr => Below.heap_setCell w8 ⟨mb, 0, none⟩ _ r (fun e => by
            obtain ⟨cur, hcur⟩ := ownG_ty own8 r hr
            have e' : r = mb := e
            subst e'
            exact BlkIs.ne_type hcur m8 (by decide) rfl))
          have hnk := HNK.out
          refine ⟨⟨k + 1, by omega, by simp, hB9, A8, c8, vk ++ [(newF S.ep z (addK S.ep z S.fs n pw k) (p', y) (decide (k + 1 = n)), A6, c6)], ?_, ?_, ?_, ?_⟩, by simp [intOf]; omega⟩
          · rw [show n0 + (k + 1) = nk + 1 by omega]
            exact m8.set 0 _
          · rw [show n0 + (k + 1) = nk + 1 by omega, vsC_append, vsC_one1, ← HFC.out]
            exact own9
          · rw [List.map_append, HVK.out]
            exact HNX.out.symm
          · intro v hv
            rcases List.mem_append.1 hv with hv | hv
            · obtain ⟨h1, h2⟩ := hbk v hv
              rcases h2 with h2 | ⟨h2, h3⟩
              · exact ⟨((hF3.bys v h2).1.below hB9).more hB9.size, .inl h2⟩
              · obtain ⟨h4, h5⟩ := keepB G9 ((h1.below hBr7).more hBr7.size) (h3.grow hBr7) hMu
                exact ⟨h4, .inr ⟨h2, h5⟩⟩
            · obtain rfl := List.mem_singleton.1 hv
              obtain ⟨h4, h5⟩ := keepB G9 hi7 hty7 hMu
              exact ⟨h4, .inr ⟨fun g o e => by have := hA6 g o e; omega, h5⟩⟩
    · have hkn : k = n := by omega
      subst hkn
      have hn0 := HN0.out
      have hn0s := HN0S.out
      obtain ⟨fg, hfgA, hfg3⟩ : ∃ fg, Am = some ⟨fg, 0, none⟩ ∧ W3.heap.size ≤ fg := by
        rcases own4.2 with ⟨_, h0⟩ | ⟨fg, cap, cur, e, h1, _⟩
        · omega
        · injection e with e1 _ _
          exact ⟨fg, e1, h1⟩
      subst hfgA
      obtain ⟨_, _, eAm, hin4⟩ := ownG_in own4 (vsC_one vk)
      injection eAm with eA1 _ eA2
      subst eA1 eA2
      have hgd := hgood k (Nat.le_refl _)
      have hsz4 := hB4.size
      have h1lt := b03.lt
      have h2lt := b13.lt
      have hVM : (S.fs.length : Int) + (k : Int) = (vk.length : Int) := by omega
      rw [← hvl] at m4 hin4
      have hgd2 : ∀ j (h : j < vk.length), n0 ≤ j → (vk[j]).1.i = (j : Int) ∧ frOk (vk[j]).1.y.length (vk[j]).1.i (vk[j]).1.p (vk[j]).1.f (vk[j]).1.z = true := fun j h hj => by
        have h' : j < (addK S.ep z S.fs k pw k).length := by rw [addK_length]; omega
        have e : (vk[j]).1 = (addK S.ep z S.fs k pw k)[j] := by
          have : (vk.map (·.1))[j]? = (addK S.ep z S.fs k pw k)[j]? := by rw [hvk]
          rw [List.getElem?_map, List.getElem?_eq_getElem h, List.getElem?_eq_getElem h'] at this
          exact Option.some.inj this
        rw [e]
        exact hgd j h' (by omega)
      have hbs : ∀ v ∈ vk, InB wr wr.heap.size v.2.1 v.2.2 v.1.y ∧ ∀ g o, v.2.1 = some ⟨g, o, none⟩ → ¬ (g = d ∨ g = l) := fun v hv => by
        obtain ⟨h1, h2⟩ := hbk v hv
        refine ⟨h1, fun g o e => ?_⟩
        rcases h2 with h2 | ⟨h2, _⟩
        · exact (hF3.bys v h2).2 g o e
        · have := h2 g o e
          intro h
          rcases h with rfl | rfl <;> omega
      have hoh : headOk S.sz (vk.length : Int) = true := headOk_of hz.1 hz.2 (by omega) (by omega)
      have HS := appSG_gives wr l d many w.heap.size mb (w.heap.size + 1) s fr pg S.sr S.ep S.sz A0 n0 c0 fg cm vk z (hD.grow (hBw3.trans (hB4.mono hBw3.size))) hO (by omega) (hlg3.below hB4 hlg3.lt) (b03.below hB4 b03.lt) m4 (b13.below hB4 b13.lt) hin4 (fun v hv => ⟨(hbs v hv).1, fun g o e h => (hbs v hv).2 g o e (.inl h)⟩) (by omega) (by omega) hld (by omega) (by omega) (by omega) (by omega) (by omega) (by omega) (by omega) hpl (by omega) hgd2 hoh (by omega) hmax hsr
      have k0 := (b03.below hB4 b03.lt).boxed
      have kl : wr.cell? ⟨l, 0, none⟩ = some (.pointer (some ⟨d, 0, none⟩)) := by rw [(hlg3.below hB4 hlg3.lt).cell]; rfl
      have hFw : FrsIs (fun k => k = d ∨ k = l) wr (some ⟨fg, 0, none⟩) cm vk := ⟨hin4, (fun g o e => by
        injection e with e
        injection e with e1 e2
        refine ⟨fun h => ?_, e2.symm⟩
        rcases h with h | h <;> omega), (fun h => by rw [h] at hvl; simp at hvl; omega), hbs⟩
      have hBwr := hBw3.trans (hB4.mono hBw3.size)
      have hFo := hF3.grow hB4
      have HVK := Lib.hid hvk
      have HVL := Lib.hid hvl
      have HRR := Lib.hid hroom
      have hq : appD s (frsW ((vk.map (·.1)).drop n0)) (wrL ((S.sr + 1) % 2) (hEnc (S.sr + 1) S.ep S.sz (vk.length : Int)) 1) = appD s (frsW ((addK S.ep z S.fs k pw k).drop S.fs.length)) (wrL ((S.sr + 1) % 2) (hEnc (S.sr + 1) S.ep S.sz ((addK S.ep z S.fs k pw k).length : Int)) 1) := by
        rw [hvk, hn0s, show vk.length = (addK S.ep z S.fs k pw k).length by rw [← hvk, List.length_map]]
      rw [hq] at HS
      have HQ : Hid (∃ r, r = appD s (frsW ((addK S.ep z S.fs k pw k).drop S.fs.length)) (wrL ((S.sr + 1) % 2) (hEnc (S.sr + 1) S.ep S.sz ((addK S.ep z S.fs k pw k).length : Int)) 1)) := Lib.hid ⟨_, rfl⟩
      obtain ⟨r, hr⟩ := HQ.out
      rw [← hr] at HS
      have HRD := Lib.hid hr
      clear hr hq hgd hgd2 hvk hvl hgood hY hx hbk own4 hroom hVM hn0 hn0s HQ hin4
      go_wp2_with (go_at_call 47; refine HS.mono ?_; rintro e w9 ⟨_, rfl, rfl, hD9, hl9, hG9⟩; have HL9 := Lib.hid hl9; clear hl9)
      go_ret
      have hGf := (GrowBut.below (Mu := fun k => k = d ∨ k = l) hBwr).trans hG9
      have hkeep : ∀ j, (fun k => k = d ∨ k = l) j → j < wr.heap.size → (fun k => k = d ∨ k = l) j := fun j h _ => h
      rcases HL9.out with ⟨hx0, hl9⟩ | ⟨hx0, hl9⟩
      · exact ⟨r.2, r.1, ⟨S.sr + 1, S.ep, z, addK S.ep z S.fs k pw k⟩, rfl, .inr (.inr ⟨hR0, HRR.out, _, r, rfl, HRD.out, rfl, rfl, .inl ⟨hx0, rfl⟩⟩), hD9, ⟨hld, _, _, vk, hl9, hFw.keep hG9 hkeep, HVK.out⟩, hGf⟩
      · refine ⟨r.2, r.1, S, rfl, .inr (.inr ⟨hR0, HRR.out, _, r, rfl, HRD.out, rfl, rfl, .inr ⟨hx0, rfl⟩⟩), hD9, ⟨hld, _, _, vs, ?_, hFo.keep hG9 hkeep, HFS.out⟩, hGf⟩
        rw [← HN0.out]
        exact hl9
end
end Go.Proofs.YtocnabpplbeafaaGreat
/- wal: Append of a log, whatever is asked and whatever stop is set. -/
namespace Go.Proofs.YtocnabpplbeafaaGreat
open Go Go.RowKit Lou

theorem append_gives (w : World) (l d many : Nat) (s : DS) (fr pg : Int) (S : LgS) (hL : LogIs w l d fr pg S) (hD : DkS w d many s) (hO : s.Ok) (hl : s.xs.length ≤ 500000) (A1 : Option Addr) (n c : Nat) (xs : Nat → Int × Option Addr × Nat) (pw : Nat → Int × List UInt8) (hn : n ≤ 1000)
    (hA : 1 ≤ n → ∃ g o, A1 = some ⟨g, o, none⟩ ∧ PwIn w g o n xs ∧ g < w.heap.size) (hY : ∀ k, k < n → (pw k).1 = (xs k).1 ∧ (pw k).2.length = 512 ∧ InB w w.heap.size (xs k).2.1 (xs k).2.2 (pw k).2)
    (hpl : planOk fr pg = true) (z : Int) (hfs : (S.fs.length : Int) ≤ fr) (hz : 0 ≤ S.sz ∧ S.sz ≤ 2000) (hmany : 2 + 9 * fr ≤ (many : Int)) (hmax : many ≤ 1000000) (hsr : S.sr + 1 < 18446744073709551616) :
    Calls Tryz.prog 14 #[.pointer (some ⟨l, 0, none⟩), .int .i64 z, .slice A1 n c] w fun e w' => ∃ x s' S', e = .returned (.int .i64 x) ∧ AppOut fr pg s S n xs pw z x s' S' ∧ DkS w' d many s' ∧ LogIs w' l d fr pg S' ∧ GrowBut (fun k => k = d ∨ k = l) w w' := by
  have hplr := (planOk_iff fr pg).1 hpl
  have hL0 := hL
  obtain ⟨hld, A0, c0, vs, hlg, hF, hvs⟩ := hL
  have hvl : vs.length = S.fs.length := by rw [← hvs, List.length_map]
  have hfin : ∀ {w' : World}, Below w.heap.size w w' → DkS w' d many s ∧ LogIs w' l d fr pg S ∧ GrowBut (fun k => k = d ∨ k = l) w w' := fun {w'} hB =>
    ⟨hD.grow hB, ⟨hld, A0, c0, vs, hlg.below hB hlg.lt, hF.grow hB, hvs⟩, GrowBut.below hB⟩
  by_cases hR : RightC fr pg z n xs
  · obtain ⟨hn1, hz1, hz2, hp⟩ := id hR
    obtain ⟨g, o, rfl, hx, hg⟩ := hA hn1
    by_cases hroom : (S.fs.length : Int) + (n : Int) ≤ fr
    · exact append_more w l d many s fr pg S A0 c0 vs hD hO hl hlg hF hvs hld g o n c xs pw hn1 hn hg hx hY hpl z hR hroom hz hmany hmax hsr
    · refine (append_full w l d fr pg S.sr S.ep S.sz A0 vs.length c0 hlg (by omega) g o n c xs hn1 hn hx hg hp z hz1 hz2 (by omega)).mono ?_
      rintro e w' ⟨rfl, hB⟩
      exact ⟨160, s, S, rfl, .inr (.inl ⟨hR, by omega, rfl, rfl, rfl⟩), hfin hB⟩
  · refine (append_wrong w l d fr pg S.sr S.ep S.sz A0 vs.length c0 hlg A1 n c xs hn hA z hR).mono ?_
    rintro e w' ⟨rfl, hB⟩
    exact ⟨2, s, S, rfl, .inl ⟨hR, rfl, rfl, rfl⟩, hfin hB⟩
end Go.Proofs.YtocnabpplbeafaaGreat
/- wal: the head of a disk. -/
namespace Go.Proofs.YtocnabpplbeafaaGreat
open Go Go.RowKit Lou

/-- A head, in plain words: serial, epoch, size, count. -/
structure HdP where
  s : Nat
  e : Nat
  z : Int
  c : Int
def HdP.zero : HdP := ⟨0, 0, 0, 0⟩
def HdP.l (h : HdP) : List Value := [.int .u64 (h.s : Int), .int .u64 (h.e : Int), .int .i64 h.z, .int .i64 h.c]
theorem HdP.one (h : HdP) : ∀ v ∈ h.l.toArray.toList, v.oneCell' = true := by
  intro v hv
  simp [HdP.l] at hv
  rcases hv with rfl | rfl | rfl | rfl <;> rfl
def cmpI (x y : Nat) : Int := if x < y then -1 else if y < x then 1 else 0
theorem compareG_gives (w : World) (x y : Nat) : Calls Tryz.prog 77 #[.int .u64 (x : Int), .int .u64 (y : Int)] w fun e w' => e = .returned (.int .i64 (cmpI x y)) ∧ w = w' := by
  rcases Nat.lt_trichotomy x y with h | h | h
  · have h0 : (x : Int) < (y : Int) := by omega
    have hc : cmpI x y = -1 := by unfold cmpI; rw [if_pos h]
    rw [hc]
    clear h
    go_enter Tryz.func77, Tryz.ntmps77
    go_wp2_with (go_at_call 110; refine (isNaN64_gives w _).mono ?_; rintro e w' ⟨rfl, rfl⟩)
    go_ret
    exact ⟨rfl, rfl⟩
  · subst h
    have hc : cmpI x x = 0 := by unfold cmpI; rw [if_neg (Nat.lt_irrefl x), if_neg (Nat.lt_irrefl x)]
    rw [hc]
    exact compare64_gives w x
  · have h0 : ¬ (x : Int) < (y : Int) := by omega
    have h1 : (y : Int) < (x : Int) := by omega
    have hc : cmpI x y = 1 := by unfold cmpI; rw [if_neg (by omega), if_pos h]
    rw [hc]
    clear h
    go_enter Tryz.func77, Tryz.ntmps77
    go_wp2_with (go_at_call 110; refine (isNaN64_gives w _).mono ?_; rintro e w' ⟨rfl, rfl⟩)
    go_ret
    exact ⟨rfl, rfl⟩
theorem head1G_gives (w : World) (a b : HdP) : Calls Tryz.prog 76 #[.agg a.l.toArray, .agg b.l.toArray] w fun e w' => e = .returned (.int .i64 (cmpI a.s b.s)) ∧ Below w.heap.size w w' := by
  obtain ⟨x1, x2, x3, x4⟩ := a
  obtain ⟨y1, y2, y3, y4⟩ := b
  simp only [HdP.l]
  have hB : Below w.heap.size w ((w.alloc (.cells #[.int .u64 (x1 : Int), .int .u64 (x2 : Int), .int .i64 x3, .int .i64 x4] 89)).alloc (.cells #[.int .u64 (y1 : Int), .int .u64 (y2 : Int), .int .i64 y3, .int .i64 y4] 89)) := ((Below.refl _ w).alloc (Nat.le_refl _) _).alloc (by simp) _
  go_enter Tryz.func76, Tryz.ntmps76
  go_wp2_with (go_at_call 77; refine (compareG_gives _ x1 y1).mono ?_; rintro e w' ⟨rfl, rfl⟩)
  go_ret
  exact ⟨rfl, hB⟩
set_option maxRecDepth 100000 in
set_option maxHeartbeats 8000000 in
theorem maxG_gives (w : World) (q : Nat) (T : TypeId) (a b : HdP) (hq : BlkIs w q T (a.l ++ b.l).toArray) : Calls Tryz.prog 78 #[.slice (some ⟨q, 0, none⟩) 2 2, .func (.func 76) #[] #[]] w fun e w' => e = .returned (.agg (if a.s < b.s then b else a).l.toArray) ∧ Below w.heap.size w w' := by
  have hql := hq.lt
  obtain ⟨A, hA⟩ : ∃ A, A = a.l := ⟨_, rfl⟩
  obtain ⟨B, hBB⟩ : ∃ B, B = b.l := ⟨_, rfl⟩
  have hAl : A.length = 4 := by rw [hA]; rfl
  have hBl : B.length = 4 := by rw [hBB]; rfl
  have hA1 : ∀ v ∈ A.toArray.toList, v.oneCell' = true := by rw [hA]; exact a.one
  have hB1 : ∀ v ∈ B.toArray.toList, v.oneCell' = true := by rw [hBB]; exact b.one
  have HC := fun W => head1G_gives W b a
  rw [← hA, ← hBB] at HC
  rw [← hA, ← hBB] at hq
  have hX : (.agg (if a.s < b.s then b else a).l.toArray : Value) = .agg (if a.s < b.s then B else A).toArray := by
    rw [hA, hBB]
    split <;> rfl
  rw [hX]
  have hcm : (decide (0 < cmpI b.s a.s)) = decide (a.s < b.s) := by
    unfold cmpI
    by_cases h : a.s < b.s
    · rw [if_neg (by omega), if_pos h]; simp [h]
    · by_cases h2 : b.s < a.s
      · rw [if_pos h2]; simp [h]
      · rw [if_neg h2, if_neg h]; simp [h]
  generalize cmpI b.s a.s = cm at HC hcm
  have hr : w.rangeAt q 0 (A ++ B) := fun j v hj => by
    rw [hq.cell, Nat.zero_add]
    simpa using hj
  have hr4 : w.rangeAt q 4 B := fun j v hj => by
    have := hr (4 + j) v (by rw [List.getElem?_append_right (by omega), show 4 + j - A.length = j by omega]; exact hj)
    simpa using this
  have hr0 : w.rangeAt q 0 A := fun j v hj => hr j v (by rw [List.getElem?_append_left (List.getElem?_eq_some_iff.1 hj).1]; exact hj)
  have hBa : Below w.heap.size w (w.alloc (.cells #[.int .u64 0, .int .u64 0, .int .i64 0, .int .i64 0] 89)) := (Below.refl _ w).alloc (Nat.le_refl _) _
  have hr0a : (w.alloc (.cells #[.int .u64 0, .int .u64 0, .int .i64 0, .int .i64 0] 89)).rangeAt q 0 A := fun j v hj => (hBa.cell (p := ⟨q, 0 + j, none⟩) hql).trans (hr0 j v hj)
  have b1 := BlkIs.new (w.alloc (.cells #[.int .u64 0, .int .u64 0, .int .i64 0, .int .i64 0] 89)) 89 #[.int .u64 0, .int .u64 0, .int .i64 0, .int .i64 0]
  have b0 := (BlkIs.new w 89 #[.int .u64 0, .int .u64 0, .int .i64 0, .int .i64 0]).alloc (.cells #[.int .u64 0, .int .u64 0, .int .i64 0, .int .i64 0] 89)
  rw [World.size_alloc] at b1
  have hBb : Below w.heap.size w ((w.alloc (.cells #[.int .u64 0, .int .u64 0, .int .i64 0, .int .i64 0] 89)).alloc (.cells #[.int .u64 0, .int .u64 0, .int .i64 0, .int .i64 0] 89)) := hBa.alloc (by simp) _
  have HX := Lib.hid (rfl : (if a.s < b.s then B else A) = if a.s < b.s then B else A)
  obtain ⟨R, hR⟩ : ∃ R, R = if a.s < b.s then B else A := ⟨_, rfl⟩
  rw [← hR]
  have HR := Lib.hid hR
  have HCM := Lib.hid hcm
  have hAs : A.toArray.size = 4 := by simpa using hAl
  have hBs4 : B.toArray.size = 4 := by simpa using hBl
  clear hX hcm hA hBB hR HX
  go_enter Tryz.func78, Tryz.ntmps78
  go_wp2_with (first
    | (refine wp_exec rfl (x_loadM rowHead hr0a hAl rfl rfl) ?_)
    | (refine wp_storeW rfl 89 (.tmp 5) (.tmp 13) rfl (w.heap.size + 1) rfl rfl rowHead b1 rfl hAs hA1 ?_))
  have bS := b1.setRow A.toArray
  have bS0 := b0.setRow_ne (k := w.heap.size + 1) (by omega) A.toArray
  have hBs : Below w.heap.size w (((w.alloc (.cells #[.int .u64 0, .int .u64 0, .int .i64 0, .int .i64 0] 89)).alloc (.cells #[.int .u64 0, .int .u64 0, .int .i64 0, .int .i64 0] 89)).setRow (w.heap.size + 1) A.toArray) := below_setRow hBb (by omega) _
  generalize ((w.alloc (.cells #[.int .u64 0, .int .u64 0, .int .i64 0, .int .i64 0] 89)).alloc (.cells #[.int .u64 0, .int .u64 0, .int .i64 0, .int .i64 0] 89)).setRow (w.heap.size + 1) A.toArray = W1 at *
  clear hr0a b1 b0 hBa hBb hr0 hr hq
  go_loopw [6] (fun i wr => ((i = .int .i64 1 ∧ BlkIs wr (w.heap.size + 1) 89 A.toArray) ∨ (i = .int .i64 2 ∧ BlkIs wr (w.heap.size + 1) 89 R.toArray)) ∧ BlkIs wr w.heap.size 89 #[.int .u64 0, .int .u64 0, .int .i64 0, .int .i64 0] ∧ Below w.heap.size w wr) (fun i _ => 2 - (intOf i).toNat)
  case atStart => exact ⟨.inl ⟨rfl, bS⟩, bS0, hBs⟩
  case round =>
    obtain ⟨hi, c0, hB⟩ := hrel
    rcases hi with ⟨rfl, c1⟩ | ⟨rfl, c1⟩
    · have hr4' : ∀ W, Below wr.heap.size wr W → W.rangeAt q 4 B := fun W hW j v hj => ((hB.trans (hW.mono hB.size)).cell (p := ⟨q, 4 + j, none⟩) hql).trans (hr4 j v hj)
      have c1r : ∀ W, Below wr.heap.size wr W → W.rangeAt (w.heap.size + 1) 0 A := fun W hW j v hj => by
        rw [(c1.below hW c1.lt).cell, Nat.zero_add]
        simpa using hj
      go_wp2_with fail
      have hS0 : Below wr.heap.size wr wr.drew := (Below.refl _ _).drew
      refine RegF.start (fun W : World => Below wr.heap.size wr W) 99 (by kernel_rfl) ?_
      refine RegF.take0 0 (.func (.func 76) #[] #[]) rfl (by kernel_rfl) (by kernel_rfl) (by kernel_rfl) rfl (fun _ _ _ h => h) hS0 (RegF.yld rfl (fun W hW => by go_simp)) ?_
      simp only [List.getElem_toArray, List.getElem_cons_zero, Act.put, List.setIfInBounds_toArray, List.set_cons_zero, List.set_cons_succ]
      refine RegF.take0 1 (.slice (some ⟨q, 0, none⟩) 2 2) rfl (by kernel_rfl) (by kernel_rfl) (by kernel_rfl) rfl (fun _ _ _ h => h) hS0 (RegF.yld rfl (fun W hW => by go_simp)) ?_
      simp only [List.getElem_toArray, List.getElem_cons_succ, List.getElem_cons_zero, Act.put, List.setIfInBounds_toArray, List.set_cons_zero, List.set_cons_succ]
      refine RegF.take0 2 (.int .i64 1) rfl (by kernel_rfl) (by kernel_rfl) (by kernel_rfl) rfl (fun _ _ _ h => h) hS0 (RegF.yld rfl (fun W hW => by go_simp)) ?_
      simp only [List.getElem_toArray, List.getElem_cons_succ, List.getElem_cons_zero, Act.put, List.setIfInBounds_toArray, List.set_cons_zero, List.set_cons_succ]
      refine RegF.take0 3 (.pointer (some ⟨q, 4, none⟩)) rfl (by kernel_rfl) (by kernel_rfl) (by kernel_rfl) rfl (fun _ _ _ h => h) hS0 (RegF.yld rfl (fun W hW => by simp [execOp, go_sem, Act.eval])) ?_
      simp only [List.getElem_toArray, List.getElem_cons_succ, List.getElem_cons_zero, Act.put, List.setIfInBounds_toArray, List.set_cons_zero, List.set_cons_succ]
      refine RegF.take0 4 (.agg B.toArray) rfl (by kernel_rfl) (by kernel_rfl) (by kernel_rfl) rfl (fun _ _ _ h => h) hS0 (RegF.yld rfl (fun W hW => by exact x_loadM rowHead (hr4' W hW) hBl rfl rfl)) ?_
      simp only [List.getElem_toArray, List.getElem_cons_succ, List.getElem_cons_zero, Act.put, List.setIfInBounds_toArray, List.set_cons_zero, List.set_cons_succ]
      refine RegF.take0 5 (.agg A.toArray) rfl (by kernel_rfl) (by kernel_rfl) (by kernel_rfl) rfl (fun _ _ _ h => h) hS0 (RegF.yld rfl (fun W hW => by exact x_loadM rowHead (c1r W hW) hAl rfl rfl)) ?_
      simp only [List.getElem_toArray, List.getElem_cons_succ, List.getElem_cons_zero, Act.put, List.setIfInBounds_toArray, List.set_cons_zero, List.set_cons_succ]
      refine RegF.one 6 (by kernel_rfl) ?_
      refine RegF.opCT 76 (.tmp 20) #[.tmp 24, .tmp 25] #[89, 89] rfl rfl rfl rfl (enters_of Tryz.func76 (by kernel_rfl) rfl) #[.agg B.toArray, .agg A.toArray] (by simp only [List.map_toArray, List.map_cons, List.map_nil]; rfl) ((HC wr.drew).mono ?_)
      rintro e w2 ⟨rfl, hB2⟩
      have hB02 : Below wr.heap.size wr w2 := hS0.trans (hB2.mono (Nat.le_refl _))
      refine ⟨_, rfl, fun _ => hB02, ?_⟩
      simp only [List.getElem_toArray, List.getElem_cons_succ, List.getElem_cons_zero, Act.put, List.setIfInBounds_toArray, List.set_cons_zero, List.set_cons_succ]
      refine RegF.one 7 (by kernel_rfl) (RegF.opV (w' := w2) (.bool (decide (0 < cm))) rfl rfl (by go_simp) ⟨fun _ => hB02, RegF.done (by kernel_rfl) ?_⟩)
      simp only [List.getElem_toArray, List.getElem_cons_succ, List.getElem_cons_zero, Act.put, List.setIfInBounds_toArray, List.set_cons_zero, List.set_cons_succ]
      have hr42 := hr4' w2 hB02
      have d0 := c0.below hB02 c0.lt
      have d1 := c1.below hB02 c1.lt
      have hBf := hB.trans (hB02.mono hB.size)
      have hcm := HCM.out
      have hR := HR.out
      clear hr4 hr4' c1r HC
      by_cases hlt : a.s < b.s
      · rw [if_pos hlt] at hR
        subst hR
        have h1 : decide (0 < cm) = true := by rw [hcm]; exact decide_eq_true hlt
        have h2 : 0 < cm := of_decide_eq_true h1
        clear h1 hcm hlt HR HCM
        go_wp2_with (first
          | (refine wp_exec rfl (x_loadM rowHead hr42 hBl rfl rfl) ?_)
          | (refine wp_storeW rfl 89 (.tmp 5) (.tmp 31) rfl (w.heap.size + 1) rfl rfl rowHead d1 hAs (by rw [hBs4, hAs]) hB1 ?_))
        go_roundw
        case rel => exact ⟨.inr ⟨rfl, d1.setRow _⟩, d0.setRow_ne (k := w.heap.size + 1) (by omega) _, below_setRow hBf (by omega) _⟩
        case measure => simp [intOf]
      · rw [if_neg hlt] at hR
        subst hR
        have h1 : decide (0 < cm) = false := by rw [hcm]; exact decide_eq_false hlt
        have h2 : ¬ 0 < cm := of_decide_eq_false h1
        clear h1 hcm hlt HR HCM
        go_wp2
        go_roundw
        case rel => exact ⟨.inr ⟨rfl, d1⟩, d0, hBf⟩
        case measure => simp [intOf]
    · have hRl : R.toArray.size = 4 := by rw [HR.out]; split; exact hBs4; exact hAs
      have hR1 : ∀ v ∈ R.toArray.toList, v.oneCell' = true := by rw [HR.out]; split; exact hB1; exact hA1
      clear hr4 HC
      go_wp2_with (first
        | (refine wp_loadW rfl 89 (.tmp 5) rfl (w.heap.size + 1) rfl rowHead c1 hRl ?_)
        | (refine wp_storeW rfl 89 (.tmp 4) (.tmp 32) rfl w.heap.size rfl rfl rowHead c0 rfl hRl hR1 ?_))
      refine bodyPost_ret_by (results_cellW 4 rfl rfl rowHead (c0.setRow _) hRl) rfl ⟨rfl, below_setRow hB (Nat.le_refl _) _⟩
end Go.Proofs.YtocnabpplbeafaaGreat
