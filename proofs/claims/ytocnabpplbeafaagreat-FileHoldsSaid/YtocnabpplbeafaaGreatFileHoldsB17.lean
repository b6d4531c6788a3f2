/- Texts that the proof of FileHolds leans on, part 17. -/
import Derived.BigQuiet
import Derived.Test.YtocnabpplbeafaaGreatFileHoldsB16
/- loupelaw07.told. -/
namespace Go.Proofs.YtocnabpplbeafaaGreat
open Go Go.RowKit Lou

/-- What told tells of the first k pages. -/
def toldF (Y : Nat → List UInt8) (sz : Int) : Nat → List UInt8
  | 0 => [lowB sz]
  | k + 1 => toldF Y sz k ++ Y k
theorem toldF_len {Y : Nat → List UInt8} (hY : ∀ k, (Y k).length = 512) (sz : Int) : ∀ k, (toldF Y sz k).length = 1 + 512 * k
  | 0 => rfl
  | k + 1 => by
    have := toldF_len hY sz k
    unfold toldF
    rw [List.length_append, hY, this]
    omega
theorem fpY_len {G : Nat → List UInt8} (hG : ∀ k, (G k).length = 64) {S : LgS} (hy : ∀ x ∈ S.fs, x.y.length = 512) (at_ p : Nat) : (fpY G at_ S p).length = 512 := by
  unfold fpY
  cases h : pgY S.fs (p : Int) with
  | none => exact secsOf_length hG at_ 8
  | some y =>
    obtain ⟨x, hx, rfl⟩ := pgY_mem h
    exact hy x hx
/-- The pages that a file tells. -/
def fileY (G : Nat → List UInt8) (fr : Int) (S : LgS) (p : Nat) : List UInt8 := fpY G (2 + 9 * fr.toNat + 8 * p) S p
set_option maxRecDepth 100000 in
set_option maxHeartbeats 4000000 in
theorem told7_gives (w : World) (f l d many : Nat) (fr pg : Int) (s : DS) (S : LgS) (hb : BlkIs w f 121 (flFC l fr pg)) (hL : LogIs w l d fr pg S) (hD : DkS w d many s) (hst : s.stopped = false) (hxl : s.xs.length ≤ 1000000) (hn : S.fs.length ≤ 2000) (hy : ∀ x ∈ S.fs, x.y.length = 512) (hpl : planOk fr pg = true) (hmany : (many : Int) = 2 + 9 * fr + 8 * pg) (hmax : many ≤ 1000000) (P : Nat) (hP : (P : Int) = pg) (hP2 : P ≤ 1000) :
    Calls Tryz.prog 33 #[.pointer (some ⟨f, 0, none⟩), .int .i64 (P : Int)] w fun e w' => e = .returned (.string (str (toldF (fileY (laid s.g s.xs) fr S) S.sz P))) ∧ Below w.heap.size w w' := by
  have hpr := (planOk_iff fr pg).1 hpl
  have HSZ := fsize_gives hb hL
  have hG := laid_long hD
  have HLEN := toldF_len (Y := fileY (laid s.g s.xs) fr S) (fun k => fpY_len hG hy _ _) S.sz
  have hPL : ∀ k, (fileY (laid s.g s.xs) fr S k).length = 512 := fun k => fpY_len hG hy _ _
  have HPG : ∀ W (p : Nat), p < P → Below w.heap.size w W → Calls Tryz.prog 66 #[.pointer (some ⟨f, 0, none⟩), .int .i64 (p : Int)] W fun e w' => ∃ A c, e = .returned (.tuple #[.slice A 512 c, .int .i64 0]) ∧ InB w' w'.heap.size A c (fileY (laid s.g s.xs) fr S p) ∧ Below W.heap.size W w' := fun W p hp hB =>
    fread_gives W f l d many fr pg s S (hb.below hB hb.lt) (hL.grow hB) (hD.grow hB) hst hxl hn hy hpl hmany hmax p (by omega) _ (by omega)
  have hnx : ∀ k : Nat, toldF (fileY (laid s.g s.xs) fr S) S.sz (k + 1) = toldF (fileY (laid s.g s.xs) fr S) S.sz k ++ fileY (laid s.g s.xs) fr S k := fun k => rfl
  have h0 : toldF (fileY (laid s.g s.xs) fr S) S.sz 0 = [lowB S.sz] := rfl
  generalize toldF (fileY (laid s.g s.xs) fr S) S.sz = T at *
  generalize fileY (laid s.g s.xs) fr S = Y at *
  clear hL hy hn hb hG hD hst hxl hpl hmany hmax hP hpr
  have hB1 : Below w.heap.size w (w.alloc (.cells #[.int .u8 ((lowB S.sz).toNat : Int)] 5)) := (Below.refl _ _).alloc (Nat.le_refl _) _
  have H0 := Lib.hid h0
  have HL := Lib.hid HLEN
  have HN := Lib.hid hnx
  have HPL := Lib.hid hPL
  clear h0 HLEN hnx hPL
  go_enter Tryz.func33, Tryz.ntmps33
  go_wp2_with (first
    | (go_at_call 67; refine HSZ.mono ?_; rintro e w' ⟨rfl, rfl⟩)
    | (refine wp_exec rfl (x_toU8 rfl rfl) ?_)
    | (refine wp_exec rfl (x_bStr (BlkIs.new _ _ _) rfl rfl) ?_))
  go_loopw [6, 5] (fun i v wr => ∃ k : Nat, k ≤ P ∧ i = .int .i64 (k : Int) ∧ v = .string (str (T k)) ∧ Below w.heap.size w wr) (fun i _ _ => P - (intOf i).toNat)
  case atStart => exact ⟨0, by omega, rfl, by rw [H0.out], hB1⟩
  case round =>
    clear hB1 HSZ
    obtain ⟨k, hk, rfl, rfl, hB⟩ := hrel
    by_cases hlt : k < P
    · have HPk := HPG wr k hlt hB
      have hNk := HN.out k
      have hlk := HL.out k
      have hwk : IntKind.i64.wrap ((k : Int) + 1) = (k : Int) + 1 := wrap_i64_fr _ (by omega) (by omega)
      have h512 := HPL.out k
      generalize Y k = y at HPk hNk h512
      clear HPG
      generalize T k = tk at *
      generalize hT2 : T (k + 1) = tk2 at *
      have HT2 := Lib.hid hT2
      have HNK := Lib.hid hNk
      have H512 := Lib.hid h512
      have HLK := Lib.hid hlk
      clear hT2 hNk h512 hlk
      go_wp2_with (first
        | (go_at_call 66; refine HPk.mono ?_; rintro e w2 ⟨A2, c2, rfl, hin2, hB2⟩)
        | (go_at_call 30; refine (num7_gives _ _).mono ?_; rintro e w' ⟨rfl, rfl⟩)
        | (refine wp_exec rfl (x_sStr hin2 H512.out rfl rfl) ?_)
        | (refine wp_exec rfl (x_addS (a := tk) (b := y) rfl rfl rfl (by have := HLK.out; have := H512.out; simp; omega) Tryz.underlying9) ?_))
      exact ⟨⟨k + 1, by omega, by simp, by rw [HT2.out, HNK.out], hB.trans (hB2.mono hB.size)⟩, by simp [intOf]; omega⟩
    · have hkn : k = P := by omega
      subst hkn
      clear HPG
      go_wp2
      go_ret
      exact ⟨rfl, hB⟩
end Go.Proofs.YtocnabpplbeafaaGreat
/- file: what lay writes, in plain words. -/
namespace Go.Proofs.YtocnabpplbeafaaGreat
open Go Go.RowKit Lou

/-- What lay writes of a page; of the first k pages. -/
def pageW (fr : Int) (S : LgS) (p : Nat) : List (Nat × List UInt8) := match pgY S.fs (p : Int) with | some y => wrL (2 + 9 * fr.toNat + 8 * p) y 8 | none => []
def layW (fr : Int) (S : LgS) : Nat → List (Nat × List UInt8)
  | 0 => []
  | k + 1 => layW fr S k ++ pageW fr S k
theorem pageW_first {fr : Int} {S : LgS} {p : Nat} {x : Nat × List UInt8} (h : x ∈ pageW fr S p) : 2 + 9 * fr.toNat + 8 * p ≤ x.1 ∧ x.1 < 2 + 9 * fr.toNat + 8 * p + 8 := by
  unfold pageW at h
  split at h
  · exact wrL_first h
  · cases h
theorem layW_first {fr : Int} {S : LgS} : ∀ {k : Nat} {x : Nat × List UInt8}, x ∈ layW fr S k → 2 + 9 * fr.toNat ≤ x.1 ∧ x.1 < 2 + 9 * fr.toNat + 8 * k
  | 0, x, h => by cases h
  | k + 1, x, h => by
    rcases List.mem_append.1 h with h | h
    · have := layW_first h
      omega
    · have := pageW_first h
      omega
/-- Behind lay, the sectors tell what the file told. -/
theorem layW_tells {G : Nat → List UInt8} {fr : Int} {S : LgS} (hy : ∀ x ∈ S.fs, x.y.length = 512) : ∀ (k p : Nat), p < k → secsOf (laid G (layW fr S k)) (2 + 9 * fr.toNat + 8 * p) 8 = fileY G fr S p
  | k + 1, p, hp => by
    show secsOf (laid G (layW fr S k ++ pageW fr S k)) _ 8 = _
    rw [laid_app]
    by_cases hpk : p < k
    · rw [← layW_tells hy k p hpk]
      exact secsOf_away _ 8 (fun q h1 h2 => laid_away _ _ q (fun x hx => by have := pageW_first hx; omega))
    · obtain rfl : p = k := by omega
      unfold fileY fpY pageW
      cases h : pgY S.fs (p : Int) with
      | none =>
        show secsOf (laid G (layW fr S p)) _ 8 = secsOf G _ 8
        exact secsOf_away _ 8 (fun q h1 h2 => laid_away _ _ q (fun x hx => by have := layW_first hx; omega))
      | some y =>
        obtain ⟨x, hx, rfl⟩ := pgY_mem h
        have hl := hy x hx
        show secsOf (laid (laid G (layW fr S p)) (wrL (2 + 9 * fr.toNat + 8 * p) x.y 8)) _ 8 = x.y
        rw [secsOf_wrL _ _ x.y 8 (by omega), List.take_of_length_le (by omega)]
/-- So does the file, whether its log is emptied or not. -/
theorem fileY_laid {G : Nat → List UInt8} {fr : Int} {S : LgS} (hy : ∀ x ∈ S.fs, x.y.length = 512) {k p : Nat} (hp : p < k) : fileY (laid G (layW fr S k)) fr S p = fileY G fr S p := by
  have h := layW_tells (G := G) (fr := fr) hy k p hp
  unfold fileY fpY at h ⊢
  cases hq : pgY S.fs (p : Int) with
  | none => rw [hq] at h; exact h
  | some y => rfl
theorem fileY_empty {G : Nat → List UInt8} {fr : Int} {S S' : LgS} (hy : ∀ x ∈ S.fs, x.y.length = 512) (hS : S'.fs = []) {k p : Nat} (hp : p < k) : fileY (laid G (layW fr S k)) fr S' p = fileY G fr S p := by
  have h := layW_tells (G := G) (fr := fr) hy k p hp
  unfold fileY at h ⊢
  unfold fpY at h ⊢
  rw [hS]
  exact h
/-- Pages' sectors lie behind the log's. -/
theorem LI.layW {G : Nat → List UInt8} {S : LgS} {hz : Nat} (h : LI G S hz) {fr : Int} (hfs : (S.fs.length : Int) ≤ fr) {xs : List (Nat × List UInt8)} {k : Nat} (hx : ∀ x ∈ xs, x ∈ layW fr S k) (hl : ∀ q, (laid G xs q).length = 64) : LI (laid G xs) S hz :=
  h.away (fun q hq => laid_away _ _ q (fun x hx2 => by have := layW_first (hx x hx2); omega)) hl
end Go.Proofs.YtocnabpplbeafaaGreat
/- file: lay: the log's pages are written to their sectors, whatever stop is set. -/
namespace Go.Proofs.YtocnabpplbeafaaGreat
open Go Go.RowKit Lou Go.Shelf
attribute [local go_sem] Oper.semAt_some

theorem LogIs.turn {w w' : World} {l d : Nat} {fr pg : Int} {S : LgS} (h : LogIs w l d fr pg S) (hg : w.grownBy w' (some d)) : LogIs w' l d fr pg S := by
  obtain ⟨hld, A, c, vs, hlg, hF, hvs⟩ := h
  have hG : GrowBut (fun k => k = d) w w' := GrowBut.grown hg (fun r e => by injection e with e; exact .inl e.symm)
  exact ⟨hld, A, c, vs, hG.blk hlg hld, hF.keep hG (fun k h _ => .inl h), hvs⟩
theorem layW_length {fr : Int} {S : LgS} : ∀ P, (layW fr S P).length ≤ 8 * P
  | 0 => Nat.le_refl 0
  | P + 1 => by
    have := layW_length (fr := fr) (S := S) P
    unfold layW
    rw [List.length_append]
    unfold pageW
    split
    · rw [wrL_length]; omega
    · simp; omega
theorem pageW_wrL (fr : Int) (S : LgS) (hy : ∀ x ∈ S.fs, x.y.length = 512) (p : Nat) : pageW fr S p = wrL (2 + 9 * fr.toNat + 8 * p) ((pgY S.fs (p : Int)).getD []) (((pgY S.fs (p : Int)).getD []).length / 64) := by
  unfold pageW
  cases h : pgY S.fs (p : Int) with
  | none => rfl
  | some y =>
    obtain ⟨x, hx, rfl⟩ := pgY_mem h
    have := hy x hx
    show wrL _ x.y 8 = wrL _ x.y (x.y.length / 64)
    rw [this]
/-- The slots of lay, ahead of a round. -/
abbrev actL (f l d h r : Nat) (pg : Int) (k : Value) (ds : List Deferred) (u5 u6 u7 u8 u9 u10 u24 u25 u26 u27 u28 u29 u30 u31 u32 u33 u34 u35 u36 u37 u38 u39 u40 u41 u42 u43 u44 u45 u46 u47 u48 u49 u50 : Value) : Act := { tmps := #[.pointer (some ⟨f, 0, none⟩), undef, .pointer (some ⟨h, 0, none⟩), .pointer (some ⟨(h + 1), 0, none⟩), .map (some r), u5, u6, u7, u8, u9, u10, .pointer (some ⟨f, 0, none⟩), .pointer (some ⟨f, 0, none⟩), .pointer (some ⟨f, 0, none⟩), .pointer (some ⟨l, 0, none⟩), .pointer (some ⟨d, 0, none⟩), .pointer (some ⟨f, 0, none⟩), .map (some r), .pointer (some ⟨f, 0, none⟩), .pointer (some ⟨f, 0, none⟩), .pointer (some ⟨f, 1, none⟩), .pointer (some ⟨f, 2, none⟩), .int .i64 pg, k, u24, u25, u26, u27, u28, u29, u30, u31, u32, u33, u34, u35, u36, u37, u38, u39, u40, u41, u42, u43, u44, u45, u46, u47, u48, u49, u50], defers := ds }
/-- What lies there while pages are laid. -/
structure LayI (w : World) (f l d h r B : Nat) (fr pg : Int) (fm : Int → Option Value) (Y : Int → Option (List UInt8)) (es : Array MapEntry) (clock : Nat) (e : Int) (Ds : List Nat) (V : World) : Prop where
  er : BlkIs V h 29 #[.int .i64 e]
  dp : BlkIs V (h + 1) 28 #[.pointer (some ⟨d, 0, none⟩)]
  mp : MapIs V r es clock
  pgs : PgIs V fm Y
  fl : BlkIs V f 121 (flFC l fr pg)
  nd : Ds.Nodup
  mks : ∀ D ∈ Ds, B ≤ D ∧ V.heap[D]? = some (.deferred (some []))
  gr : w.grownBy V (some d)
  sz : B ≤ V.heap.size
theorem LayI.abSm {w V Z : World} {f l d h r B B2 : Nat} {fr pg : Int} {fm : Int → Option Value} {Y : Int → Option (List UInt8)} {es : Array MapEntry} {clock : Nat} {e : Int} {Ds : List Nat} {row : Option Nat} (i : LayI w f l d h r B fr pg fm Y es clock e Ds V) (hh : h + 1 < B2) (hf : f < B2) (hr : r < B2) (hD : ∀ D ∈ Ds, D < B2) (hw : w.heap.size ≤ B2) (hg : V.grownBy Z row) (hrow : ∀ r, row = some r → B2 ≤ r ∧ ∃ o : Obj, V.heap[r]? = some o ∧ Small o) : LayI w f l d h r B fr pg fm Y es clock e Ds Z := by
  have hr1 : ∀ r, row = some r → B2 ≤ r := fun r e => (hrow r e).1
  refine ⟨i.er.abN (B := B2) (by omega) hg hr1, i.dp.abN (B := B2) hh hg hr1, i.mp.abSm hr hg hr1, fun k => ?_, i.fl.abN (B := B2) hf hg hr1, i.nd, fun D hd => ⟨(i.mks D hd).1, ?_⟩, grownBy_rest i.gr hg (by omega) hr1, Nat.le_trans i.sz hg.size⟩
  · rcases i.pgs k with h1 | ⟨A, c, y, h2, h3, h4, h5⟩
    · exact .inl h1
    · exact .inr ⟨A, c, y, h2, h3, h4, (h5.abSm (by omega) hg (fun r e => (hrow r e).2)).more hg.size⟩
  · have h1 := (i.mks D hd).2
    exact (hg.block D (Array.getElem?_eq_some_iff.1 h1).1 (fun e => by have := hr1 D e.symm; have := hD D hd; omega)).trans h1
theorem LayI.turned {w V Z : World} {f l d h r B many : Nat} {s : DS} {fr pg : Int} {fm : Int → Option Value} {Y : Int → Option (List UInt8)} {es : Array MapEntry} {clock : Nat} {e : Int} {Ds : List Nat} (i : LayI w f l d h r B fr pg fm Y es clock e Ds V) (hD : DkS V d many s) (hd : d < h) (hdB : d < B) (hfd : f ≠ d) (hg : V.grownBy Z (some d)) : LayI w f l d h r B fr pg fm Y es clock e Ds Z := by
  have hG : GrowBut (fun k => k = d) V Z := GrowBut.grown hg (fun r e => by injection e with e; exact .inl e.symm)
  obtain ⟨rr, A', c', hdk, _⟩ := DkIs.has hD
  refine ⟨hG.blk i.er (by omega), hG.blk i.dp (by omega), ?_, fun k => ?_, hG.blk i.fl hfd, i.nd, fun D hd => ⟨(i.mks D hd).1, ?_⟩, i.gr.trans hg, Nat.le_trans i.sz hg.size⟩
  · refine i.mp.grown hg (fun e => ?_)
    injection e with e
    subst e
    have h1 : V.heap[r]? = some (.map es clock) := i.mp
    have h2 : V.heap[r]? = some (.cells _ _ (0, 0)) := hdk
    rw [h1] at h2
    cases h2
  · rcases i.pgs k with h1 | ⟨A, c, y, h2, h3, h4, h5⟩
    · exact .inl h1
    · exact .inr ⟨A, c, y, h2, h3, h4, hG.inB h5 (fun g o e h0 => by subst e; exact h5.notDisk h0 hdk)⟩
  · have h1 := (i.mks D hd).2
    have := (i.mks D hd).1
    exact (hg.block D (Array.getElem?_eq_some_iff.1 h1).1 (fun e => by injection e with e; omega)).trans h1
theorem layW_stop {fr : Int} {S : LgS} {s : DS} {k : Nat} (h : ¬ (wrs s (layW fr S k)).2 = 0) : ∀ j, wrs s (layW fr S (k + j)) = wrs s (layW fr S k)
  | 0 => rfl
  | j + 1 => by
    have ih := layW_stop h j
    show wrs s (layW fr S (k + j) ++ pageW fr S (k + j)) = _
    rw [wrs_append, ih, if_neg h]
theorem x_lookupG {ρ : Operand → Value} {w : World} {o : Oper} {x y : Operand} {r clock : Nat} {k : Int} {es : Array MapEntry} {f : Int → Option Value} {v : Value} (he : EnV es f) (hm : MapIs w r es clock) (hf : (f k).getD (.slice none 0 0) = v) (ho : o.op = .lookup 115 x y false) (h1 : ρ x = .map (some r)) (h2 : ρ y = .int .i64 k) : (execOp ρ o).run Tryz.prog w = .ok (.value v) w := by
  have := x_lookupF he hm ho h1 h2
  rw [hf] at this
  exact this
/-- How far lay has come. -/
def LayRel (w : World) (f l d many h r B P : Nat) (fr pg : Int) (fm : Int → Option Value) (es : Array MapEntry) (clock : Nat) (s : DS) (S : LgS) (k : Nat) (Ds : List Nat) (V : World) : Prop :=
  k ≤ P ∧ (∃ s' : DS, DkS V d many s' ∧ s'.Ok ∧ s'.xs.length ≤ s.xs.length + 8 * k ∧ wrs s (layW fr S k) = (s', 0)) ∧ LayI w f l d h r B fr pg fm (pgY S.fs) es clock 0 Ds V
def LayInv (w : World) (f l d many h r B P : Nat) (fr pg : Int) (fm : Int → Option Value) (es : Array MapEntry) (clock : Nat) (s : DS) (S : LgS) (a : Act) (V : World) : Prop :=
  ∃ (k : Nat) (Ds : List Nat) (u5 u6 u7 u8 u9 u10 u24 u25 u26 u27 u28 u29 u30 u31 u32 u33 u34 u35 u36 u37 u38 u39 u40 u41 u42 u43 u44 u45 u46 u47 u48 u49 u50 : Value), a = actL f l d h r pg (.int .i64 (k : Int)) (marksD Ds) u5 u6 u7 u8 u9 u10 u24 u25 u26 u27 u28 u29 u30 u31 u32 u33 u34 u35 u36 u37 u38 u39 u40 u41 u42 u43 u44 u45 u46 u47 u48 u49 u50 ∧ LayRel w f l d many h r B P fr pg fm es clock s S k Ds V
theorem LayI.setEr {w V : World} {f l d h r B : Nat} {fr pg : Int} {fm : Int → Option Value} {Y : Int → Option (List UInt8)} {es : Array MapEntry} {clock : Nat} {e1 : Int} {Ds : List Nat} (i : LayI w f l d h r B fr pg fm Y es clock e1 Ds V) (hw : w.heap.size ≤ h) (hf : f < h) (hB : h < B) (e2 : Int) : LayI w f l d h r B fr pg fm Y es clock e2 Ds (V.setCell ⟨h, 0, none⟩ (.int .i64 e2)) := by
  have g := setCell_grown V ⟨h, 0, none⟩ (.int .i64 e2)
  refine ⟨i.er.set 0 _, i.dp.grown g (fun e => by injection e with e; simp only at e; omega), i.mp.grown g (fun e => ?_), fun k => ?_, i.fl.grown g (fun e => by injection e with e; simp only at e; omega), i.nd, fun D hd => ⟨(i.mks D hd).1, ?_⟩, grownBy_rest i.gr g (Nat.le_refl _) (fun r e => by injection e with e; subst e; exact hw), Nat.le_trans i.sz g.size⟩
  · injection e with e
    simp only at e
    have h1 : V.heap[r]? = some (.map es clock) := i.mp
    have h2 : V.heap[h]? = some (.cells #[.int .i64 e1] 29 (0, 0)) := i.er
    rw [← e, h1] at h2
    cases h2
  · rcases i.pgs k with h1 | ⟨A, c, y, h2, h3, h4, h5⟩
    · exact .inl h1
    · exact .inr ⟨A, c, y, h2, h3, h4, (h5.abSm (by omega) g (fun r e => by injection e with e; subst e; exact ⟨_, i.er, by show 1 ≤ 64; decide, rfl⟩)).more g.size⟩
  · have h1 := (i.mks D hd).2
    have := (i.mks D hd).1
    exact (g.block D (Array.getElem?_eq_some_iff.1 h1).1 (fun e => by injection e with e; simp only at e; omega)).trans h1
/-- The way out: whatever marks there are, the result stands in its cell. -/
theorem lay_leaves {w V : World} {f l d many h r B : Nat} {fr pg : Int} {fm : Int → Option Value} {Y : Int → Option (List UInt8)} {es : Array MapEntry} {clock : Nat} {e : Int} {Ds : List Nat} {n : Nat} {tmps : Array Value} {s : DS} (i : LayI w f l d h r B fr pg fm Y es clock e Ds V) (hD : DkS V d many s) (hd : d < B) (hh : h < B) (hw : w.heap.size ≤ B) (ht : tmps.getD 2 undef = .pointer (some ⟨h, 0, none⟩)) :
    LeavesInM Fence.wide n Tryz.prog Tryz.f71 tmps (fun x w' => x = .returned (.int .i64 e) ∧ DkS w' d many s ∧ w.grownBy w' (some d)) (marksD Ds) .returning V := by
  refine leaves_marks (fun V => BlkIs V h 29 #[.int .i64 e] ∧ DkS V d many s ∧ w.grownBy V (some d)) Ds V i.nd (fun D h => (i.mks D h).2) (fun D hDs U hU hK => ?_) ⟨i.er, hD, i.gr⟩ (fun w' hw' => ?_)
  · obtain ⟨k1, k2, k3⟩ := hU
    have hDB := (i.mks D hDs).1
    have g2 := grownBy_putObj' U D (.deferred none)
    exact ⟨(putObj_oth U D (.deferred none) (g := h) (by omega)).trans k1, DkIs.abSm (B := B) hd k2 g2 (fun r e => by injection e with e; subst e; exact ⟨hDB, _, hK, trivial⟩), grownBy_rest k3 g2 (Nat.le_refl _) (fun r e => by injection e with e; omega)⟩
  · obtain ⟨k1, k2, k3⟩ := hw'
    exact ⟨.int .i64 e, results_cellQ (a := { tmps := tmps, defers := [] }) (p := ⟨h, 0, none⟩) 2 rfl ht (by simp [go_sem]) k1.boxed, rfl, k2, k3⟩
set_option maxRecDepth 100000 in
set_option maxHeartbeats 16000000 in
theorem lay7_in (n : Nat) (hn : 10 ≤ n) (w : World) (f l d many : Nat) (fr pg : Int) (s : DS) (S : LgS) (hb : BlkIs w f 121 (flFC l fr pg)) (hL : LogIs w l d fr pg S) (hD : DkS w d many s) (hO : s.Ok) (hl : s.xs.length ≤ 500000) (hn2 : S.fs.length ≤ 2000) (hy : ∀ x ∈ S.fs, x.y.length = 512) (hpl : planOk fr pg = true) (hmany : (many : Int) = 2 + 9 * fr + 8 * pg) (hmax : many ≤ 100000) (P : Nat) (hP : (P : Int) = pg) (hP2 : P ≤ 1000) (hYb : ∀ k y, pgY S.fs k = some y → 0 ≤ k ∧ k < (P : Int)) :
    CallsIn Fence.wide n Tryz.prog 71 #[.pointer (some ⟨f, 0, none⟩)] w fun e w' => e = .returned (.int .i64 (wrs s (layW fr S P)).2) ∧ DkS w' d many (wrs s (layW fr S P)).1 ∧ w.grownBy w' (some d) := by
  have h1 : 1 ≤ n := by omega
  have hpr := (planOk_iff fr pg).1 hpl
  have hfl := hb.lt
  obtain ⟨W1, hW1⟩ : ∃ W1, W1 = (w.alloc (.cells #[.int .i64 0] 29)) := ⟨_, rfl⟩
  obtain ⟨W2, hW2⟩ : ∃ W2, W2 = (W1.alloc (.cells #[.pointer (some ⟨d, 0, none⟩)] 28)) := ⟨_, rfl⟩
  have hB1 : Below w.heap.size w W1 := by rw [hW1]; exact (Below.refl _ w).alloc (Nat.le_refl _) _
  have hB2 : Below w.heap.size w W2 := by rw [hW2]; exact hB1.alloc hB1.size _
  have s1 : W1.heap.size = w.heap.size + 1 := by rw [hW1]; simp
  have s2 : W2.heap.size = w.heap.size + 1 + 1 := by rw [hW2]; simp [s1]
  have be2 : BlkIs W2 w.heap.size 29 #[.int .i64 0] := by rw [hW2, hW1]; exact (BlkIs.new w _ _).alloc _
  have bd2 : BlkIs W2 (w.heap.size + 1) 28 #[.pointer (some ⟨d, 0, none⟩)] := by
    have := BlkIs.new W1 28 #[.pointer (some ⟨d, 0, none⟩)]
    rw [s1] at this
    rw [hW2]
    exact this
  have HDK : Calls Tryz.prog 21 #[.pointer (some ⟨l, 0, none⟩)] W1 fun e w' => e = .returned (.pointer (some ⟨d, 0, none⟩)) ∧ W1 = w' := by
    obtain ⟨_, A, c, vs, hlg, _, _⟩ := hL.grow hB1
    exact ldisk_gives hlg
  have HPS := pages7_in (n - 1) (by omega) W2 f l d fr pg S (hb.below hB2 hfl) (hL.grow hB2) hn2 hy P (by omega) hYb
  have c0 : W1.cell? ⟨f, 0, none⟩ = some (.pointer (some ⟨l, 0, none⟩)) := by rw [(hb.below hB1 hfl).cell]; rfl
  rw [hW1] at c0
  refine callsIn_of_wp_marks Tryz.func71 rfl trivial ?_ rfl
  simp only [Tryz.ntmps71, List.size_toArray, List.length_cons, List.length_nil, Nat.reduceAdd, Nat.reduceSub, Array.replicate_succ, Array.replicate_zero, List.push_toArray, List.append_toArray, List.nil_append, List.cons_append]
  have HW1 := Lib.hid hW1
  have HW2 := Lib.hid hW2
  have HS1 := Lib.hid s1
  clear hW1 hW2 s1
  gi_wp2_with (first
    | (refine ⟨trivial, ?_⟩; gi_at_call 21; rw [← HW1.out]; refine (callsIn_wide.2 HDK).mono ?_; rintro e w' ⟨rfl, rfl⟩)
    | (refine ⟨trivial, ?_⟩; gi_at_call 102; rw [← HW2.out]; refine HPS.mono ?_; rintro e W4 ⟨r, es, clock, fm, rfl, hm, he, hPg, hB4⟩; have hBw : Below w.heap.size w W4 := hB2.trans (hB4.mono hB2.size); have c2 : W4.cell? ⟨f, 2, none⟩ = some (.int .i64 pg) := (by rw [(hb.below hBw hfl).cell]; rfl)))
  rw [HS1.out]
  have hdl := hD.lt
  have hfd : f ≠ d := by
    obtain ⟨rr, A', c', hdk, _⟩ := DkIs.has hD
    exact BlkIs.ne_type hb hdk (by decide)
  have hD4 := hD.grow hBw
  have i0 : LayI w f l d w.heap.size r W4.heap.size fr pg fm (pgY S.fs) es clock 0 [] W4 :=
    ⟨be2.below hB4 be2.lt, bd2.below hB4 bd2.lt, hm, hPg, hb.below hBw hfl, List.nodup_nil, (fun D h => by cases h), ⟨hBw.os, hBw.tape, hBw.output, hBw.size, fun k hk _ => hBw.block k hk⟩, Nat.le_refl _⟩
  have s4 : w.heap.size + 2 ≤ W4.heap.size := by have := hB4.size; omega
  have hrl := hm.lt
  clear c0 c2 be2 bd2 HDK HPS HW1 HW2 HS1 hB1 hB2 hB4 hm hPg hD hb hL hn2
  refine wpIn_loop (LayInv w f l d many w.heap.size r W4.heap.size P fr pg fm es clock s S) (fun a _ => P - (intOf (a.tmps.getD 23 undef)).toNat) ⟨0, [], _, _, _, _, _, _, _, _, _, _, _, _, _, _, _, _, _, _, _, _, _, _, _, _, _, _, _, _, _, _, _, _, _, rfl, Nat.zero_le _, ⟨s, hD4, hO, Nat.le_add_right _ _, rfl⟩, i0⟩ ?_
  rintro a V ⟨k, Ds, u5, u6, u7, u8, u9, u10, u24, u25, u26, u27, u28, u29, u30, u31, u32, u33, u34, u35, u36, u37, u38, u39, u40, u41, u42, u43, u44, u45, u46, u47, u48, u49, u50, rfl, hk, ⟨s1, hD1, hO1, hl1, hw1⟩, i1⟩
  clear i0 hD4 hO hBw
  by_cases hlt : k < P
  · obtain ⟨at_, hat⟩ : ∃ at_, at_ = 2 + 9 * fr.toNat + 8 * k := ⟨_, rfl⟩
    have hati : (at_ : Int) = 2 + 9 * fr + 8 * (k : Int) := by omega
    have HA := pageAt_gives (fr := fr) (pg := pg) (n := (k : Int)) V
    have hp0 : plE (planOk fr pg) (k : Int) pg = 0 := by rw [hpl]; simp [plE]; omega
    unfold atV at HA
    rw [hp0, if_pos rfl, ← hati] at HA
    have hpl2 : V.rangeAt f 1 [.int .i64 fr, .int .i64 pg] := fun j v hj => by
      rw [i1.fl.cell]
      match j, hj with
      | 0, hj => exact hj
      | 1, hj => exact hj
      | j + 2, hj => exact absurd hj (by simp)
    have hnx : wrs s (layW fr S (k + 1)) = wrs s1 (wrL at_ ((pgY S.fs (k : Int)).getD []) (((pgY S.fs (k : Int)).getD []).length / 64)) := by
      show wrs s (layW fr S k ++ pageW fr S k) = _
      rw [wrs_append, hw1, if_pos rfl, pageW_wrL fr S hy k, hat]
    obtain ⟨Ab, cb, b, hval, hbY, hin, hb64, hb512⟩ : ∃ A c b, (fm (k : Int)).getD (.slice none 0 0) = .slice A b.length c ∧ (pgY S.fs (k : Int)).getD [] = b ∧ InB V V.heap.size A c b ∧ b.length = 64 * (b.length / 64) ∧ b.length ≤ 512 := by
      rcases i1.pgs (k : Int) with ⟨h2, h3⟩ | ⟨A, c, y, h2, h3, h4, h5⟩
      · exact ⟨none, 0, [], by rw [h2]; rfl, by rw [h3]; rfl, InB.mt _ _, rfl, Nat.zero_le _⟩
      · exact ⟨A, c, y, by rw [h2, h4]; rfl, by rw [h3]; rfl, h5, by omega, by omega⟩
    rw [hbY] at hnx
    obtain ⟨m, hm⟩ : ∃ m, m = b.length / 64 := ⟨_, rfl⟩
    rw [← hm] at hnx hb64
    have hwk : IntKind.i64.wrap ((k : Int) + 1) = (k : Int) + 1 := wrap_i64_fr _ (by omega) (by omega)
    have HNX := Lib.hid hnx
    have HB64 := Lib.hid hb64
    have HVAL := Lib.hid hval
    have HW1 := Lib.hid hw1
    have HAT := Lib.hid hati
    clear hnx hb64 hval hbY hm hat hw1 hpl hp0 hati
    gi_wp2_with (first
      | (refine wpV_exec rfl (x_loadM rowPlan hpl2 rfl rfl rfl) ?_)
      | (refine ⟨trivial, ?_⟩; gi_at_call 85; refine (callsIn_wide.2 HA).mono ?_; rintro e W5 ⟨rfl, hB5⟩)
      | (refine wpV_exec rfl (x_lookupG he ((i1.mp.below hB5 i1.mp.lt).below ((Below.refl W5.heap.size W5).alloc (Nat.le_refl _) _) (by have := i1.mp.lt; have := hB5.size; omega)) HVAL.out rfl rfl rfl) ?_)
      | (refine ⟨trivial, ?_⟩; gi_at_call 91; refine (callsIn_wide.2 (cut_gives _ Ab cb b (((hin.below hB5).more hB5.size).below ((Below.refl W5.heap.size W5).alloc (Nat.le_refl _) _) |>.more (by simp)) (by omega))).mono ?_; rintro e W8 ⟨gB, A2, c2, rfl, hgb, hin2, hB8⟩))
    have s5 := hB5.size
    have hB6 : Below V.heap.size V (W5.alloc (.cells #[.int .i64 (at_ : Int)] 3)) := hB5.alloc hB5.size _
    have hBV8 : Below V.heap.size V W8 := hB6.trans (hB8.mono hB6.size)
    have b68 : BlkIs W8 W5.heap.size 3 #[.int .i64 (at_ : Int)] := (BlkIs.new W5 _ _).below hB8 (by simp)
    have hs8 : W5.heap.size + 1 ≤ W8.heap.size := by have := hB8.size; simp at this; omega
    have hD8 := hD1.grow hBV8
    have i8 : LayI w f l d w.heap.size r W4.heap.size fr pg fm (pgY S.fs) es clock 0 Ds W8 := by
      have hsz := hBV8.size
      exact i1.abSm (B2 := V.heap.size) (row := none) (by have := i1.sz; omega) (by have := i1.sz; omega) (by have := i1.sz; omega) (fun D hD => (Array.getElem?_eq_some_iff.1 (i1.mks D hD).2).1) (by have := i1.sz; omega) ⟨hBV8.os, hBV8.tape, hBV8.output, hBV8.size, fun k hk _ => hBV8.block k hk⟩ (fun r e => by cases e)
    have hds8 : ∀ D ∈ Ds, D < W8.heap.size := fun D hD => (Array.getElem?_eq_some_iff.1 (i8.mks D hD).2).1
    have hsz8 := i8.sz
    have hMu : 0 < b.length → ∀ g o, A2 = some ⟨g, o, none⟩ → ¬ g = d := fun h0 g o e => by
      subst e
      obtain ⟨r, A', c', hb, _⟩ := DkIs.has hD8
      exact hin2.notDisk h0 hb
    have hs41 := i1.sz
    clear hB6 hB8 hD1 i1 hin HA hpl2 hB5 hBV8
    refine wpIn_rangeFunc_S rfl h1 (gf := 120) (lb := #[.pointer (some ⟨gB, 0, none⟩)]) rfl trivial (enters_of Tryz.func120 (by kernel_rfl) rfl)
      (cut1_seqS (n₀ := W8.heap.size) (n - 1) (by omega) gB A2 c2 b (by omega) (fun k => k = d) hMu W8 hgb.lt (Nat.le_refl _) hgb.boxed hin2) (Below.refl _ _) (fun _ => rfl)
      (fun pre U => (∃ s' : DS, DkS U d many s' ∧ s'.Ok ∧ s'.xs.length ≤ s1.xs.length + pre.length ∧ wrs s1 (wrL at_ b m) = wrs s' ((wrL at_ b m).drop pre.length)) ∧ LayI w f l d w.heap.size r W4.heap.size fr pg fm (pgY S.fs) es clock 0 Ds U ∧ BlkIs U W5.heap.size 3 #[.int .i64 (at_ : Int)] ∧ W8.heap.size ≤ U.heap.size)
      (fun c _ U => c = .ret ∧ DkS U d many (wrs s1 (wrL at_ b m)).1 ∧ (wrs s1 (wrL at_ b m)).2 = 140 ∧ LayI w f l d w.heap.size r W4.heap.size fr pg fm (pgY S.fs) es clock 140 Ds U ∧ W8.heap.size ≤ U.heap.size)
      ?own ?own2 ?ownR ⟨⟨s1, hD8, hO1, Nat.le_add_right _ _, rfl⟩, i8, b68, Nat.le_refl _⟩ ?act ?assign ?body ?done ?stop
    case own =>
      rintro pre X Y row ⟨⟨s', j1, jo⟩, j2, j3, j4⟩ hgr hr
      exact ⟨⟨s', DkIs.abSm (B := W8.heap.size) (by omega) j1 hgr hr, jo⟩, j2.abSm (B2 := W8.heap.size) (by omega) (by omega) (by omega) hds8 (by omega) hgr hr, j3.abN (B := W8.heap.size) (by omega) hgr (fun r e => (hr r e).1), Nat.le_trans j4 hgr.size⟩
    case own2 =>
      rintro c pre X Y row ⟨e1, j1, e2, j2, j4⟩ hgr hr
      exact ⟨e1, DkIs.abSm (B := W8.heap.size) (by omega) j1 hgr hr, e2, j2.abSm (B2 := W8.heap.size) (by omega) (by omega) (by omega) hds8 (by omega) hgr hr, Nat.le_trans j4 hgr.size⟩
    case ownR =>
      rintro pre x _ X Y row ⟨e1, e2, e3⟩ hgr hr
      exact ⟨e1, e2, InB.ownFrom (B := W8.heap.size) _ _ _ () X Y row e3 hgr hr⟩
    case assign =>
      intro l1 x U K hK
      simp only [cutEnc]
      gi_wp2
      exact hK
    case body =>
      rintro l1 pre ⟨x1, A6, c6⟩ U ⟨⟨s', j1, jo, jl, je⟩, j2, j3, j4⟩ ⟨hx1, hx2, hx3⟩
      simp only at hx1 hx2 hx3
      subst hx1
      have hbl := HB64.out
      have hkm : pre.length < m := by omega
      have hch : chLen b.length pre.length = 64 := by unfold chLen; omega
      have hcl : (chunkB b pre.length).length = 64 := by rw [chunkB_length, hch]
      have hatm : at_ + pre.length < many := by have := HAT.out; omega
      have hWR : Calls Tryz.prog 92 #[.pointer (some ⟨d, 0, none⟩), .int .i64 ((at_ + pre.length : Nat) : Int), .slice A6 64 c6] U fun e w' => ∃ (x : Int) (s6 : DS), e = .returned (.int .i64 x) ∧ ((x = 0 ∧ s'.stopped = false ∧ s6 = s'.push (at_ + pre.length, chunkB b pre.length)) ∨ (x = 140 ∧ s'.stopped = true ∧ s6 = s')) ∧ DkS w' d many s6 ∧ U.grownBy w' (some d) := by
        cases hs : s'.stopped
        · refine (write_ok U d many s'.g s'.xs s'.left s'.st j1 hs (at_ + pre.length) (by omega) A6 c6 _ hcl hx3 (by omega) jo.lo jo.hi).mono ?_
          rintro e w' ⟨rfl, hD6, hg6, _⟩
          exact ⟨0, _, rfl, .inl ⟨rfl, rfl, rfl⟩, hD6, hg6⟩
        · refine (write_stop U d many s'.g s'.xs s'.left s'.st j1 hs (at_ + pre.length) (by omega) A6 c6).mono ?_
          rintro e w' ⟨rfl, hB6⟩
          exact ⟨140, _, rfl, .inr ⟨rfl, rfl, rfl⟩, j1.grow hB6, ⟨hB6.os, hB6.tape, hB6.output, hB6.size, fun k hk _ => hB6.block k hk⟩⟩
      have HW := hWR
      rw [Int.natCast_add] at HW
      have k0 := j2.dp.boxed
      have k1 := j3.boxed
      have hwa : IntKind.i64.wrap ((at_ : Int) + (pre.length : Int)) = (at_ : Int) + (pre.length : Int) := by rw [wrap_i64_fr _ (by omega) (by omega)]
      have hdr := wrL_drop at_ b m pre.length hkm
      have HDR := Lib.hid hdr
      have HJE := Lib.hid je
      simp only [hch]
      clear hbl hch hcl hx2 hMu hWR hdr je hin2 hgb hkm
      have h11 : 1 ≤ n - 1 - 1 := by omega
      gi_wp2_with (refine ⟨trivial, ?_⟩; gi_at_call 92; refine (CallsIn.inRound l1 (callsIn_wide.2 HW)).mono ?_; rintro e W6 ⟨z, s6, rfl, hz, hD6, hg6⟩; have j6 := j2.turned j1 hdl (by omega) hfd hg6; have q3 := j3.grown hg6 (fun e => by injection e with e; omega); have q6 := hg6.size; have q2c := j6.er.boxed; have q2f := j6.er.free 0; rcases hz with ⟨rfl, hs, rfl⟩ | ⟨rfl, hs, rfl⟩)
      · have hKO : KeepOut (fun k => k = d) W8.heap.size U W6 := ⟨q6, fun k o hk hm => (hg6.block k (Array.getElem?_eq_some_iff.1 hk).1 (fun e => by injection e with e; exact hm (by omega) e)).trans hk⟩
        refine ⟨hKO, ⟨_, hD6, jo.push hs _, ?_, ?_⟩, j6, q3, by omega⟩
        · simp [DS.push]
          omega
        · rw [HJE.out, HDR.out, wrs_cons_ok hs]
          simp
      · have hKO : KeepOut (fun k => k = d) W8.heap.size U W6 := ⟨q6, fun k o hk hm => (hg6.block k (Array.getElem?_eq_some_iff.1 hk).1 (fun e => by injection e with e; exact hm (by omega) e)).trans hk⟩
        have g7 := setCell_grown W6 ⟨w.heap.size, 0, none⟩ (.int .i64 140)
        have e7 : wrs s1 (wrL at_ b m) = (s6, 140) := by rw [HJE.out, HDR.out, wrs_cons_bad hs]
        refine ⟨⟨Nat.le_trans hKO.1 g7.size, fun k o hk hm => (Below.heap_setCell W6 _ _ k (fun e => by subst e; exact hm (by simp; omega) trivial)).trans (hKO.2 k o hk (fun hb h => hm hb trivial))⟩, rfl, ?_, ?_, j6.setEr (Nat.le_refl _) hfl (by omega) 140, ?_⟩
        · rw [e7]
          exact DkIs.setOther hD6 j6.er (by show 1 ≤ 64; decide) (by omega) ⟨w.heap.size, 0, none⟩ _ rfl
        · rw [e7]
        · simp
          omega
    case done =>
      rintro D ys U hD hS ⟨⟨s', j1, jo, jl, je⟩, j2, j3, j4⟩ hK
      have hbl := HB64.out
      have hm3 : ys.length = m := by rw [hS]; unfold chAll; omega
      rw [hm3, wrL_drop_all] at je
      rw [hm3] at jl
      have HNE := Lib.hid (show wrs s (layW fr S (k + 1)) = (s', 0) by rw [HNX.out, je]; rfl)
      have HS1 := Lib.hid hs41
      have j5 : LayI w f l d w.heap.size r W4.heap.size fr pg fm (pgY S.fs) es clock 0 (D :: Ds) U := ⟨j2.er, j2.dp, j2.mp, j2.pgs, j2.fl, List.nodup_cons.2 ⟨fun h => by have := hds8 D h; omega, j2.nd⟩, (fun E hE => by
        rcases List.mem_cons.1 hE with rfl | hE
        · exact ⟨by omega, hK⟩
        · exact j2.mks E hE), j2.gr, j2.sz⟩
      have hl3 : s'.xs.length ≤ s.xs.length + 8 * (k + 1) := by omega
      clear je hbl hMu b68 hgb hin2 i8 hD8 j2
      gi_wp2
      refine ⟨⟨k + 1, D :: Ds, _, _, _, _, _, _, _, _, _, _, _, _, _, _, _, _, _, _, _, _, _, _, _, _, _, _, _, _, _, _, _, _, _, rfl, by omega, ⟨s', j1, jo, hl3, HNE.out⟩, j5⟩, ?_⟩
      simp [intOf]
      omega
    case stop =>
      rintro D c pre U hD hS ⟨rfl, j1, je, j2, j4⟩ hK
      have e1 : wrs s (layW fr S P) = wrs s1 (wrL at_ b m) := by
        have h2 := layW_stop (fr := fr) (S := S) (s := s) (k := k + 1) (by rw [HNX.out, je]; decide) (P - (k + 1))
        rw [show k + 1 + (P - (k + 1)) = P by omega, HNX.out] at h2
        exact h2
      have HE1 := Lib.hid e1
      have HJE := Lib.hid je
      have j3 : LayI w f l d w.heap.size r W4.heap.size fr pg fm (pgY S.fs) es clock 140 (D :: Ds) U := ⟨j2.er, j2.dp, j2.mp, j2.pgs, j2.fl, List.nodup_cons.2 ⟨fun h => by have := hds8 D h; omega, j2.nd⟩, (fun E hE => by
        rcases List.mem_cons.1 hE with rfl | hE
        · exact ⟨by omega, hK⟩
        · exact j2.mks E hE), j2.gr, j2.sz⟩
      clear e1 je hMu b68 hgb hin2 i8 hD8 j2
      gi_wp2
      rw [HE1.out, HJE.out]
      exact lay_leaves (Ds := D :: Ds) j3 j1 (by omega) (by omega) (by omega) rfl
  · obtain rfl : k = P := by omega
    have hsz := i1.sz
    have q2c := i1.er.boxed
    have q2f := i1.er.free 0
    have HW := Lib.hid hw1
    have i2 := i1.setEr (Nat.le_refl _) hfl (by omega) 0
    have hD2 : DkS (V.setCell ⟨w.heap.size, 0, none⟩ (.int .i64 0)) d many s1 := DkIs.setOther hD1 i1.er (by show 1 ≤ 64; decide) (by omega) ⟨w.heap.size, 0, none⟩ _ rfl
    clear hw1
    gi_wp2
    rw [HW.out]
    exact lay_leaves i2 hD2 (by omega) (by omega) (by omega) rfl
theorem lay7_gives (w : World) (f l d many : Nat) (fr pg : Int) (s : DS) (S : LgS) (hb : BlkIs w f 121 (flFC l fr pg)) (hL : LogIs w l d fr pg S) (hD : DkS w d many s) (hO : s.Ok) (hl : s.xs.length ≤ 500000) (hn2 : S.fs.length ≤ 2000) (hy : ∀ x ∈ S.fs, x.y.length = 512) (hpl : planOk fr pg = true) (hmany : (many : Int) = 2 + 9 * fr + 8 * pg) (hmax : many ≤ 100000) (P : Nat) (hP : (P : Int) = pg) (hP2 : P ≤ 1000) (hYb : ∀ k y, pgY S.fs k = some y → 0 ≤ k ∧ k < (P : Int)) :
    Calls Tryz.prog 71 #[.pointer (some ⟨f, 0, none⟩)] w fun e w' => e = .returned (.int .i64 (wrs s (layW fr S P)).2) ∧ DkS w' d many (wrs s (layW fr S P)).1 ∧ w.grownBy w' (some d) :=
  callsIn_wide.1 (lay7_in 10 (Nat.le_refl _) w f l d many fr pg s S hb hL hD hO hl hn2 hy hpl hmany hmax P hP hP2 hYb)
end Go.Proofs.YtocnabpplbeafaaGreat
/- file: steps, all. -/
namespace Go.Proofs.YtocnabpplbeafaaGreat
open Go Go.RowKit Lou

/-- steps' own function does what it is handed. -/
theorem fdo_gives (w : World) (i : Int) (x : FnV) (Q : Ending → World → Prop) (hent : ∀ args W, (callFunc x.f args).run Tryz.prog W = .ok (.enter x.f args) W) (h : Calls Tryz.prog x.f (x.bd ++ x.lb) w fun e w' => (∃ z : Int, e = .returned (.int .i64 z)) ∧ Q e w') :
    Calls Tryz.prog 101 #[.int .i64 i, x.val] w fun e w' => (∃ z : Int, e = .returned (.int .i64 z)) ∧ Q e w' := by
  obtain ⟨xf, xb, xl⟩ := x
  unfold FnV.val
  simp only at hent h
  go_enter Tryz.func101, Tryz.ntmps101
  go_wp2
  refine h.mono ?_
  rintro e w2 ⟨⟨z, rfl⟩, h1⟩
  go_wp2
  go_ret
  exact ⟨⟨z, rfl⟩, h1⟩
set_option maxRecDepth 100000 in
set_option maxHeartbeats 4000000 in
/-- steps: I k holds ahead of thing k; a thing that goes wrong leaves R of its error. -/
theorem fall_gives (w : World) (g c : Nat) (fs : List FnV) (I : Nat → World → Prop) (R : Int → World → Prop) (hl : fs.length ≤ 100)
    (hrow : ∀ (k : Nat) (hk : k < fs.length) W, I k W → W.cell? ⟨g, k, none⟩ = some fs[k].val)
    (hdo : ∀ (k : Nat) (hk : k < fs.length) W, I k W → (∀ args W, (callFunc fs[k].f args).run Tryz.prog W = .ok (.enter fs[k].f args) W) ∧ Calls Tryz.prog fs[k].f (fs[k].bd ++ fs[k].lb) W fun e w' => (e = .returned (.int .i64 0) ∧ I (k + 1) w') ∨ ∃ x : Int, x ≠ 0 ∧ e = .returned (.int .i64 x) ∧ R x w')
    (h0 : I 0 w) :
    Calls Tryz.prog 100 #[.slice (some ⟨g, 0, none⟩) fs.length c, .func (.func 101) #[] #[]] w fun e w' => (e = .returned (.int .i64 0) ∧ I fs.length w') ∨ ∃ x : Int, x ≠ 0 ∧ e = .returned (.int .i64 x) ∧ R x w' := by
  have HD : ∀ (k : Nat) (hk : k < fs.length) W, I k W → Calls Tryz.prog 101 #[.int .i64 (k : Int), fs[k].val] W fun e w' => (∃ z : Int, e = .returned (.int .i64 z)) ∧ ((e = .returned (.int .i64 0) ∧ I (k + 1) w') ∨ ∃ x : Int, x ≠ 0 ∧ e = .returned (.int .i64 x) ∧ R x w') := fun k hk W hI => by
    obtain ⟨hent, hcall⟩ := hdo k hk W hI
    refine fdo_gives W (k : Int) fs[k] _ hent (hcall.mono ?_)
    rintro e w' h
    refine ⟨?_, h⟩
    rcases h with ⟨rfl, _⟩ | ⟨x, _, rfl, _⟩
    · exact ⟨_, rfl⟩
    · exact ⟨_, rfl⟩
  clear hdo
  go_enter Tryz.func100, Tryz.ntmps100
  go_wp2
  go_loopw [10] (fun i wr => ∃ k : Nat, k ≤ fs.length ∧ i = .int .i64 (k : Int) ∧ I k wr) (fun i _ => fs.length - (intOf i).toNat)
  case atStart => exact ⟨0, by omega, rfl, h0⟩
  case round =>
    obtain ⟨k, hk, rfl, hI⟩ := hrel
    by_cases hlt : k < fs.length
    · have hc := hrow k hlt wr hI
      have hcall := HD k hlt wr hI
      generalize fs[k].val = V at hc hcall
      have hwk : IntKind.i64.wrap ((k : Int) + 1) = (k : Int) + 1 := wrap_i64_fr _ (by omega) (by omega)
      clear HD hrow
      go_wp2_with (go_at_call 101; refine hcall.mono ?_; rintro e w2 ⟨_, ⟨rfl, h1⟩ | ⟨z, hz, rfl, h1⟩⟩)
      all_goals
        first
        | exact ⟨⟨k + 1, by omega, by simp, h1⟩, by simp [intOf]; omega⟩
        | (go_ret; exact .inr ⟨z, hz, rfl, h1⟩)
    · obtain rfl : k = fs.length := by omega
      go_wp2
      go_ret
      exact .inl ⟨rfl, hI⟩
theorem fsteps_gives (w : World) (g c : Nat) (fs : List FnV) (I : Nat → World → Prop) (R : Int → World → Prop) (hl : fs.length ≤ 100)
    (hrow : ∀ (k : Nat) (hk : k < fs.length) W, I k W → W.cell? ⟨g, k, none⟩ = some fs[k].val)
    (hdo : ∀ (k : Nat) (hk : k < fs.length) W, I k W → (∀ args W, (callFunc fs[k].f args).run Tryz.prog W = .ok (.enter fs[k].f args) W) ∧ Calls Tryz.prog fs[k].f (fs[k].bd ++ fs[k].lb) W fun e w' => (e = .returned (.int .i64 0) ∧ I (k + 1) w') ∨ ∃ x : Int, x ≠ 0 ∧ e = .returned (.int .i64 x) ∧ R x w')
    (h0 : I 0 w) :
    Calls Tryz.prog 69 #[.slice (some ⟨g, 0, none⟩) fs.length c] w fun e w' => (e = .returned (.int .i64 0) ∧ I fs.length w') ∨ ∃ x : Int, x ≠ 0 ∧ e = .returned (.int .i64 x) ∧ R x w' := by
  have H := fall_gives w g c fs I R hl hrow hdo h0
  clear hrow hdo h0
  go_enter Tryz.func69, Tryz.ntmps69
  go_wp2_with (go_at_call 100; refine H.mono ?_; rintro e w2 (⟨rfl, h1⟩ | ⟨z, hz, rfl, h1⟩))
  all_goals
    go_ret
    first
    | exact .inl ⟨rfl, h1⟩
    | exact .inr ⟨z, hz, rfl, h1⟩
end Go.Proofs.YtocnabpplbeafaaGreat
/- file: CheckIn of any file, whatever stop is set. -/
namespace Go.Proofs.YtocnabpplbeafaaGreat
open Go Go.RowKit Lou

/-- What CheckIn answers, and leaves. -/
def ChkOut (fr : Int) (P : Nat) (s : DS) (S : LgS) (x : Int) (s' : DS) (S' : LgS) : Prop :=
  ∃ r, r = appD s (layW fr S P) (wrL ((S.sr + 1) % 2) (hEnc (S.sr + 1) (S.ep + 1) S.sz 0) 1) ∧ x = r.2 ∧ s' = r.1 ∧ ((x = 0 ∧ S' = ⟨S.sr + 1, S.ep + 1, S.sz, []⟩) ∨ (¬ x = 0 ∧ S' = S))
/-- The things that CheckIn does. -/
def ckFs (f d l : Nat) : List FnV := [⟨71, #[.pointer (some ⟨f, 0, none⟩)], #[]⟩, ⟨52, #[.pointer (some ⟨d, 0, none⟩)], #[]⟩, ⟨13, #[.pointer (some ⟨l, 0, none⟩)], #[]⟩]
def ckCs (f d l : Nat) : Array Value := #[.func (.func 71) #[.pointer (some ⟨f, 0, none⟩)] #[], .func (.func 52) #[.pointer (some ⟨d, 0, none⟩)] #[], .func (.func 13) #[.pointer (some ⟨l, 0, none⟩)] #[]]
set_option maxRecDepth 100000 in
set_option maxHeartbeats 8000000 in
theorem ckS_gives (w : World) (f l d many : Nat) (fr pg : Int) (s : DS) (S : LgS) (hb : BlkIs w f 121 (flFC l fr pg)) (hL : LogIs w l d fr pg S) (hD : DkS w d many s) (hO : s.Ok) (hl : s.xs.length ≤ 500000) (hn2 : S.fs.length ≤ 2000) (hy : ∀ x ∈ S.fs, x.y.length = 512) (hpl : planOk fr pg = true) (hmany : (many : Int) = 2 + 9 * fr + 8 * pg) (hmax : many ≤ 100000) (P : Nat) (hP : (P : Int) = pg) (hP2 : P ≤ 1000) (hYb : ∀ k y, pgY S.fs k = some y → 0 ≤ k ∧ k < (P : Int)) (hfd : f ≠ d) (hfl : f ≠ l) (hok : 0 ≤ S.sz ∧ S.sz ≤ 2000) (hsr : S.sr + 1 < 18446744073709551616) (hep : S.ep + 1 < 18446744073709551616) :
    Calls Tryz.prog 69 #[.slice (some ⟨w.heap.size, 0, none⟩) 3 3] (w.alloc (.cells (ckCs f d l) 42)) fun e w' => ∃ x s' S', e = .returned (.int .i64 x) ∧ ChkOut fr P s S x s' S' ∧ DkS w' d many s' ∧ LogIs w' l d fr pg S' ∧ GrowBut (fun k => k = d ∨ k = l) w w' := by
  have hpr := (planOk_iff fr pg).1 hpl
  obtain ⟨V, hV⟩ : ∃ V, V = w.alloc (.cells (ckCs f d l) 42) := ⟨_, rfl⟩
  have hBV : Below w.heap.size w V := by rw [hV]; exact (Below.refl _ w).alloc (Nat.le_refl _) _
  have f0 : BlkIs V w.heap.size 42 (ckCs f d l) := by rw [hV]; exact BlkIs.new w _ _
  rw [← hV]
  clear hV
  have hdl := hD.lt
  have hll : l < w.heap.size := by obtain ⟨_, A, c, vs, hlg, _⟩ := hL; exact hlg.lt
  have hld : l ≠ d := hL.1
  have H1 := lay7_gives V f l d many fr pg s S (hb.below hBV hb.lt) (hL.grow hBV) (hD.grow hBV) hO (by omega) hn2 hy hpl hmany hmax P hP hP2 hYb
  have hwl := wrs_len (layW fr S P) s
  have hLl := layW_length (fr := fr) (S := S) P
  generalize hLW : layW fr S P = L1 at *
  generalize hL2 : wrL ((S.sr + 1) % 2) (hEnc (S.sr + 1) (S.ep + 1) S.sz 0) 1 = L2
  obtain ⟨r1, hr1⟩ : ∃ r1, r1 = wrs s L1 := ⟨_, rfl⟩
  obtain ⟨r2, hr2⟩ : ∃ r2, r2 = synD r1.1 := ⟨_, rfl⟩
  obtain ⟨r3, hr3⟩ : ∃ r3, r3 = layD r2.1 L2 := ⟨_, rfl⟩
  have hO1 : r1.1.Ok := by rw [hr1]; exact hO.wrs
  have hO2 : r2.1.Ok := by rw [hr2]; exact hO1.syn
  have hl1 : r1.1.xs.length ≤ 700000 := by rw [hr1]; omega
  have hl2 : r2.1.xs.length ≤ 700000 := by
    rw [hr2]
    unfold synD
    split
    · exact hl1
    · exact Nat.zero_le _
  have hA : appD s L1 L2 = if r1.2 = 0 then (if r2.2 = 0 then r3 else r2) else r1 := by
    rw [hr3, hr2, hr1]
    rfl
  rw [← hr1] at H1
  unfold ChkOut
  rw [hLW, hL2, hA]
  clear hA hr1 hwl hO hLl hLW
  have HS := fsteps_gives V w.heap.size 3 (ckFs f d l)
    (fun k W => (BlkIs W f 121 (flFC l fr pg) ∧ BlkIs W w.heap.size 42 (ckCs f d l) ∧ GrowBut (fun k => k = d ∨ k = l) w W) ∧
      (k = 0 → W = V) ∧
      (k = 1 → r1.2 = 0 ∧ DkS W d many r1.1 ∧ LogIs W l d fr pg S) ∧
      (k = 2 → r1.2 = 0 ∧ r2.2 = 0 ∧ DkS W d many r2.1 ∧ LogIs W l d fr pg S) ∧
      (k = 3 → r1.2 = 0 ∧ r2.2 = 0 ∧ r3.2 = 0 ∧ DkS W d many r3.1 ∧ LogIs W l d fr pg ⟨S.sr + 1, S.ep + 1, S.sz, []⟩))
    (fun x W => (∃ r : DS × Int, r = (if r1.2 = 0 then (if r2.2 = 0 then r3 else r2) else r1) ∧ x = r.2 ∧ DkS W d many r.1) ∧ LogIs W l d fr pg S ∧ GrowBut (fun k => k = d ∨ k = l) w W) (by show 3 ≤ 100; omega)
    (by
      rintro k hk W ⟨⟨_, h4, _⟩, _⟩
      rw [h4.cell]
      match k, hk with
      | 0, _ => rfl
      | 1, _ => rfl
      | 2, _ => rfl
      | k + 3, h => exact absurd h (by simp [ckFs]))
    (by
      rintro k hk W ⟨⟨h1, h4, h5⟩, t0, t1, t2, _⟩
      have hsz := h5.size
      have m0 : some f ≠ some d := fun e => by injection e with e; exact hfd e
      have m3 : some w.heap.size ≠ some d := fun e => by injection e with e; omega
      have zz (q : Nat) (hq : q ≠ d) (hq2 : q ≠ l) : ¬ (q = d ∨ q = l) := fun e => by rcases e with e | e; exact hq e; exact hq2 e
      match k, hk with
      | 0, _ =>
        obtain rfl := t0 rfl
        refine ⟨enters_of Tryz.func71 (by kernel_rfl) rfl, H1.mono ?_⟩
        rintro e w2 ⟨rfl, hx, hg2⟩
        have hG2 := h5.trans (GrowBut.grown hg2 (fun r e => by cases e; exact .inl (.inl rfl)))
        have hlw := (hL.grow hBV).turn hg2
        by_cases hz : r1.2 = 0
        · exact .inl ⟨by rw [hz], ⟨h1.grown hg2 m0, h4.grown hg2 m3, hG2⟩, (fun e => by cases e), (fun _ => ⟨hz, hx, hlw⟩), (fun e => by cases e), (fun e => by cases e)⟩
        · exact .inr ⟨_, hz, rfl, ⟨r1, by rw [if_neg hz], rfl, hx⟩, hlw, hG2⟩
      | 1, _ =>
        obtain ⟨hz, hDw, hlw⟩ := t1 rfl
        refine ⟨enters_of Tryz.func52 (by kernel_rfl) rfl, (syncS_gives W d many r1.1 hDw hO1 (by omega)).mono ?_⟩
        rw [← hr2]
        rintro e w2 ⟨rfl, hD2, hg2⟩
        have hG2 := h5.trans (GrowBut.grown hg2 (fun r e => by cases e; exact .inl (.inl rfl)))
        have hlw2 := hlw.turn hg2
        by_cases hz2 : r2.2 = 0
        · exact .inl ⟨by rw [hz2], ⟨h1.grown hg2 m0, h4.grown hg2 m3, hG2⟩, (fun e => by cases e), (fun e => by cases e), (fun _ => ⟨hz, hz2, hD2, hlw2⟩), (fun e => by cases e)⟩
        · exact .inr ⟨_, hz2, rfl, ⟨r2, by rw [if_pos hz, if_neg hz2], rfl, hD2⟩, hlw2, hG2⟩
      | 2, _ =>
        obtain ⟨hz, hz2, hDw, hlw⟩ := t2 rfl
        have H2 := reset_gives W l d many r2.1 fr pg S hlw hDw hO2 (by omega) hok (by omega) (by omega) hsr hep
        unfold RstOut at H2
        rw [hL2, ← hr3] at H2
        refine ⟨enters_of Tryz.func13 (by kernel_rfl) rfl, H2.mono ?_⟩
        rintro e w2 ⟨x, s', S', rfl, ⟨r, hre, hxr, hsr', hq⟩, hD2, hl2, hG2⟩
        rw [hre] at hxr hsr'
        subst hxr hsr'
        have hG3 := h5.trans hG2
        rcases hq with ⟨hz3, rfl⟩ | ⟨hz3, rfl⟩
        · exact .inl ⟨by rw [hz3], ⟨hG2.blk h1 (zz _ hfd hfl), hG2.blk h4 (zz _ (by omega) (by omega)), hG3⟩, (fun e => by cases e), (fun e => by cases e), (fun e => by cases e), (fun _ => ⟨hz, hz2, hz3, hD2, hl2⟩)⟩
        · exact .inr ⟨_, hz3, rfl, ⟨r3, by rw [if_pos hz, if_pos hz2], rfl, hD2⟩, hl2, hG3⟩
      | k + 3, h => exact absurd h (by simp [ckFs]))
    ⟨⟨hb.below hBV hb.lt, f0, GrowBut.below hBV⟩, (fun _ => rfl), (fun e => by cases e), (fun e => by cases e), (fun e => by cases e)⟩
  refine HS.mono ?_
  rintro e w2 (⟨rfl, ⟨_, _, h5⟩, _, _, _, r4⟩ | ⟨x, hx, rfl, ⟨r, rfl, rfl, hD2⟩, hl2, h5⟩)
  · obtain ⟨hz, hz2, hz3, hD4, hl4⟩ := r4 rfl
    exact ⟨0, _, _, rfl, ⟨_, rfl, by rw [if_pos hz, if_pos hz2, hz3], rfl, .inl ⟨rfl, rfl⟩⟩, by rw [if_pos hz, if_pos hz2]; exact hD4, hl4, h5⟩
  · exact ⟨_, _, _, rfl, ⟨_, rfl, rfl, rfl, .inr ⟨hx, rfl⟩⟩, hD2, hl2, h5⟩
set_option maxRecDepth 100000 in
set_option maxHeartbeats 8000000 in
/-- file: CheckIn. -/
theorem fchk_gives (w : World) (f l d many : Nat) (fr pg : Int) (s : DS) (S : LgS) (hb : BlkIs w f 121 (flFC l fr pg)) (hL : LogIs w l d fr pg S) (hD : DkS w d many s) (hO : s.Ok) (hl : s.xs.length ≤ 500000) (hn2 : S.fs.length ≤ 2000) (hy : ∀ x ∈ S.fs, x.y.length = 512) (hpl : planOk fr pg = true) (hmany : (many : Int) = 2 + 9 * fr + 8 * pg) (hmax : many ≤ 100000) (P : Nat) (hP : (P : Int) = pg) (hP2 : P ≤ 1000) (hYb : ∀ k y, pgY S.fs k = some y → 0 ≤ k ∧ k < (P : Int)) (hfd : f ≠ d) (hfl : f ≠ l) (hok : 0 ≤ S.sz ∧ S.sz ≤ 2000) (hsr : S.sr + 1 < 18446744073709551616) (hep : S.ep + 1 < 18446744073709551616) :
    Calls Tryz.prog 34 #[.pointer (some ⟨f, 0, none⟩)] w fun e w' => ∃ x s' S', e = .returned (.int .i64 x) ∧ ChkOut fr P s S x s' S' ∧ DkS w' d many s' ∧ LogIs w' l d fr pg S' ∧ GrowBut (fun k => k = d ∨ k = l) w w' := by
  have HN := fnone_gives hb
  have hBd : Below w.heap.size w w.drew := (Below.refl _ _).drew
  have HS := ckS_gives w.drew f l d many fr pg s S (hb.below hBd hb.lt) (hL.grow hBd) (hD.grow hBd) hO hl hn2 hy hpl hmany hmax P hP hP2 hYb hfd hfl hok hsr hep
  have HDK : ∀ W, Below w.heap.size w W → Calls Tryz.prog 21 #[.pointer (some ⟨l, 0, none⟩)] W fun e w' => e = .returned (.pointer (some ⟨d, 0, none⟩)) ∧ W = w' := fun W hB => by
    obtain ⟨_, A, c, vs, hlg, _, _⟩ := hL.grow hB
    exact ldisk_gives hlg
  have TF : ∀ W, Below w.heap.size w W → W.cell? ⟨f, 0, none⟩ = some (.pointer (some ⟨l, 0, none⟩)) := fun W hW => by rw [(hb.below hW hb.lt).cell]; rfl
  clear hb hL hD
  go_enter Tryz.func34, Tryz.ntmps34
  go_wp2_with (go_at_call 68; refine HN.mono ?_; rintro e w' ⟨rfl, rfl⟩)
  have hS0 : Below w.heap.size w w.drew := hBd
  refine RegM.start (fun W => Below w.heap.size w W) [13, 14, 15] (by kernel_rfl) ?_
  refine RegM.take1 0 (.pointer (some ⟨f, 0, none⟩)) rfl (by kernel_rfl) (by kernel_rfl) (by kernel_rfl) (by kernel_rfl) (by kernel_rfl) rfl (fun _ _ _ h => h) hS0 (RegF.yld rfl (fun W hW => by go_simp)) ?_
  simp only [List.getElem_toArray, List.getElem_cons_zero, Act.put, List.setIfInBounds_toArray, List.set_cons_zero, List.set_cons_succ]
  refine RegM.take1 1 (.func (.func 71) #[.pointer (some ⟨f, 0, none⟩)] #[]) rfl (by kernel_rfl) (by kernel_rfl) (by kernel_rfl) (by kernel_rfl) (by kernel_rfl) rfl (fun _ _ _ h => h) hS0 (RegF.yld rfl (fun W hW => by go_simp)) ?_
  simp only [List.getElem_toArray, List.getElem_cons_succ, List.getElem_cons_zero, Act.put, List.setIfInBounds_toArray, List.set_cons_zero, List.set_cons_succ]
  refine RegM.take1 2 (.pointer (some ⟨f, 0, none⟩)) rfl (by kernel_rfl) (by kernel_rfl) (by kernel_rfl) (by kernel_rfl) (by kernel_rfl) rfl (fun _ _ _ h => h) hS0 (RegF.yld rfl (fun W hW => by go_simp)) ?_
  simp only [List.getElem_toArray, List.getElem_cons_succ, List.getElem_cons_zero, Act.put, List.setIfInBounds_toArray, List.set_cons_zero, List.set_cons_succ]
  refine RegM.take1 3 (.pointer (some ⟨f, 0, none⟩)) rfl (by kernel_rfl) (by kernel_rfl) (by kernel_rfl) (by kernel_rfl) (by kernel_rfl) rfl (fun _ _ _ h => h) hS0 (RegF.yld rfl (fun W hW => by go_simp)) ?_
  simp only [List.getElem_toArray, List.getElem_cons_succ, List.getElem_cons_zero, Act.put, List.setIfInBounds_toArray, List.set_cons_zero, List.set_cons_succ]
  refine RegM.take1 4 (.pointer (some ⟨f, 0, none⟩)) rfl (by kernel_rfl) (by kernel_rfl) (by kernel_rfl) (by kernel_rfl) (by kernel_rfl) rfl (fun _ _ _ h => h) hS0 (RegF.yld rfl (fun W hW => by go_simp)) ?_
  simp only [List.getElem_toArray, List.getElem_cons_succ, List.getElem_cons_zero, Act.put, List.setIfInBounds_toArray, List.set_cons_zero, List.set_cons_succ]
  refine RegM.take1 5 (.pointer (some ⟨l, 0, none⟩)) rfl (by kernel_rfl) (by kernel_rfl) (by kernel_rfl) (by kernel_rfl) (by kernel_rfl) rfl (fun _ _ _ h => h) hS0 (RegF.yld rfl (fun W hW => by have q := TF W hW; go_simp)) ?_
  simp only [List.getElem_toArray, List.getElem_cons_succ, List.getElem_cons_zero, Act.put, List.setIfInBounds_toArray, List.set_cons_zero, List.set_cons_succ]
  refine RegM.take1 8 (.pointer (some ⟨f, 0, none⟩)) rfl (by kernel_rfl) (by kernel_rfl) (by kernel_rfl) (by kernel_rfl) (by kernel_rfl) rfl (fun _ _ _ h => h) hS0 (RegF.yld rfl (fun W hW => by go_simp)) ?_
  simp only [List.getElem_toArray, List.getElem_cons_succ, List.getElem_cons_zero, Act.put, List.setIfInBounds_toArray, List.set_cons_zero, List.set_cons_succ]
  refine RegM.take1 9 (.pointer (some ⟨f, 0, none⟩)) rfl (by kernel_rfl) (by kernel_rfl) (by kernel_rfl) (by kernel_rfl) (by kernel_rfl) rfl (fun _ _ _ h => h) hS0 (RegF.yld rfl (fun W hW => by go_simp)) ?_
  simp only [List.getElem_toArray, List.getElem_cons_succ, List.getElem_cons_zero, Act.put, List.setIfInBounds_toArray, List.set_cons_zero, List.set_cons_succ]
  refine RegM.take1 10 (.pointer (some ⟨f, 0, none⟩)) rfl (by kernel_rfl) (by kernel_rfl) (by kernel_rfl) (by kernel_rfl) (by kernel_rfl) rfl (fun _ _ _ h => h) hS0 (RegF.yld rfl (fun W hW => by go_simp)) ?_
  simp only [List.getElem_toArray, List.getElem_cons_succ, List.getElem_cons_zero, Act.put, List.setIfInBounds_toArray, List.set_cons_zero, List.set_cons_succ]
  refine RegM.take1 11 (.pointer (some ⟨l, 0, none⟩)) rfl (by kernel_rfl) (by kernel_rfl) (by kernel_rfl) (by kernel_rfl) (by kernel_rfl) rfl (fun _ _ _ h => h) hS0 (RegF.yld rfl (fun W hW => by have q := TF W hW; go_simp)) ?_
  simp only [List.getElem_toArray, List.getElem_cons_succ, List.getElem_cons_zero, Act.put, List.setIfInBounds_toArray, List.set_cons_zero, List.set_cons_succ]
  refine RegM.take1 12 (.func (.func 13) #[.pointer (some ⟨l, 0, none⟩)] #[]) rfl (by kernel_rfl) (by kernel_rfl) (by kernel_rfl) (by kernel_rfl) (by kernel_rfl) rfl (fun _ _ _ h => h) hS0 (RegF.yld rfl (fun W hW => by go_simp)) ?_
  simp only [List.getElem_toArray, List.getElem_cons_succ, List.getElem_cons_zero, Act.put, List.setIfInBounds_toArray, List.set_cons_zero, List.set_cons_succ]
  refine RegM.one 6 (by kernel_rfl) ?_
  refine RegF.opC 21 #[.tmp 10] #[33] rfl rfl rfl (enters_of Tryz.func21 (by kernel_rfl) rfl) #[.pointer (some ⟨l, 0, none⟩)] (by simp only [List.map_toArray, List.map_cons, List.map_nil]; rfl) ((HDK _ hS0).mono ?_)
  rintro e w' ⟨rfl, rfl⟩
  refine ⟨_, rfl, fun _ => hS0, ?_⟩
  simp only [List.getElem_toArray, List.getElem_cons_succ, List.getElem_cons_zero, Act.put, List.setIfInBounds_toArray, List.set_cons_zero, List.set_cons_succ]
  refine RegM.one 7 (by kernel_rfl) (RegF.opV (w' := w.drew) (.func (.func 52) #[.pointer (some ⟨d, 0, none⟩)] #[]) rfl rfl (by go_simp) ⟨fun _ => hS0, ?_⟩)
  simp only [List.getElem_toArray, List.getElem_cons_succ, List.getElem_cons_zero, Act.put, List.setIfInBounds_toArray, List.set_cons_zero, List.set_cons_succ]
  refine RegM.one 13 (by kernel_rfl) (RegF.opV (w' := w.drew.alloc (.cells (ckCs f d l) 42)) (.slice (some ⟨w.drew.heap.size, 0, none⟩) 3 3) rfl rfl (by unfold ckCs; go_simp) ⟨fun h => (by cases h), ?_⟩)
  simp only [List.getElem_toArray, List.getElem_cons_succ, List.getElem_cons_zero, Act.put, List.setIfInBounds_toArray, List.set_cons_zero, List.set_cons_succ]
  refine RegM.one 14 (by kernel_rfl) ?_
  refine RegF.opC 69 #[.tmp 18] #[138] rfl rfl rfl (enters_of Tryz.func69 (by kernel_rfl) rfl) #[.slice (some ⟨w.drew.heap.size, 0, none⟩) 3 3] (by simp only [List.map_toArray, List.map_cons, List.map_nil]; rfl) (HS.mono ?_)
  rintro e w2 ⟨x, s', S', rfl, hC, hD2, hL2, hG2⟩
  refine ⟨_, rfl, fun h => (by cases h), ?_⟩
  simp only [List.getElem_toArray, List.getElem_cons_succ, List.getElem_cons_zero, Act.put, List.setIfInBounds_toArray, List.set_cons_zero, List.set_cons_succ]
  refine RegM.one 15 (by kernel_rfl) (RegF.opV (w' := w2) (.int .i64 x) rfl rfl (by go_simp) ⟨fun h => (by cases h), RegM.done (by kernel_rfl) ?_⟩)
  simp only [List.getElem_toArray, List.getElem_cons_succ, List.getElem_cons_zero, Act.put, List.setIfInBounds_toArray, List.set_cons_zero, List.set_cons_succ]
  clear HS HDK TF HN
  go_wp2
  go_ret
  exact ⟨x, s', S', rfl, hC, hD2, hL2, (GrowBut.grown (grownBy_drew w none) (fun r e => by cases e)).trans hG2⟩
end Go.Proofs.YtocnabpplbeafaaGreat
/- file: Commit's own function. -/
namespace Go.Proofs.YtocnabpplbeafaaGreat
open Go Go.RowKit Lou

set_option maxRecDepth 100000 in
set_option maxHeartbeats 4000000 in
theorem fcom1_gives (w : World) (a0 a1 a2 f l : Nat) (fr pg z : Int) (A : Option Addr) (n c : Nat) (h0 : BlkIs w a0 70 #[.pointer (some ⟨f, 0, none⟩)]) (h1 : BlkIs w a1 3 #[.int .i64 z]) (h2 : BlkIs w a2 44 #[.slice A n c]) (hf : BlkIs w f 121 (flFC l fr pg)) (Q : Int → World → Prop)
    (HA : Calls Tryz.prog 14 #[.pointer (some ⟨l, 0, none⟩), .int .i64 z, .slice A n c] w.drew fun e w' => ∃ x : Int, e = .returned (.int .i64 x) ∧ Q x w') :
    Calls Tryz.prog 70 #[.pointer (some ⟨a0, 0, none⟩), .pointer (some ⟨a1, 0, none⟩), .pointer (some ⟨a2, 0, none⟩)] w fun e w' => ∃ x : Int, e = .returned (.int .i64 x) ∧ Q x w' := by
  have hS0 : Below w.heap.size w w.drew := (Below.refl _ _).drew
  have T0 : ∀ W, Below w.heap.size w W → W.cell? ⟨a0, 0, none⟩ = some (.pointer (some ⟨f, 0, none⟩)) := fun W hW => (h0.below hW h0.lt).boxed
  have T1 : ∀ W, Below w.heap.size w W → W.cell? ⟨a1, 0, none⟩ = some (.int .i64 z) := fun W hW => (h1.below hW h1.lt).boxed
  have T2 : ∀ W, Below w.heap.size w W → W.cell? ⟨a2, 0, none⟩ = some (.slice A n c) := fun W hW => (h2.below hW h2.lt).boxed
  have TF : ∀ W, Below w.heap.size w W → W.cell? ⟨f, 0, none⟩ = some (.pointer (some ⟨l, 0, none⟩)) := fun W hW => by rw [(hf.below hW hf.lt).cell]; rfl
  go_enter Tryz.func70, Tryz.ntmps70
  go_wp2_with fail
  refine RegM.start (fun W => Below w.heap.size w W) [6, 7] (by kernel_rfl) ?_
  refine RegM.take1 0 (.pointer (some ⟨f, 0, none⟩)) rfl (by kernel_rfl) (by kernel_rfl) (by kernel_rfl) (by kernel_rfl) (by kernel_rfl) rfl (fun _ _ _ h => h) hS0 (RegF.yld rfl (fun W hW => by have q := T0 W hW; go_simp)) ?_
  simp only [List.getElem_toArray, List.getElem_cons_zero, Act.put, List.setIfInBounds_toArray, List.set_cons_zero, List.set_cons_succ]
  refine RegM.take1 1 (.pointer (some ⟨f, 0, none⟩)) rfl (by kernel_rfl) (by kernel_rfl) (by kernel_rfl) (by kernel_rfl) (by kernel_rfl) rfl (fun _ _ _ h => h) hS0 (RegF.yld rfl (fun W hW => by go_simp)) ?_
  simp only [List.getElem_toArray, List.getElem_cons_succ, List.getElem_cons_zero, Act.put, List.setIfInBounds_toArray, List.set_cons_zero, List.set_cons_succ]
  refine RegM.take1 2 (.pointer (some ⟨f, 0, none⟩)) rfl (by kernel_rfl) (by kernel_rfl) (by kernel_rfl) (by kernel_rfl) (by kernel_rfl) rfl (fun _ _ _ h => h) hS0 (RegF.yld rfl (fun W hW => by go_simp)) ?_
  simp only [List.getElem_toArray, List.getElem_cons_succ, List.getElem_cons_zero, Act.put, List.setIfInBounds_toArray, List.set_cons_zero, List.set_cons_succ]
  refine RegM.take1 3 (.pointer (some ⟨l, 0, none⟩)) rfl (by kernel_rfl) (by kernel_rfl) (by kernel_rfl) (by kernel_rfl) (by kernel_rfl) rfl (fun _ _ _ h => h) hS0 (RegF.yld rfl (fun W hW => by have q := TF W hW; go_simp)) ?_
  simp only [List.getElem_toArray, List.getElem_cons_succ, List.getElem_cons_zero, Act.put, List.setIfInBounds_toArray, List.set_cons_zero, List.set_cons_succ]
  refine RegM.take1 4 (.int .i64 z) rfl (by kernel_rfl) (by kernel_rfl) (by kernel_rfl) (by kernel_rfl) (by kernel_rfl) rfl (fun _ _ _ h => h) hS0 (RegF.yld rfl (fun W hW => by have q := T1 W hW; go_simp)) ?_
  simp only [List.getElem_toArray, List.getElem_cons_succ, List.getElem_cons_zero, Act.put, List.setIfInBounds_toArray, List.set_cons_zero, List.set_cons_succ]
  refine RegM.take1 5 (.slice A n c) rfl (by kernel_rfl) (by kernel_rfl) (by kernel_rfl) (by kernel_rfl) (by kernel_rfl) rfl (fun _ _ _ h => h) hS0 (RegF.yld rfl (fun W hW => by have q := T2 W hW; go_simp)) ?_
  simp only [List.getElem_toArray, List.getElem_cons_succ, List.getElem_cons_zero, Act.put, List.setIfInBounds_toArray, List.set_cons_zero, List.set_cons_succ]
  refine RegM.one 6 (by kernel_rfl) ?_
  refine RegF.opC 14 #[.tmp 7, .tmp 8, .tmp 9] #[33, 3, 44] rfl rfl rfl (enters_of Tryz.func14 (by kernel_rfl) rfl) #[.pointer (some ⟨l, 0, none⟩), .int .i64 z, .slice A n c] (by simp only [List.map_toArray, List.map_cons, List.map_nil]; rfl) (HA.mono ?_)
  rintro e w2 ⟨x, rfl, hQ⟩
  refine ⟨_, rfl, fun h => (by cases h), ?_⟩
  simp only [List.getElem_toArray, List.getElem_cons_succ, List.getElem_cons_zero, Act.put, List.setIfInBounds_toArray, List.set_cons_zero, List.set_cons_succ]
  refine RegM.one 7 (by kernel_rfl) (RegF.opV (w' := w2) (.int .i64 x) rfl rfl (by go_simp) ⟨fun h => (by cases h), RegM.done (by kernel_rfl) ?_⟩)
  simp only [List.getElem_toArray, List.getElem_cons_succ, List.getElem_cons_zero, Act.put, List.setIfInBounds_toArray, List.set_cons_zero, List.set_cons_succ]
  clear T0 T1 T2 TF HA
  go_wp2
  go_ret
  exact ⟨x, rfl, hQ⟩
end Go.Proofs.YtocnabpplbeafaaGreat
/- file: Commit of any file, whatever stop is set. -/
namespace Go.Proofs.YtocnabpplbeafaaGreat
open Go Go.RowKit Lou

/-- The pages that are committed lie in blocks of their own. -/
structure PwArgs (W : World) (B : Nat) (A1 : Option Addr) (n : Nat) (xs : Nat → Int × Option Addr × Nat) (pw : Nat → Int × List UInt8) : Prop where
  ge : ∀ g o, A1 = some ⟨g, o, none⟩ → B ≤ g
  row : 1 ≤ n → ∃ g o, A1 = some ⟨g, o, none⟩ ∧ PwIn W g o n xs ∧ g < W.heap.size
  bys : ∀ k, k < n → (pw k).1 = (xs k).1 ∧ (pw k).2.length = 512 ∧ InB W W.heap.size (xs k).2.1 (xs k).2.2 (pw k).2
  tys : ∀ k, k < n → TyB W (xs k).2.1
theorem PwArgs.keep {W W' : World} {B : Nat} {A1 : Option Addr} {n : Nat} {xs : Nat → Int × Option Addr × Nat} {pw : Nat → Int × List UInt8} {d l many : Nat} {fr pg : Int} {s : DS} {S : LgS} (h : PwArgs W B A1 n xs pw) (hD : DkS W d many s) (hL : LogIs W l d fr pg S) (hd : d < B) (hl : l < B) (hG : GrowBut (fun k => k = d ∨ k = l) W W') : PwArgs W' B A1 n xs pw := by
  obtain ⟨_, A, c, vs, hlg, _⟩ := hL
  obtain ⟨r, A', c', hdk, _⟩ := DkIs.has hD
  have hMu : ∀ g cs, BlkIs W g 5 cs → ¬ (g = d ∨ g = l) := fun g cs hb e => by
    rcases e with rfl | rfl
    · exact BlkIs.ne_type hdk hb (by decide) rfl
    · exact BlkIs.ne_type hlg hb (by decide) rfl
  refine ⟨h.ge, fun h1 => ?_, fun k hk => ?_, fun k hk => ?_⟩
  · obtain ⟨g, o, e, hx, hg⟩ := h.row h1
    have hgB := h.ge g o e
    refine ⟨g, o, e, fun j hj q v hq => hG.cell (p := ⟨g, o + j * 2 + q, none⟩) (hx j hj q v hq) hg (fun e => ?_), Nat.lt_of_lt_of_le hg hG.size⟩
    rcases e with e | e <;> (simp only at e; omega)
  · obtain ⟨h1, h2, h3⟩ := h.bys k hk
    exact ⟨h1, h2, (keepB hG h3 (h.tys k hk) hMu).1⟩
  · exact (keepB hG (h.bys k hk).2.2 (h.tys k hk) hMu).2
theorem PwArgs.grow {W W' : World} {B : Nat} {A1 : Option Addr} {n : Nat} {xs : Nat → Int × Option Addr × Nat} {pw : Nat → Int × List UInt8} (h : PwArgs W B A1 n xs pw) (hB : Below W.heap.size W W') : PwArgs W' B A1 n xs pw := by
  refine ⟨h.ge, fun h1 => ?_, fun k hk => ?_, fun k hk => (h.tys k hk).grow hB⟩
  · obtain ⟨g, o, e, hx, hg⟩ := h.row h1
    exact ⟨g, o, e, fun j hj q v hq => (hB.cell (p := ⟨g, o + j * 2 + q, none⟩) hg).trans (hx j hj q v hq), Nat.lt_of_lt_of_le hg hB.size⟩
  · obtain ⟨h1, h2, h3⟩ := h.bys k hk
    exact ⟨h1, h2, (h3.below hB).more hB.size⟩
/-- What Commit answers, and leaves. -/
def ComOut (fr pg : Int) (P : Nat) (s : DS) (S : LgS) (n : Nat) (xs : Nat → Int × Option Addr × Nat) (pw : Nat → Int × List UInt8) (z x : Int) (s' : DS) (S' : LgS) : Prop :=
  (AppOut fr pg s S n xs pw z x s' S' ∧ ¬ (x = 160 ∧ (n : Int) ≤ fr)) ∨
  (AppOut fr pg s S n xs pw z 160 s S ∧ (n : Int) ≤ fr ∧ ∃ x1 s1 S1, ChkOut fr P s S x1 s1 S1 ∧ ((¬ x1 = 0 ∧ x = x1 ∧ s' = s1 ∧ S' = S1) ∨ (x1 = 0 ∧ AppOut fr pg s1 S1 n xs pw z x s' S')))
theorem synD_err (s : DS) : (synD s).2 = 0 ∨ (synD s).2 = 140 := by
  unfold synD
  split <;> simp
theorem appD_err (s : DS) (L1 L2 : List (Nat × List UInt8)) : (appD s L1 L2).2 = 0 ∨ (appD s L1 L2).2 = 140 := by
  unfold appD layD
  have h1 := wrs_err L1 s
  split
  · split
    · split
      · exact synD_err _
      · exact wrs_err _ _
    · exact synD_err _
  · exact h1
theorem AppOut.full {fr pg : Int} {s : DS} {S : LgS} {n : Nat} {xs : Nat → Int × Option Addr × Nat} {pw : Nat → Int × List UInt8} {z : Int} {s' : DS} {S' : LgS} (h : AppOut fr pg s S n xs pw z 160 s' S') : s' = s ∧ S' = S := by
  rcases h with ⟨_, h, _⟩ | ⟨_, _, _, h1, h2⟩ | ⟨_, _, fs', r, _, hr, h, _⟩
  · cases h
  · exact ⟨h1, h2⟩
  · subst hr
    rcases appD_err s (frsW (fs'.drop S.fs.length)) (wrL ((S.sr + 1) % 2) (hEnc (S.sr + 1) S.ep S.sz (fs'.length : Int)) 1) with h2 | h2
    · rw [h2] at h; cases h
    · rw [h2] at h; cases h
theorem appD_ok {s : DS} (h : s.Ok) (L1 L2 : List (Nat × List UInt8)) : (appD s L1 L2).1.Ok := by
  unfold appD
  split
  · split
    · exact h.wrs.syn.lay L2
    · exact h.wrs.syn
  · exact h.wrs
theorem synD_len (s : DS) : (synD s).1.xs.length ≤ s.xs.length := by
  unfold synD
  split
  · exact Nat.le_refl _
  · exact Nat.zero_le _
theorem appD_len (s : DS) (L1 L2 : List (Nat × List UInt8)) : (appD s L1 L2).1.xs.length ≤ s.xs.length + L1.length + L2.length := by
  have h1 := wrs_len L1 s
  have h2 := synD_len (wrs s L1).1
  have h3 := wrs_len L2 (synD (wrs s L1).1).1
  have h4 := synD_len (wrs (synD (wrs s L1).1).1 L2).1
  unfold appD layD
  split
  · split
    · split <;> omega
    · omega
  · omega
theorem wrL1_length (a : Nat) (b : List UInt8) : (wrL a b 1).length = 1 := wrL_length a b 1
/-- The things that Commit does where the log is full. -/
def cmFs (f a0 a1 a2 : Nat) : List FnV := [⟨34, #[.pointer (some ⟨f, 0, none⟩)], #[]⟩, ⟨70, #[], #[.pointer (some ⟨a0, 0, none⟩), .pointer (some ⟨a1, 0, none⟩), .pointer (some ⟨a2, 0, none⟩)]⟩]
def cmCs (f a0 a1 a2 : Nat) : Array Value := #[.func (.func 34) #[.pointer (some ⟨f, 0, none⟩)] #[], .func (.func 70) #[] #[.pointer (some ⟨a0, 0, none⟩), .pointer (some ⟨a1, 0, none⟩), .pointer (some ⟨a2, 0, none⟩)]]
/-- What they answer, and leave. -/
def CmOut (fr pg : Int) (P : Nat) (s : DS) (S : LgS) (n : Nat) (xs : Nat → Int × Option Addr × Nat) (pw : Nat → Int × List UInt8) (z x : Int) (s' : DS) (S' : LgS) : Prop :=
  ∃ x1 s1 S1, ChkOut fr P s S x1 s1 S1 ∧ ((¬ x1 = 0 ∧ x = x1 ∧ s' = s1 ∧ S' = S1) ∨ (x1 = 0 ∧ AppOut fr pg s1 S1 n xs pw z x s' S'))
set_option maxRecDepth 100000 in
set_option maxHeartbeats 8000000 in
theorem cmS_gives (w : World) (f l d many a0 a1 a2 B : Nat) (fr pg : Int) (s : DS) (S : LgS) (hb : BlkIs w f 121 (flFC l fr pg)) (hL : LogIs w l d fr pg S) (hD : DkS w d many s) (hO : s.Ok) (hl : s.xs.length ≤ 100000) (hfr : (S.fs.length : Int) ≤ fr) (hy : ∀ x ∈ S.fs, x.y.length = 512) (hpl : planOk fr pg = true) (hmany : (many : Int) = 2 + 9 * fr + 8 * pg) (hmax : many ≤ 100000) (P : Nat) (hP : (P : Int) = pg) (hP2 : P ≤ 1000) (hYb : ∀ k y, pgY S.fs k = some y → 0 ≤ k ∧ k < (P : Int)) (hok : 0 ≤ S.sz ∧ S.sz ≤ 2000) (hsr : S.sr ≤ 1000000) (hep : S.ep ≤ 1000000)
    (A1 : Option Addr) (n c : Nat) (xs : Nat → Int × Option Addr × Nat) (pw : Nat → Int × List UInt8) (hn : n ≤ 1000) (hA : PwArgs w B A1 n xs pw) (hdB : d < B) (hlB : l < B) (z : Int) (h0 : BlkIs w a0 70 #[.pointer (some ⟨f, 0, none⟩)]) (h1 : BlkIs w a1 3 #[.int .i64 z]) (h2 : BlkIs w a2 44 #[.slice A1 n c]) :
    Calls Tryz.prog 69 #[.slice (some ⟨w.heap.size, 0, none⟩) 2 2] (w.alloc (.cells (cmCs f a0 a1 a2) 42)) fun e w' => ∃ x s' S', e = .returned (.int .i64 x) ∧ CmOut fr pg P s S n xs pw z x s' S' ∧ DkS w' d many s' ∧ LogIs w' l d fr pg S' ∧ GrowBut (fun k => k = d ∨ k = l) w w' := by
  have hpr := (planOk_iff fr pg).1 hpl
  obtain ⟨V, hV⟩ : ∃ V, V = w.alloc (.cells (cmCs f a0 a1 a2) 42) := ⟨_, rfl⟩
  have hBV : Below w.heap.size w V := by rw [hV]; exact (Below.refl _ w).alloc (Nat.le_refl _) _
  have f0 : BlkIs V w.heap.size 42 (cmCs f a0 a1 a2) := by rw [hV]; exact BlkIs.new w _ _
  rw [← hV]
  clear hV
  have hdl := hD.lt
  have hll : l < w.heap.size := by obtain ⟨_, A, c, vs, hlg, _⟩ := hL; exact hlg.lt
  have hne : ∀ {g : Nat} {T : TypeId} {cs : Array Value}, BlkIs w g T cs → T ≠ 85 → T ≠ 57 → ¬ (g = d ∨ g = l) := fun {g T cs} hg e1 e2 e => by
    obtain ⟨rr, A', c', hdk, _⟩ := DkIs.has hD
    obtain ⟨_, A, c, vs, hlg, _⟩ := hL
    rcases e with rfl | rfl
    · exact BlkIs.ne_type hg hdk e1 rfl
    · exact BlkIs.ne_type hg hlg e2 rfl
  have nf := hne hb (by decide) (by decide)
  have n0 := hne h0 (by decide) (by decide)
  have n1 := hne h1 (by decide) (by decide)
  have n2 := hne h2 (by decide) (by decide)
  have ng : ¬ (w.heap.size = d ∨ w.heap.size = l) := fun e => by omega
  have HS := fsteps_gives V w.heap.size 2 (cmFs f a0 a1 a2)
    (fun k W => (BlkIs W f 121 (flFC l fr pg) ∧ BlkIs W w.heap.size 42 (cmCs f a0 a1 a2) ∧ BlkIs W a0 70 #[.pointer (some ⟨f, 0, none⟩)] ∧ BlkIs W a1 3 #[.int .i64 z] ∧ BlkIs W a2 44 #[.slice A1 n c] ∧ PwArgs W B A1 n xs pw ∧ GrowBut (fun k => k = d ∨ k = l) w W) ∧
      (k = 0 → W = V) ∧
      (k = 1 → ∃ s1 S1, ChkOut fr P s S 0 s1 S1 ∧ DkS W d many s1 ∧ LogIs W l d fr pg S1) ∧
      (k = 2 → ∃ s' S', CmOut fr pg P s S n xs pw z 0 s' S' ∧ DkS W d many s' ∧ LogIs W l d fr pg S'))
    (fun x W => ∃ s' S', CmOut fr pg P s S n xs pw z x s' S' ∧ DkS W d many s' ∧ LogIs W l d fr pg S' ∧ GrowBut (fun k => k = d ∨ k = l) w W) (by show 2 ≤ 100; omega)
    (by
      rintro k hk W ⟨⟨_, h4, _⟩, _⟩
      rw [h4.cell]
      match k, hk with
      | 0, _ => rfl
      | 1, _ => rfl
      | k + 2, h => exact absurd h (by simp [cmFs]))
    (by
      rintro k hk W ⟨⟨i1, i2, i3, i4, i5, i6, i7⟩, t0, t1, _⟩
      match k, hk with
      | 0, _ =>
        obtain rfl := t0 rfl
        refine ⟨enters_of Tryz.func34 (by kernel_rfl) rfl, (fchk_gives W f l d many fr pg s S i1 (hL.grow hBV) (hD.grow hBV) hO (by omega) (by omega) hy hpl hmany hmax P hP hP2 hYb (fun e => nf (.inl e)) (fun e => nf (.inr e)) hok (by omega) (by omega)).mono ?_⟩
        rintro e w2 ⟨x1, s1, S1, rfl, hC, hD2, hL2, hG2⟩
        have hG3 := i7.trans hG2
        by_cases hz : x1 = 0
        · subst hz
          exact .inl ⟨rfl, ⟨hG2.blk i1 nf, hG2.blk i2 ng, hG2.blk i3 n0, hG2.blk i4 n1, hG2.blk i5 n2, i6.keep (hD.grow hBV) (hL.grow hBV) hdB hlB hG2, hG3⟩, (fun e => by cases e), (fun _ => ⟨s1, S1, hC, hD2, hL2⟩), (fun e => by cases e)⟩
        · exact .inr ⟨x1, hz, rfl, s1, S1, ⟨x1, s1, S1, hC, .inl ⟨hz, rfl, rfl, rfl⟩⟩, hD2, hL2, hG3⟩
      | 1, _ =>
        obtain ⟨s1, S1, hC, hDw, hLw⟩ := t1 rfl
        obtain ⟨r, hr, hx, hs, hq⟩ := id hC
        have hO1 : s1.Ok := by rw [hs, hr]; exact appD_ok hO _ _
        have hl1 : s1.xs.length ≤ 500000 := by
          have := appD_len s (layW fr S P) (wrL ((S.sr + 1) % 2) (hEnc (S.sr + 1) (S.ep + 1) S.sz 0) 1)
          have h3 := layW_length (fr := fr) (S := S) P
          rw [wrL1_length] at this
          rw [hs, hr]
          omega
        have hS1 : (S1.fs.length : Int) ≤ fr ∧ (0 ≤ S1.sz ∧ S1.sz ≤ 2000) ∧ S1.sr ≤ 1000001 := by
          rcases hq with ⟨_, rfl⟩ | ⟨h, _⟩
          · exact ⟨by show ((0 : Nat) : Int) ≤ fr; omega, hok, by show S.sr + 1 ≤ _; omega⟩
          · exact absurd rfl h
        have hBd : Below W.heap.size W W.drew := (Below.refl _ _).drew
        have i6d := i6.grow hBd
        have HA := append_gives W.drew l d many s1 fr pg S1 (hLw.grow hBd) (hDw.grow hBd) hO1 hl1 A1 n c xs pw hn i6d.row i6d.bys hpl z hS1.1 hS1.2.1 (by omega) (by omega) (by have := hS1.2.2; omega)
        refine ⟨enters_of Tryz.func70 (by kernel_rfl) rfl, (fcom1_gives W a0 a1 a2 f l fr pg z A1 n c i3 i4 i5 i1 (fun x w' => ∃ s' S', AppOut fr pg s1 S1 n xs pw z x s' S' ∧ DkS w' d many s' ∧ LogIs w' l d fr pg S' ∧ GrowBut (fun k => k = d ∨ k = l) W w') (HA.mono ?_)).mono ?_⟩
        · rintro e w2 ⟨x, s', S', rfl, hAp, hD2, hL2, hG2⟩
          exact ⟨x, rfl, s', S', hAp, hD2, hL2, (GrowBut.grown (grownBy_drew W none) (fun r e => by cases e)).trans hG2⟩
        · rintro e w2 ⟨x, rfl, s', S', hAp, hD2, hL2, hG2⟩
          have hG3 := i7.trans hG2
          by_cases hz : x = 0
          · subst hz
            exact .inl ⟨rfl, ⟨hG2.blk i1 nf, hG2.blk i2 ng, hG2.blk i3 n0, hG2.blk i4 n1, hG2.blk i5 n2, i6.keep hDw hLw hdB hlB hG2, hG3⟩, (fun e => by cases e), (fun e => by cases e), (fun _ => ⟨s', S', ⟨0, s1, S1, hC, .inr ⟨rfl, hAp⟩⟩, hD2, hL2⟩)⟩
          · exact .inr ⟨x, hz, rfl, s', S', ⟨0, s1, S1, hC, .inr ⟨rfl, hAp⟩⟩, hD2, hL2, hG3⟩
      | k + 2, h => exact absurd h (by simp [cmFs]))
    ⟨⟨hb.below hBV hb.lt, f0, h0.below hBV h0.lt, h1.below hBV h1.lt, h2.below hBV h2.lt, hA.grow hBV, GrowBut.below hBV⟩, (fun _ => rfl), (fun e => by cases e), (fun e => by cases e)⟩
  refine HS.mono ?_
  rintro e w2 (⟨rfl, ⟨_, _, _, _, _, _, h5⟩, _, _, r2⟩ | ⟨x, hx, rfl, s', S', hC, hD2, hL2, hG2⟩)
  · obtain ⟨s', S', hC, hD2, hL2⟩ := r2 rfl
    exact ⟨0, s', S', rfl, hC, hD2, hL2, h5⟩
  · exact ⟨x, s', S', rfl, hC, hD2, hL2, hG2⟩
set_option maxRecDepth 100000 in
set_option maxHeartbeats 8000000 in
/-- file: Commit. -/
theorem fcommit_gives (w : World) (f l d many B : Nat) (fr pg : Int) (s : DS) (S : LgS) (hb : BlkIs w f 121 (flFC l fr pg)) (hL : LogIs w l d fr pg S) (hD : DkS w d many s) (hO : s.Ok) (hl : s.xs.length ≤ 100000) (hfr : (S.fs.length : Int) ≤ fr) (hy : ∀ x ∈ S.fs, x.y.length = 512) (hpl : planOk fr pg = true) (hmany : (many : Int) = 2 + 9 * fr + 8 * pg) (hmax : many ≤ 100000) (P : Nat) (hP : (P : Int) = pg) (hP2 : P ≤ 1000) (hYb : ∀ k y, pgY S.fs k = some y → 0 ≤ k ∧ k < (P : Int)) (hok : 0 ≤ S.sz ∧ S.sz ≤ 2000) (hsr : S.sr ≤ 1000000) (hep : S.ep ≤ 1000000)
    (A1 : Option Addr) (n c : Nat) (xs : Nat → Int × Option Addr × Nat) (pw : Nat → Int × List UInt8) (hn : n ≤ 1000) (hA : PwArgs w B A1 n xs pw) (hdB : d < B) (hlB : l < B) (z : Int) :
    Calls Tryz.prog 31 #[.pointer (some ⟨f, 0, none⟩), .int .i64 z, .slice A1 n c] w fun e w' => ∃ x s' S', e = .returned (.int .i64 x) ∧ ComOut fr pg P s S n xs pw z x s' S' ∧ DkS w' d many s' ∧ LogIs w' l d fr pg S' ∧ GrowBut (fun k => k = d ∨ k = l) w w' := by
  have hpr := (planOk_iff fr pg).1 hpl
  obtain ⟨W3, hW3⟩ : ∃ W3, W3 = ((w.alloc (.cells #[.pointer (some ⟨f, 0, none⟩)] 70)).alloc (.cells #[.int .i64 z] 3)).alloc (.cells #[.slice A1 n c] 44) := ⟨_, rfl⟩
  have hB3 : Below w.heap.size w W3 := by rw [hW3]; exact (((Below.refl _ w).alloc (Nat.le_refl _) _).alloc (by simp) _).alloc (by simp; omega) _
  have b0 : BlkIs W3 w.heap.size 70 #[.pointer (some ⟨f, 0, none⟩)] := by rw [hW3]; exact ((BlkIs.new w _ _).alloc _).alloc _
  have b1 : BlkIs W3 (w.heap.size + 1) 3 #[.int .i64 z] := by
    have := BlkIs.new (w.alloc (.cells #[.pointer (some ⟨f, 0, none⟩)] 70)) 3 #[.int .i64 z]
    rw [World.size_alloc] at this
    rw [hW3]
    exact this.alloc _
  have b2 : BlkIs W3 (w.heap.size + 1 + 1) 44 #[.slice A1 n c] := by
    have := BlkIs.new ((w.alloc (.cells #[.pointer (some ⟨f, 0, none⟩)] 70)).alloc (.cells #[.int .i64 z] 3)) 44 #[.slice A1 n c]
    rw [World.size_alloc, World.size_alloc] at this
    rw [hW3]
    exact this
  have hfl := hb.lt
  have hdl := hD.lt
  have hll : l < w.heap.size := by obtain ⟨_, A, c, vs, hlg, _⟩ := hL; exact hlg.lt
  have nf : ¬ (f = d ∨ f = l) := fun e => by
    obtain ⟨rr, A', c', hdk, _⟩ := DkIs.has hD
    obtain ⟨_, A, c, vs, hlg, _⟩ := hL
    rcases e with rfl | rfl
    · exact BlkIs.ne_type hb hdk (by decide) rfl
    · exact BlkIs.ne_type hb hlg (by decide) rfl
  have hb3 := hb.below hB3 hfl
  have hL3 := hL.grow hB3
  have hD3 := hD.grow hB3
  have hA3 := hA.grow hB3
  have c0 : W3.cell? ⟨w.heap.size, 0, none⟩ = some (.pointer (some ⟨f, 0, none⟩)) := b0.boxed
  have HN := fnone_gives hb3
  have hBd : Below W3.heap.size W3 W3.drew := (Below.refl _ _).drew
  have hAd := hA3.grow hBd
  have HAp := append_gives W3.drew l d many s fr pg S (hL3.grow hBd) (hD3.grow hBd) hO (by omega) A1 n c xs pw hn hAd.row hAd.bys hpl z hfr hok (by omega) (by omega) (by omega)
  have T0 : ∀ W, Below W3.heap.size W3 W → W.cell? ⟨w.heap.size, 0, none⟩ = some (.pointer (some ⟨f, 0, none⟩)) := fun W hW => (b0.below hW b0.lt).boxed
  have T1 : ∀ W, Below W3.heap.size W3 W → W.cell? ⟨w.heap.size + 1, 0, none⟩ = some (.int .i64 z) := fun W hW => (b1.below hW b1.lt).boxed
  have T2 : ∀ W, Below W3.heap.size W3 W → W.cell? ⟨w.heap.size + 1 + 1, 0, none⟩ = some (.slice A1 n c) := fun W hW => (b2.below hW b2.lt).boxed
  have TF : ∀ W, Below W3.heap.size W3 W → W.cell? ⟨f, 0, none⟩ = some (.pointer (some ⟨l, 0, none⟩)) := fun W hW => by rw [(hb3.below hW hb3.lt).cell]; rfl
  go_enter Tryz.func31, Tryz.ntmps31
  rw [hW3] at c0
  have HW3 := Lib.hid hW3
  clear hW3
  go_wp2_with (go_at_call 68; rw [← HW3.out]; refine HN.mono ?_; rintro e w' ⟨rfl, rfl⟩)
  have hS0 : Below W3.heap.size W3 W3.drew := hBd
  refine RegM.start (fun W => Below W3.heap.size W3 W) [6, 7] (by kernel_rfl) ?_
  refine RegM.take1 0 (.pointer (some ⟨f, 0, none⟩)) rfl (by kernel_rfl) (by kernel_rfl) (by kernel_rfl) (by kernel_rfl) (by kernel_rfl) rfl (fun _ _ _ h => h) hS0 (RegF.yld rfl (fun W hW => by have q := T0 W hW; go_simp)) ?_
  simp only [List.getElem_toArray, List.getElem_cons_zero, Act.put, List.setIfInBounds_toArray, List.set_cons_zero, List.set_cons_succ]
  refine RegM.take1 1 (.pointer (some ⟨f, 0, none⟩)) rfl (by kernel_rfl) (by kernel_rfl) (by kernel_rfl) (by kernel_rfl) (by kernel_rfl) rfl (fun _ _ _ h => h) hS0 (RegF.yld rfl (fun W hW => by go_simp)) ?_
  simp only [List.getElem_toArray, List.getElem_cons_succ, List.getElem_cons_zero, Act.put, List.setIfInBounds_toArray, List.set_cons_zero, List.set_cons_succ]
  refine RegM.take1 2 (.pointer (some ⟨f, 0, none⟩)) rfl (by kernel_rfl) (by kernel_rfl) (by kernel_rfl) (by kernel_rfl) (by kernel_rfl) rfl (fun _ _ _ h => h) hS0 (RegF.yld rfl (fun W hW => by go_simp)) ?_
  simp only [List.getElem_toArray, List.getElem_cons_succ, List.getElem_cons_zero, Act.put, List.setIfInBounds_toArray, List.set_cons_zero, List.set_cons_succ]
  refine RegM.take1 3 (.pointer (some ⟨l, 0, none⟩)) rfl (by kernel_rfl) (by kernel_rfl) (by kernel_rfl) (by kernel_rfl) (by kernel_rfl) rfl (fun _ _ _ h => h) hS0 (RegF.yld rfl (fun W hW => by have q := TF W hW; go_simp)) ?_
  simp only [List.getElem_toArray, List.getElem_cons_succ, List.getElem_cons_zero, Act.put, List.setIfInBounds_toArray, List.set_cons_zero, List.set_cons_succ]
  refine RegM.take1 4 (.int .i64 z) rfl (by kernel_rfl) (by kernel_rfl) (by kernel_rfl) (by kernel_rfl) (by kernel_rfl) rfl (fun _ _ _ h => h) hS0 (RegF.yld rfl (fun W hW => by have q := T1 W hW; go_simp)) ?_
  simp only [List.getElem_toArray, List.getElem_cons_succ, List.getElem_cons_zero, Act.put, List.setIfInBounds_toArray, List.set_cons_zero, List.set_cons_succ]
  refine RegM.take1 5 (.slice A1 n c) rfl (by kernel_rfl) (by kernel_rfl) (by kernel_rfl) (by kernel_rfl) (by kernel_rfl) rfl (fun _ _ _ h => h) hS0 (RegF.yld rfl (fun W hW => by have q := T2 W hW; go_simp)) ?_
  simp only [List.getElem_toArray, List.getElem_cons_succ, List.getElem_cons_zero, Act.put, List.setIfInBounds_toArray, List.set_cons_zero, List.set_cons_succ]
  refine RegM.one 6 (by kernel_rfl) ?_
  refine RegF.opC 14 #[.tmp 13, .tmp 14, .tmp 15] #[33, 3, 44] rfl rfl rfl (enters_of Tryz.func14 (by kernel_rfl) rfl) #[.pointer (some ⟨l, 0, none⟩), .int .i64 z, .slice A1 n c] (by simp only [List.map_toArray, List.map_cons, List.map_nil]; rfl) (HAp.mono ?_)
  rintro e w4 ⟨x, s4, S4, rfl, hOut, hD4, hL4, hG4⟩
  refine ⟨_, rfl, fun h => (by cases h), ?_⟩
  simp only [List.getElem_toArray, List.getElem_cons_succ, List.getElem_cons_zero, Act.put, List.setIfInBounds_toArray, List.set_cons_zero, List.set_cons_succ]
  refine RegM.one 7 (by kernel_rfl) (RegF.opV (w' := w4) (.int .i64 x) rfl rfl (by go_simp) ⟨fun h => (by cases h), RegM.done (by kernel_rfl) ?_⟩)
  simp only [List.getElem_toArray, List.getElem_cons_succ, List.getElem_cons_zero, Act.put, List.setIfInBounds_toArray, List.set_cons_zero, List.set_cons_succ]
  have hG34 : GrowBut (fun k => k = d ∨ k = l) W3 w4 := (GrowBut.grown (grownBy_drew W3 none) (fun r e => by cases e)).trans hG4
  have hGw4 : GrowBut (fun k => k = d ∨ k = l) w w4 := (GrowBut.below hB3).trans hG34
  have s3 : w.heap.size + 3 ≤ W3.heap.size := by have := b2.lt; omega
  have b04 := hG34.blk b0 (fun e => by omega)
  have b14 := hG34.blk b1 (fun e => by omega)
  have b24 := hG34.blk b2 (fun e => by omega)
  have hb4 := hG34.blk hb3 nf
  have hA4 := hA3.keep hD3 hL3 hdB hlB hG34
  clear T0 T1 T2 TF HAp HN c0 hAd
  have c2 : w4.cell? ⟨w.heap.size + 1 + 1, 0, none⟩ = some (.slice A1 n c) := b24.boxed
  have c0 : w4.cell? ⟨w.heap.size, 0, none⟩ = some (.pointer (some ⟨f, 0, none⟩)) := b04.boxed
  have cf : w4.cell? ⟨f, 1, none⟩ = some (.int .i64 fr) := by rw [hb4.cell]; rfl
  by_cases hx : x = 160
  · subst hx
    obtain ⟨rfl, rfl⟩ := hOut.full
    by_cases hnf : (n : Int) ≤ fr
    · have hg : ¬ fr < (n : Int) := by omega
      have hBd4 : ∀ q, Below w4.heap.size w4 (w4.drewN q) := fun q => ⟨rfl, rfl, rfl, Nat.le_refl _, fun _ _ => rfl⟩
      have HC : ∀ q, _ := fun q => cmS_gives (w4.drewN q) f l d many w.heap.size (w.heap.size + 1) (w.heap.size + 1 + 1) B fr pg s4 S4 (hb4.below (hBd4 q) hb4.lt) (hL4.grow (hBd4 q)) (hD4.grow (hBd4 q)) hO hl hfr hy hpl hmany hmax P hP hP2 hYb hok hsr hep A1 n c xs pw hn (hA4.grow (hBd4 q)) hdB hlB z (b04.below (hBd4 q) b04.lt) (b14.below (hBd4 q) b14.lt) (b24.below (hBd4 q) b24.lt)
      have HO := Lib.hid hOut
      clear hOut hO hl hfr hy hpl hmany hmax hYb hok hsr hep hb hL hD hA hb3 hL3 hD3 hA3 hA4 b0 b1 b2
      go_wp2_with fail
      go_quiet (fail)
      have c0q : (w4.drewN nq).cell? ⟨w.heap.size, 0, none⟩ = some (.pointer (some ⟨f, 0, none⟩)) := c0
      go_wp2_with (go_at_call 69; refine (HC nq).mono ?_; rintro e w6 ⟨x, s', S', rfl, ⟨x1, s1, S1, hC, hq⟩, hD6, hL6, hG6⟩; have HQ := Lib.hid hq; clear hq)
      go_ret
      exact ⟨x, s', S', rfl, .inr ⟨HO.out, hnf, x1, s1, S1, hC, HQ.out⟩, hD6, hL6, hGw4.trans ((GrowBut.below (hBd4 nq)).trans hG6)⟩
    · have hg : fr < (n : Int) := by omega
      have HO := Lib.hid hOut
      clear hOut hO hl hfr hy hpl hmany hmax hYb hok hsr hep hb hL hD hA hb3 hL3 hD3 hA3 hA4 b0 b1 b2
      go_wp2_with fail
      go_quiet (fail)
      go_wp2
      go_ret
      have hBq : Below w4.heap.size w4 (w4.drewN nq) := ⟨rfl, rfl, rfl, Nat.le_refl _, fun _ _ => rfl⟩
      exact ⟨160, s4, S4, rfl, .inl ⟨HO.out, fun h => by have := h.2; omega⟩, hD4.grow hBq, hL4.grow hBq, hGw4.trans (GrowBut.below hBq)⟩
  · have hxb : (x == 160) = false := by rw [beq_eq_false_iff_ne]; exact hx
    have HO := Lib.hid hOut
    clear hOut hO hl hfr hy hpl hmany hmax hYb hok hsr hep hb hL hD hA hb3 hL3 hD3 hA3 hA4 b0 b1 b2
    go_wp2_with fail
    go_quiet (fail)
    go_wp2
    go_ret
    have hBq : Below w4.heap.size w4 (w4.drewN nq) := ⟨rfl, rfl, rfl, Nat.le_refl _, fun _ _ => rfl⟩
    exact ⟨x, s4, S4, rfl, .inl ⟨HO.out, fun h => hx h.1⟩, hD4.grow hBq, hL4.grow hBq, hGw4.trans (GrowBut.below hBq)⟩
end Go.Proofs.YtocnabpplbeafaaGreat
/- file: CheckIn, in plain words. -/
namespace Go.Proofs.YtocnabpplbeafaaGreat
open Go Go.RowKit Lou

theorem pageW_wide {fr : Int} {S : LgS} (hy : ∀ x ∈ S.fs, x.y.length = 512) (p : Nat) : Wide (pageW fr S p) := by
  intro x hx
  unfold pageW at hx
  split at hx
  · next y h =>
    obtain ⟨u, hu, rfl⟩ := pgY_mem h
    exact wrL_wide (by have := hy u hu; omega) x hx
  · cases hx
theorem layW_wide {fr : Int} {S : LgS} (hy : ∀ x ∈ S.fs, x.y.length = 512) : ∀ k, Wide (layW fr S k)
  | 0 => fun x h => by cases h
  | k + 1 => fun x h => by
    rcases List.mem_append.1 h with h | h
    · exact layW_wide hy k x h
    · exact pageW_wide hy k x h
/-- CheckIn that no stop holds up. -/
theorem chk_plain {fr pg : Int} {G : Nat → List UInt8} {S : LgS} {i : Nat} (h : StP fr pg G S i) (hi : i ≤ 1000) (hpl : planOk fr pg = true) (P : Nat) (left : Int) :
    ∃ G2, appD ⟨G, [], left, false⟩ (layW fr S P) (wrL ((S.sr + 1) % 2) (hEnc (S.sr + 1) (S.ep + 1) S.sz 0) 1) = (⟨G2, [], left, false⟩, 0) ∧ StP fr pg G2 ⟨S.sr + 1, S.ep + 1, S.sz, []⟩ (i + 1) ∧ ∀ p, p < P → fileY G2 fr ⟨S.sr + 1, S.ep + 1, S.sz, []⟩ p = fileY G fr S p := by
  have hpr := (planOk_iff fr pg).1 hpl
  obtain ⟨⟨hz, hli⟩, h1, h2, h3, h4⟩ := id h
  have hy := h.y
  have hI := hli.layW h3 (xs := layW fr S P) (k := P) (fun x hx => hx) (laid_len _ G hli.len (layW_wide hy P))
  obtain ⟨G2, e, hLI⟩ := hI.reset (by omega) (by omega) ⟨h4.1, by omega⟩ left
  have e2 := layD_free (s := ⟨laid G (layW fr S P), [], left, false⟩) rfl (wrL ((S.sr + 1) % 2) (hEnc (S.sr + 1) (S.ep + 1) S.sz 0) 1)
  rw [e2] at e
  injection e with e _
  injection e with e _ _ _
  refine ⟨laid (laid G (layW fr S P)) (wrL ((S.sr + 1) % 2) (hEnc (S.sr + 1) (S.ep + 1) S.sz 0) 1), appD_free (s := ⟨G, [], left, false⟩) rfl _ _, ⟨⟨S.sz.toNat, ?_⟩, by show S.sr + 1 ≤ _; omega, by show S.ep + 1 ≤ _; omega, by show ((0 : Nat) : Int) ≤ fr; omega, h4⟩, fun p hp => ?_⟩
  · rw [← e] at hLI
    exact hLI
  · rw [← fileY_empty (S' := ⟨S.sr + 1, S.ep + 1, S.sz, []⟩) hy rfl hp]
    unfold fileY fpY
    show secsOf _ _ 8 = secsOf _ _ 8
    rw [headL_one ⟨h4.1, by omega⟩ ⟨by omega, by omega⟩]
    refine secsOf_away _ 8 (fun q h5 h6 => laid_away _ _ q (fun x hx => ?_))
    obtain rfl := List.mem_singleton.1 hx
    show (S.sr + 1) % 2 ≠ q
    omega
end Go.Proofs.YtocnabpplbeafaaGreat
/- file: CheckIn under a stop, and a crash: what was laid of the pages, in plain words. -/
namespace Go.Proofs.YtocnabpplbeafaaGreat
open Go Go.RowKit Lou

theorem layW_none {fr : Int} {S : LgS} {p : Nat} (h : pgY S.fs (p : Int) = none) : ∀ (k : Nat) (x : Nat × List UInt8), x ∈ layW fr S k → ¬ (2 + 9 * fr.toNat + 8 * p ≤ x.1 ∧ x.1 < 2 + 9 * fr.toNat + 8 * p + 8)
  | 0, x, hx => by cases hx
  | k + 1, x, hx => by
    rcases List.mem_append.1 hx with hx | hx
    · exact layW_none h k x hx
    · by_cases e : k = p
      · subst e
        unfold pageW at hx
        rw [h] at hx
        cases hx
      · have := pageW_first hx
        omega
/-- Whatever of lay's writes a crash keeps, the file tells the same. -/
theorem fileY_crash {fr : Int} {S : LgS} {s : DS} {k : Nat} (hx : ∀ x ∈ s.xs, x ∈ layW fr S k) (bs : List Bool) (t p : Nat) : fileY (crD s bs t) fr S p = fileY s.g fr S p := by
  unfold fileY fpY
  cases h : pgY S.fs (p : Int) with
  | some y => rfl
  | none => exact secsOf_away _ 8 (fun q h1 h2 => crD_away (fun x hx2 e => layW_none h k x (hx x hx2) (by omega)) bs t)
theorem li_crashW {G : Nat → List UInt8} {S : LgS} {hz : Nat} (h : LI G S hz) {fr : Int} (hfs : (S.fs.length : Int) ≤ fr) {s : DS} (hg : s.g = G) {k : Nat} (hx : ∀ x ∈ s.xs, x ∈ layW fr S k) (hw : Wide s.xs) (bs : List Bool) (t : Nat) : LI (crD s bs t) S hz :=
  h.away (fun q hq => by rw [crD_away (fun x hx2 => by have := layW_first (hx x hx2); omega), hg]) (crD_len (by rw [hg]; exact h.len) hw bs t)
end Go.Proofs.YtocnabpplbeafaaGreat
