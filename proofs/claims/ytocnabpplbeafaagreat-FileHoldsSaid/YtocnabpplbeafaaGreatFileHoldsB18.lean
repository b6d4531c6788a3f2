/- Texts that the proof of FileHolds leans on, part 18. -/
import Derived.Test.YtocnabpplbeafaaGreatFileHoldsB17
/- file: CheckIn under a stop, and a crash, in plain words. -/
namespace Go.Proofs.YtocnabpplbeafaaGreat
open Go Go.RowKit Lou

theorem fileY_same {G H : Nat → List UInt8} {fr : Int} {S : LgS} (h : ∀ k, 2 ≤ k → H k = G k) (p : Nat) : fileY H fr S p = fileY G fr S p := by
  unfold fileY fpY
  cases pgY S.fs (p : Int) with
  | some y => rfl
  | none => exact secsOf_away _ 8 (fun q h1 h2 => h q (by omega))
theorem chk_crash {fr pg : Int} {G : Nat → List UInt8} {S : LgS} {i : Nat} (h : StP fr pg G S i) (hi : i ≤ 1000) (hpl : planOk fr pg = true) (P : Nat) (left : Int) (st : Bool) (r : DS × Int)
    (hr : r = appD ⟨G, [], left, st⟩ (layW fr S P) (wrL ((S.sr + 1) % 2) (hEnc (S.sr + 1) (S.ep + 1) S.sz 0) 1)) (bs : List Bool) (t : Nat) :
    ∃ S2 hz2, LogOn (crD r.1 bs t) S2 hz2 ∧ (S2 = S ∨ S2 = ⟨S.sr + 1, S.ep + 1, S.sz, []⟩) ∧ ∀ p, p < P → fileY (crD r.1 bs t) fr S2 p = fileY G fr S p := by
  have hy := h.y
  obtain ⟨Gn, en, hSt, hYn⟩ := chk_plain h hi hpl P left
  have e2 := appD_free (s := ⟨G, [], left, false⟩) rfl (layW fr S P) (wrL ((S.sr + 1) % 2) (hEnc (S.sr + 1) (S.ep + 1) S.sz 0) 1)
  rw [e2] at en
  injection en with en _
  injection en with en _ _ _
  obtain ⟨hzn, hLn⟩ := hSt.li
  obtain ⟨⟨hz, hli⟩, h1, h2, h3, h4⟩ := id h
  have hpr := (planOk_iff fr pg).1 hpl
  have hI := hli.layW h3 (xs := layW fr S P) (k := P) (fun x hx => hx) (laid_len _ G hli.len (layW_wide hy P))
  have hYl : ∀ p, p < P → fileY (laid G (layW fr S P)) fr S p = fileY G fr S p := fun p hp => fileY_laid hy hp
  have hW := layW_wide (fr := fr) (S := S) hy P
  have hH := headL_one (s := S.sr + 1) (e := S.ep + 1) (z := S.sz) (c := 0) ⟨h4.1, by omega⟩ ⟨by omega, by omega⟩
  rw [hH] at hr en
  obtain ⟨H, hHd⟩ : ∃ H, H = headW (S.sr + 1) (S.ep + 1) S.sz.toNat (0 : Int).toNat := ⟨_, rfl⟩
  have hHl : H.length = 64 := by rw [hHd]; exact headW_length _ _ _ _
  rw [← hHd] at hr en
  have en' : laid (laid G (layW fr S P)) [((S.sr + 1) % 2, H)] = Gn := en
  obtain ⟨s1, hs1⟩ : ∃ s1, s1 = wrs ⟨G, [], left, st⟩ (layW fr S P) := ⟨_, rfl⟩
  have hg1 : s1.1.g = G := by rw [hs1]; exact (wrs_g _ _).1
  have hm1 : ∀ x ∈ s1.1.xs, x ∈ layW fr S P := fun x hx => by
    rw [hs1] at hx
    rcases wrs_mem _ _ x hx with h | h
    · cases h
    · exact h
  have hA : ∃ S2 hz2, LogOn (crD s1.1 bs t) S2 hz2 ∧ (S2 = S ∨ S2 = ⟨S.sr + 1, S.ep + 1, S.sz, []⟩) ∧ ∀ p, p < P → fileY (crD s1.1 bs t) fr S2 p = fileY G fr S p :=
    ⟨S, hz, (li_crashW hli h3 hg1 hm1 (fun x hx => hW x (hm1 x hx)) bs t).on, .inl rfl, fun p _ => by rw [fileY_crash hm1, hg1]⟩
  unfold appD at hr
  rw [← hs1] at hr
  by_cases hz1 : s1.2 = 0
  · rw [if_pos hz1] at hr
    have hx1 : s1.1.xs = layW fr S P := by
      rw [hs1] at hz1 ⊢
      exact wrs_all _ _ hz1
    obtain ⟨s2, hs2⟩ : ∃ s2, s2 = synD s1.1 := ⟨_, rfl⟩
    rw [← hs2] at hr
    unfold synD at hs2
    cases hst : s1.1.stopped
    · rw [hst, hg1, hx1] at hs2
      simp only [Bool.false_eq_true, if_false] at hs2
      rw [hs2] at hr
      simp only [if_true] at hr
      unfold layD at hr
      obtain ⟨s3, hs3⟩ : ∃ s3, s3 = (⟨laid G (layW fr S P), [], Proofs.YtocnabpplbeafaaGreat.lft s1.1.st s1.1.left, s1.1.st⟩ : DS) := ⟨_, rfl⟩
      rw [← hs3] at hr
      have hg3 : s3.g = laid G (layW fr S P) := by rw [hs3]
      have hx3 : s3.xs = [] := by rw [hs3]
      clear hs3
      cases hst3 : s3.stopped
      · rw [wrs_cons_ok hst3] at hr
        have hw : wrs (s3.push ((S.sr + 1) % 2, H)) [] = (s3.push ((S.sr + 1) % 2, H), 0) := rfl
        rw [hw] at hr
        simp only [if_true] at hr
        have hx4 : (s3.push ((S.sr + 1) % 2, H)).xs = [((S.sr + 1) % 2, H)] := by unfold DS.push; rw [hx3]; rfl
        have hg4 : (s3.push ((S.sr + 1) % 2, H)).g = laid G (layW fr S P) := hg3
        generalize s3.push ((S.sr + 1) % 2, H) = s4 at *
        unfold synD at hr
        cases hst4 : s4.stopped
        · rw [hst4] at hr
          simp only [Bool.false_eq_true, if_false] at hr
          have hc : crD r.1 bs t = Gn := by
            rw [hr, crD_none rfl]
            show laid s4.g s4.xs = _
            rw [hg4, hx4, en']
          rw [hc]
          exact ⟨_, hzn, hLn.on, .inr rfl, hYn⟩
        · rw [hst4] at hr
          simp only [if_true] at hr
          rw [hr]
          show ∃ S2 hz2, LogOn (crD s4 bs t) S2 hz2 ∧ _ ∧ ∀ p, p < P → fileY (crD s4 bs t) fr S2 p = _
          obtain ⟨m, hm⟩ := crD_one hx4 hHl (by rw [hg4]; exact hI.len) bs t
          rw [hg4, hHd] at hm
          rcases hI.torn hm with h5 | h5
          · exact ⟨S, hz, h5, .inl rfl, fun p hp => by rw [fileY_same (G := laid G (layW fr S P)) (fun k hk => by rw [hm, if_neg (by omega)]) p]; exact hYl p hp⟩
          · rw [h5, ← hHd, en']
            exact ⟨_, hzn, hLn.on, .inr rfl, hYn⟩
      · rw [wrs_cons_bad hst3] at hr
        simp only [show ¬ (140 : Int) = 0 by decide, if_false] at hr
        rw [hr]
        show ∃ S2 hz2, LogOn (crD s3 bs t) S2 hz2 ∧ _ ∧ ∀ p, p < P → fileY (crD s3 bs t) fr S2 p = _
        rw [crD_none hx3, hg3]
        exact ⟨S, hz, hI.on, .inl rfl, hYl⟩
    · rw [hst] at hs2
      simp only [if_true] at hs2
      rw [hs2] at hr
      simp only [show ¬ (140 : Int) = 0 by decide, if_false] at hr
      rw [hr]
      exact hA
  · rw [if_neg hz1] at hr
    rw [hr]
    exact hA
end Go.Proofs.YtocnabpplbeafaaGreat
/- file: an Append leaves the pages' sectors as they were, whatever stop and crash come. -/
namespace Go.Proofs.YtocnabpplbeafaaGreat
open Go Go.RowKit Lou

theorem fileY_pages {G H : Nat → List UInt8} {fr : Int} {S : LgS} (h : ∀ k, 2 + 9 * fr.toNat ≤ k → H k = G k) (p : Nat) : fileY H fr S p = fileY G fr S p := by
  unfold fileY fpY
  cases pgY S.fs (p : Int) with
  | some y => rfl
  | none => exact secsOf_away _ 8 (fun q h1 h2 => h q (by omega))
/-- What writes below a sector leave of those from it on. -/
theorem crD_above {s : DS} {G : Nat → List UInt8} {B : Nat} (hg : ∀ k, B ≤ k → s.g k = G k) (hx : ∀ x ∈ s.xs, x.1 < B) (bs : List Bool) (t k : Nat) (hk : B ≤ k) : crD s bs t k = G k := by
  rw [crD_away (fun x hx2 e => by have := hx x hx2; omega), hg k hk]
theorem syn_above {s : DS} {G : Nat → List UInt8} {B : Nat} (hg : ∀ k, B ≤ k → s.g k = G k) (hx : ∀ x ∈ s.xs, x.1 < B) : (∀ k, B ≤ k → (synD s).1.g k = G k) ∧ ∀ x ∈ (synD s).1.xs, x.1 < B := by
  unfold synD
  split
  · exact ⟨hg, hx⟩
  · refine ⟨fun k hk => ?_, fun x h => by cases h⟩
    show laid s.g s.xs k = G k
    rw [laid_away _ _ k (fun x hx2 e => by have := hx x hx2; omega), hg k hk]
theorem wrs_above {s : DS} {G : Nat → List UInt8} {B : Nat} (hg : ∀ k, B ≤ k → s.g k = G k) (hx : ∀ x ∈ s.xs, x.1 < B) {L : List (Nat × List UInt8)} (hL : ∀ x ∈ L, x.1 < B) : (∀ k, B ≤ k → (wrs s L).1.g k = G k) ∧ ∀ x ∈ (wrs s L).1.xs, x.1 < B :=
  ⟨fun k hk => by rw [(wrs_g L s).1]; exact hg k hk, fun x h => by rcases wrs_mem L s x h with h | h; exact hx x h; exact hL x h⟩
theorem appD_above {s : DS} {G : Nat → List UInt8} {B : Nat} (hg : ∀ k, B ≤ k → s.g k = G k) (hx : ∀ x ∈ s.xs, x.1 < B) {L1 L2 : List (Nat × List UInt8)} (h1 : ∀ x ∈ L1, x.1 < B) (h2 : ∀ x ∈ L2, x.1 < B) : (∀ k, B ≤ k → (appD s L1 L2).1.g k = G k) ∧ ∀ x ∈ (appD s L1 L2).1.xs, x.1 < B := by
  obtain ⟨a1, a2⟩ := wrs_above hg hx h1
  obtain ⟨b1, b2⟩ := syn_above a1 a2
  obtain ⟨c1, c2⟩ := wrs_above b1 b2 h2
  obtain ⟨d1, d2⟩ := syn_above c1 c2
  unfold appD layD
  split
  · split
    · split
      · exact ⟨d1, d2⟩
      · exact ⟨c1, c2⟩
    · exact ⟨b1, b2⟩
  · exact ⟨a1, a2⟩
end Go.Proofs.YtocnabpplbeafaaGreat
/- file: Commit and CheckIn, with and without a stop and a crash, in plain words. -/
namespace Go.Proofs.YtocnabpplbeafaaGreat
open Go Go.RowKit Lou

/-- Pages of the plan alone. -/
def PgIn (pg : Int) (S : LgS) : Prop := ∀ x ∈ S.fs, 0 ≤ x.p ∧ x.p < pg
theorem pgY_p : ∀ (l : List FrP) (r : Option (List UInt8)) {p : Int} {y : List UInt8}, l.foldl (fun r (x : FrP) => if x.p = p then some x.y else r) r = some y → r = some y ∨ ∃ x ∈ l, x.p = p
  | [], r, p, y, h => .inl h
  | x :: l, r, p, y, h => by
    rw [List.foldl_cons] at h
    rcases pgY_p l _ h with h1 | ⟨u, h1, h2⟩
    · by_cases hp : x.p = p
      · exact .inr ⟨x, by simp, hp⟩
      · rw [if_neg hp] at h1
        exact .inl h1
    · exact .inr ⟨u, by simp [h1], h2⟩
theorem PgIn.b {pg : Int} {S : LgS} (h : PgIn pg S) {P : Nat} (hP : (P : Int) = pg) : ∀ k y, pgY S.fs k = some y → 0 ≤ k ∧ k < (P : Int) := fun k y hy => by
  rcases pgY_p S.fs none hy with h1 | ⟨x, h1, rfl⟩
  · cases h1
  · have := h x h1
    omega
theorem addK_p {ep : Nat} {z : Int} {fs : List FrP} {n : Nat} {pw : Nat → Int × List UInt8} : ∀ k x, x ∈ addK ep z fs n pw k → x ∈ fs ∨ ∃ j, j < k ∧ x.p = (pw j).1
  | 0, x, h => .inl h
  | k + 1, x, h => by
    unfold addK at h
    rcases List.mem_append.1 h with h | h
    · rcases addK_p k x h with h1 | ⟨j, h1, h2⟩
      · exact .inl h1
      · exact .inr ⟨j, by omega, h2⟩
    · rw [List.mem_singleton] at h
      subst h
      exact .inr ⟨k, by omega, rfl⟩
theorem PgIn.more {pg z : Int} {S : LgS} {n : Nat} {pw : Nat → Int × List UInt8} (h : PgIn pg S) (hm : ∀ k, k < n → 0 ≤ (pw k).1 ∧ (pw k).1 < pg) : PgIn pg (newS S z n pw) := fun x hx => by
  rcases addK_p n x hx with h1 | ⟨j, h1, h2⟩
  · exact h x h1
  · rw [h2]
    exact hm j h1
/-- What so many pages tell of one. -/
def lastPw (pw : Nat → Int × List UInt8) (p : Int) : Nat → Option (List UInt8)
  | 0 => none
  | k + 1 => if (pw k).1 = p then some (pw k).2 else lastPw pw p k
theorem pgY_addK (ep : Nat) (z : Int) (fs : List FrP) (n : Nat) (pw : Nat → Int × List UInt8) (p : Int) : ∀ k, pgY (addK ep z fs n pw k) p = match lastPw pw p k with | some y => some y | none => pgY fs p
  | 0 => rfl
  | k + 1 => by
    unfold addK lastPw
    rw [pgY_snoc]
    show (if (pw k).1 = p then some (pw k).2 else _) = _
    by_cases h : (pw k).1 = p
    · rw [if_pos h, if_pos h]
    · rw [if_neg h, if_neg h]
      exact pgY_addK ep z fs n pw p k
theorem fileY_newS (G : Nat → List UInt8) (fr : Int) (S : LgS) (z : Int) (n : Nat) (pw : Nat → Int × List UInt8) (p : Nat) : fileY G fr (newS S z n pw) p = (lastPw pw (p : Int) n).getD (fileY G fr S p) := by
  unfold fileY fpY
  show (pgY (addK S.ep z S.fs n pw n) (p : Int)).getD _ = _
  rw [pgY_addK]
  cases lastPw pw (p : Int) n <;> rfl
/-- What a file tells; what it is to tell behind a Commit. -/
def tellF (G : Nat → List UInt8) (fr : Int) (S : LgS) (P : Nat) : List UInt8 := toldF (fileY G fr S) S.sz P
def wantF (Y : Nat → List UInt8) (z : Int) (n : Nat) (pw : Nat → Int × List UInt8) (P : Nat) : List UInt8 := toldF (fun p => (lastPw pw (p : Int) n).getD (Y p)) z P
theorem toldF_congr {Y Z : Nat → List UInt8} (sz : Int) : ∀ P, (∀ p, p < P → Y p = Z p) → toldF Y sz P = toldF Z sz P
  | 0, _ => rfl
  | P + 1, h => by
    unfold toldF
    rw [toldF_congr sz P (fun p hp => h p (by omega)), h P (by omega)]
theorem tellF_new {G H : Nat → List UInt8} {fr : Int} {S T : LgS} {P : Nat} {z : Int} {n : Nat} {pw : Nat → Int × List UInt8} (h : ∀ p, p < P → fileY H fr T p = fileY G fr S p) : tellF H fr (newS T z n pw) P = wantF (fileY G fr S) z n pw P := by
  unfold tellF wantF
  show toldF _ z P = _
  exact toldF_congr z P (fun p hp => by rw [fileY_newS, h p hp])
theorem tellF_same {G H : Nat → List UInt8} {fr : Int} {S T : LgS} {P : Nat} (h : ∀ p, p < P → fileY H fr T p = fileY G fr S p) (hz : T.sz = S.sz) : tellF H fr T P = tellF G fr S P := by
  unfold tellF
  rw [hz]
  exact toldF_congr S.sz P h
/-- May these pages be committed? -/
def MayCom (fr pg z : Int) (n : Nat) (pw : Nat → Int × List UInt8) : Prop := (1 ≤ n ∧ 0 ≤ z ∧ z ≤ pg ∧ ∀ k, k < n → 0 ≤ (pw k).1 ∧ (pw k).1 < pg) ∧ (n : Int) ≤ fr
theorem synD_zero {s : DS} (h : (synD s).2 = 0) : synD s = (⟨laid s.g s.xs, [], Proofs.YtocnabpplbeafaaGreat.lft s.st s.left, s.st⟩, 0) := by
  unfold synD at h ⊢
  split
  · next hs => rw [if_pos hs] at h; exact absurd h (show ¬ (140 : Int) = 0 by decide)
  · rfl
theorem layD_zero {s : DS} {L : List (Nat × List UInt8)} (h : (layD s L).2 = 0) : ∃ left, (layD s L).1 = ⟨laid s.g (s.xs ++ L), [], left, s.st⟩ := by
  unfold layD at h ⊢
  by_cases h1 : (wrs s L).2 = 0
  · rw [if_pos h1] at h ⊢
    rw [synD_zero h, wrs_all L s h1, (wrs_g L s).1, (wrs_g L s).2]
    exact ⟨_, rfl⟩
  · rw [if_neg h1] at h
    exact absurd h h1
theorem appD_zero {s : DS} {L1 L2 : List (Nat × List UInt8)} (h : (appD s L1 L2).2 = 0) : ∃ left, (appD s L1 L2).1 = ⟨laid (laid s.g (s.xs ++ L1)) L2, [], left, s.st⟩ := by
  unfold appD at h ⊢
  by_cases h1 : (wrs s L1).2 = 0
  · rw [if_pos h1] at h ⊢
    by_cases h2 : (synD (wrs s L1).1).2 = 0
    · rw [if_pos h2] at h ⊢
      obtain ⟨left, e⟩ := layD_zero h
      rw [e, synD_zero h2, wrs_all L1 s h1, (wrs_g L1 s).1, (wrs_g L1 s).2]
      exact ⟨left, rfl⟩
    · rw [if_neg h2] at h
      exact absurd h h2
  · rw [if_neg h1] at h
    exact absurd h h1
section
variable {fr pg z x : Int} {G : Nat → List UInt8} {S S' : LgS} {i n P : Nat} {xs : Nat → Int × Option Addr × Nat} {pw : Nat → Int × List UInt8} {s' : DS}
/-- An Append writes below the pages' sectors. -/
theorem app_above (h : StP fr pg G S i) (hpl : planOk fr pg = true) (hx : ∀ k, k < n → (pw k).1 = (xs k).1) (hy : ∀ k, k < n → (pw k).2.length = 512) (left : Int) (st : Bool) (ha : AppOut fr pg ⟨G, [], left, st⟩ S n xs pw z x s' S') : (∀ k, 2 + 9 * fr.toNat ≤ k → s'.g k = G k) ∧ ∀ u ∈ s'.xs, u.1 < 2 + 9 * fr.toNat := by
  have hpr := (planOk_iff fr pg).1 hpl
  obtain ⟨⟨hz, hli⟩, h1, h2, h3, h4⟩ := id h
  have hR := rightC_iff (z := z) hpl hx
  rcases ha with ⟨_, _, rfl, _⟩ | ⟨_, _, _, rfl, _⟩ | ⟨hr, hf, fs', r, rfl, hr2, _, rfl, _⟩
  · exact ⟨fun _ _ => rfl, fun u hu => by cases hu⟩
  · exact ⟨fun _ _ => rfl, fun u hu => by cases hu⟩
  · have hm := hR.1 hr
    have hp : PwOk pg z n pw := ⟨hm.2.2.2, hy, hm.2.1, hm.2.2.1⟩
    have hO := addK_ok hli.on.fr.ok hp (by omega) (by omega) n (Nat.le_refl _)
    have hlen := addK_length S.ep z S.fs n pw n
    rw [hr2]
    refine appD_above (fun _ _ => rfl) (fun u hu => by cases hu) (fun u hu => ?_) (fun u hu => ?_)
    · have := frsW_first hO S.fs.length u hu
      omega
    · have := wrL_first hu
      omega
/-- An Append that no stop holds up: what is told then. -/
theorem app_tell (h : StP fr pg G S i) (hp : PgIn pg S) (hi : i ≤ 1000) (hpl : planOk fr pg = true) (hx : ∀ k, k < n → (pw k).1 = (xs k).1) (hy : ∀ k, k < n → (pw k).2.length = 512) (left : Int) (ha : AppOut fr pg ⟨G, [], left, false⟩ S n xs pw z x s' S') :
    ∃ G', s' = ⟨G', [], left, false⟩ ∧ StP fr pg G' S' (i + 1) ∧ PgIn pg S' ∧ ((x = 0 ∧ MayApp fr pg S z n pw ∧ tellF G' fr S' P = wantF (fileY G fr S) z n pw P) ∨ (¬ x = 0 ∧ ¬ MayApp fr pg S z n pw ∧ tellF G' fr S' P = tellF G fr S P)) := by
  obtain ⟨hab, _⟩ := app_above h hpl hx hy left false ha
  obtain ⟨G', rfl, hSt, hq⟩ := app_plain h hi hpl hx hy left ha
  rcases hq with ⟨h1, h2, rfl⟩ | ⟨h1, h2, rfl, rfl⟩
  · exact ⟨G', rfl, hSt, hp.more h2.1.2.2.2, .inl ⟨h1, h2, tellF_new (fun p _ => fileY_pages hab p)⟩⟩
  · exact ⟨G', rfl, hSt, hp, .inr ⟨h1, h2, rfl⟩⟩
/-- An Append under a stop, and a crash: what is told then. -/
theorem app_tell_crash (h : StP fr pg G S i) (hp : PgIn pg S) (hi : i ≤ 1000) (hpl : planOk fr pg = true) (hx : ∀ k, k < n → (pw k).1 = (xs k).1) (hy : ∀ k, k < n → (pw k).2.length = 512) (left : Int) (st : Bool) (ha : AppOut fr pg ⟨G, [], left, st⟩ S n xs pw z x s' S') (bs : List Bool) (t : Nat) :
    ∃ S2 hz, LogOn (crD s' bs t) S2 hz ∧ PgIn pg S2 ∧ (S2.fs.length : Int) ≤ fr ∧ ((¬ x = 0 ∧ tellF (crD s' bs t) fr S2 P = tellF G fr S P) ∨ (MayApp fr pg S z n pw ∧ tellF (crD s' bs t) fr S2 P = wantF (fileY G fr S) z n pw P)) := by
  obtain ⟨hab, hxb⟩ := app_above h hpl hx hy left st ha
  obtain ⟨S2, hz, hL, hq⟩ := app_crash h hi hpl hx hy left st ha bs t
  have hY : ∀ p, fileY (crD s' bs t) fr S p = fileY G fr S p := fun p => fileY_pages (fun k hk => crD_above hab hxb bs t k hk) p
  rcases hq with ⟨h1, rfl⟩ | ⟨h1, rfl⟩
  · exact ⟨S2, hz, hL, hp, h.fs, .inl ⟨h1, tellF_same (fun p _ => hY p) rfl⟩⟩
  · refine ⟨_, hz, hL, hp.more h1.1.2.2.2, ?_, .inr ⟨h1, tellF_new (fun p _ => hY p)⟩⟩
    show ((addK S.ep z S.fs n pw n).length : Int) ≤ fr
    rw [addK_length]
    have := h1.2
    omega
theorem app_full (ha : AppOut fr pg ⟨G, [], 0, false⟩ S n xs pw z x s' S') (hpl : planOk fr pg = true) (hx : ∀ k, k < n → (pw k).1 = (xs k).1) (h1 : ¬ MayApp fr pg S z n pw) (hm : MayCom fr pg z n pw) : x = 160 := by
  have hR := rightC_iff (z := z) hpl hx
  rcases ha with ⟨h, _⟩ | ⟨_, _, h, _⟩ | ⟨_, h, _⟩
  · exact absurd (hR.2 hm.1) h
  · exact h
  · exact absurd ⟨hm.1, h⟩ h1
/-- A Commit that no stop holds up. -/
theorem com_plain (h : StP fr pg G S i) (hp : PgIn pg S) (hi : i ≤ 900) (hpl : planOk fr pg = true) (hx : ∀ k, k < n → (pw k).1 = (xs k).1) (hy : ∀ k, k < n → (pw k).2.length = 512) (ha : ComOut fr pg P ⟨G, [], 0, false⟩ S n xs pw z x s' S') :
    ∃ G', s' = ⟨G', [], 0, false⟩ ∧ StP fr pg G' S' (i + 2) ∧ PgIn pg S' ∧ ((x = 0 ∧ MayCom fr pg z n pw ∧ tellF G' fr S' P = wantF (fileY G fr S) z n pw P) ∨ (¬ x = 0 ∧ ¬ MayCom fr pg z n pw ∧ tellF G' fr S' P = tellF G fr S P)) := by
  have up : ∀ {G : Nat → List UInt8} {S : LgS}, StP fr pg G S (i + 1) → StP fr pg G S (i + 2) := fun {G S} k => ⟨k.li, by have := k.sr; omega, by have := k.ep; omega, k.fs, k.sz⟩
  rcases ha with ⟨ha, hne⟩ | ⟨_, hnf, x1, s1, S1, ⟨r, hr, rfl, rfl, hq⟩, hend⟩
  · obtain ⟨G', rfl, hSt, hpg, hq⟩ := app_tell (P := P) h hp (by omega) hpl hx hy 0 ha
    refine ⟨G', rfl, up hSt, hpg, ?_⟩
    rcases hq with ⟨h1, h2, h3⟩ | ⟨h1, h2, h3⟩
    · exact .inl ⟨h1, ⟨h2.1, by have := h2.2; omega⟩, h3⟩
    · exact .inr ⟨h1, fun hm => hne ⟨app_full ha hpl hx h2 hm, hm.2⟩, h3⟩
  · obtain ⟨G2, e, hSt, hY⟩ := chk_plain h (by omega) hpl P 0
    rw [e] at hr
    subst hr
    have hS1 : S1 = ⟨S.sr + 1, S.ep + 1, S.sz, []⟩ := by
      rcases hq with ⟨_, e⟩ | ⟨h, _⟩
      · exact e
      · exact absurd rfl h
    subst hS1
    rcases hend with ⟨h1, _⟩ | ⟨_, ha⟩
    · exact absurd rfl h1
    · obtain ⟨G3, rfl, hSt3, hpg, hq3⟩ := app_tell (P := P) hSt (fun u hu => by cases hu) (by omega) hpl hx hy 0 ha
      refine ⟨G3, rfl, hSt3, hpg, ?_⟩
      rcases hq3 with ⟨h1, h2, h3⟩ | ⟨h1, h2, h3⟩
      · refine .inl ⟨h1, ⟨h2.1, hnf⟩, h3.trans (toldF_congr z P (fun p hp => by rw [hY p hp]))⟩
      · refine .inr ⟨h1, fun hm => h2 ⟨hm.1, ?_⟩, h3.trans (tellF_same hY rfl)⟩
        show ((0 : Nat) : Int) + (n : Int) ≤ fr
        omega
/-- A CheckIn that no stop holds up. -/
theorem chk_tell (h : StP fr pg G S i) (hi : i ≤ 1000) (hpl : planOk fr pg = true) (left : Int) (ha : ChkOut fr P ⟨G, [], left, false⟩ S x s' S') : ∃ G', x = 0 ∧ s' = ⟨G', [], left, false⟩ ∧ StP fr pg G' S' (i + 1) ∧ PgIn pg S' ∧ tellF G' fr S' P = tellF G fr S P := by
  obtain ⟨r, hr, rfl, rfl, hq⟩ := ha
  obtain ⟨G2, e, hSt, hY⟩ := chk_plain h hi hpl P left
  rw [e] at hr
  subst hr
  have hS1 : S' = ⟨S.sr + 1, S.ep + 1, S.sz, []⟩ := by
    rcases hq with ⟨_, e⟩ | ⟨h, _⟩
    · exact e
    · exact absurd rfl h
  subst hS1
  exact ⟨G2, rfl, rfl, hSt, (fun u hu => by cases hu), tellF_same hY rfl⟩
/-- A CheckIn under a stop, and a crash. -/
theorem chk_tell_crash (h : StP fr pg G S i) (hp : PgIn pg S) (hi : i ≤ 1000) (hpl : planOk fr pg = true) (left : Int) (st : Bool) (ha : ChkOut fr P ⟨G, [], left, st⟩ S x s' S') (bs : List Bool) (t : Nat) :
    ∃ S2 hz, LogOn (crD s' bs t) S2 hz ∧ PgIn pg S2 ∧ (S2.fs.length : Int) ≤ fr ∧ tellF (crD s' bs t) fr S2 P = tellF G fr S P := by
  have hpr := (planOk_iff fr pg).1 hpl
  obtain ⟨r, hr, rfl, rfl, _⟩ := ha
  obtain ⟨S2, hz2, hL, hS, hY⟩ := chk_crash h hi hpl P left st r hr bs t
  rcases hS with rfl | rfl
  · exact ⟨S2, hz2, hL, hp, h.fs, tellF_same hY rfl⟩
  · exact ⟨_, hz2, hL, (fun u hu => by cases hu), by show ((0 : Nat) : Int) ≤ fr; omega, tellF_same hY rfl⟩
/-- A Commit under a stop, and a crash. -/
theorem com_crash (h : StP fr pg G S i) (hp : PgIn pg S) (hi : i ≤ 900) (hpl : planOk fr pg = true) (hx : ∀ k, k < n → (pw k).1 = (xs k).1) (hy : ∀ k, k < n → (pw k).2.length = 512) (left : Int) (st : Bool) (ha : ComOut fr pg P ⟨G, [], left, st⟩ S n xs pw z x s' S') (bs : List Bool) (t : Nat) :
    ∃ S2 hz, LogOn (crD s' bs t) S2 hz ∧ PgIn pg S2 ∧ (S2.fs.length : Int) ≤ fr ∧ ((¬ x = 0 ∧ tellF (crD s' bs t) fr S2 P = tellF G fr S P) ∨ (MayCom fr pg z n pw ∧ tellF (crD s' bs t) fr S2 P = wantF (fileY G fr S) z n pw P)) := by
  rcases ha with ⟨ha, hne⟩ | ⟨_, hnf, x1, s1, S1, hc, hend⟩
  · obtain ⟨S2, hz, hL, h1, h2, h3⟩ := app_tell_crash (P := P) h hp (by omega) hpl hx hy left st ha bs t
    refine ⟨S2, hz, hL, h1, h2, ?_⟩
    rcases h3 with h3 | ⟨h3, h4⟩
    · exact .inl h3
    · exact .inr ⟨⟨h3.1, by have := h3.2; omega⟩, h4⟩
  · rcases hend with ⟨h1, rfl, rfl, rfl⟩ | ⟨rfl, ha⟩
    · obtain ⟨S2, hz, hL, h2, h3, h4⟩ := chk_tell_crash h hp (by omega) hpl left st hc bs t
      exact ⟨S2, hz, hL, h2, h3, .inl ⟨h1, h4⟩⟩
    · obtain ⟨r, hr, h0, rfl, hq⟩ := hc
      obtain ⟨G2, e, hSt, hY⟩ := chk_plain h (by omega) hpl P left
      rw [appD_free (s := ⟨G, [], left, false⟩) rfl] at e
      injection e with e _
      injection e with e _ _ _
      have hz0 := appD_zero (s := ⟨G, [], left, st⟩) (L1 := layW fr S P) (L2 := wrL ((S.sr + 1) % 2) (hEnc (S.sr + 1) (S.ep + 1) S.sz 0) 1) (by rw [← hr]; exact h0.symm)
      obtain ⟨l2, e2⟩ := hz0
      rw [← hr] at e2
      have e3 : r.1 = ⟨G2, [], l2, st⟩ := by rw [e2, ← e]
      rw [e3] at ha
      have hS1 : S1 = ⟨S.sr + 1, S.ep + 1, S.sz, []⟩ := by
        rcases hq with ⟨_, e⟩ | ⟨h, _⟩
        · exact e
        · exact absurd rfl h
      subst hS1
      obtain ⟨S2, hz, hL, h1, h2, h3⟩ := app_tell_crash (P := P) hSt (fun u hu => by cases hu) (by omega) hpl hx hy l2 st ha bs t
      refine ⟨S2, hz, hL, h1, h2, ?_⟩
      rcases h3 with ⟨h3, h4⟩ | ⟨h3, h4⟩
      · exact .inl ⟨h3, h4.trans (tellF_same hY rfl)⟩
      · exact .inr ⟨⟨h3.1, hnf⟩, h4.trans (toldF_congr z P (fun p hp => by rw [hY p hp]))⟩
end
end Go.Proofs.YtocnabpplbeafaaGreat
/- file: a file, its log and its disk, in a world. -/
namespace Go.Proofs.YtocnabpplbeafaaGreat
open Go Go.RowKit Lou

theorem okF_stop (G : Nat → List UInt8) (L : Nat) (hL : L ≤ 1000) : (⟨G, [], (L : Int), true⟩ : DS).Ok := ⟨by show (-1000000 : Int) ≤ (L : Int); omega, by show (L : Int) ≤ 9223372036854775807; omega, fun _ => by show (0 : Int) ≤ (L : Int); omega⟩
theorem okF_free (G : Nat → List UInt8) : (⟨G, [], 0, false⟩ : DS).Ok := ⟨by show (-1000000 : Int) ≤ 0; decide, by show (0 : Int) ≤ 9223372036854775807; decide, fun h => by cases h⟩
structure FhIs (W0 : World) (d f l many : Nat) (fr pg : Int) (s : DS) (S : LgS) (W : World) : Prop where
  up : Below W0.heap.size W0 W
  dk : DkS W d many s
  lg : LogIs W l d fr pg S
  fb : BlkIs W f 121 (flFC l fr pg)
  gd : W0.heap.size ≤ d
  gl : W0.heap.size ≤ l
section
variable {W0 W W' : World} {d f l many : Nat} {fr pg : Int} {s s' : DS} {S S' : LgS}
theorem FhIs.grow (h : FhIs W0 d f l many fr pg s S W) (hB : Below W.heap.size W W') : FhIs W0 d f l many fr pg s S W' :=
  ⟨h.up.trans (hB.mono h.up.size), h.dk.grow hB, h.lg.grow hB, h.fb.below hB h.fb.lt, h.gd, h.gl⟩
theorem FhIs.apart (h : FhIs W0 d f l many fr pg s S W) : ¬ (f = d ∨ f = l) := fun e => by
  obtain ⟨rr, A', c', hdk, _⟩ := DkIs.has h.dk
  obtain ⟨_, A, c, vs, hlg, _⟩ := h.lg
  rcases e with rfl | rfl
  · exact BlkIs.ne_type h.fb hdk (by decide) rfl
  · exact BlkIs.ne_type h.fb hlg (by decide) rfl
theorem FhIs.ne (h : FhIs W0 d f l many fr pg s S W) {g : Nat} {T : TypeId} {cs : Array Value} (hg : BlkIs W g T cs) (h1 : T ≠ 85) (h2 : T ≠ 57) : ¬ (g = d ∨ g = l) := fun e => by
  obtain ⟨rr, A', c', hdk, _⟩ := DkIs.has h.dk
  obtain ⟨_, A, c, vs, hlg, _⟩ := h.lg
  rcases e with rfl | rfl
  · exact BlkIs.ne_type hg hdk h1 rfl
  · exact BlkIs.ne_type hg hlg h2 rfl
theorem FhIs.lts (h : FhIs W0 d f l many fr pg s S W) : d < W.heap.size ∧ l < W.heap.size := by
  obtain ⟨_, A, c, vs, hlg, _⟩ := h.lg
  exact ⟨h.dk.lt, hlg.lt⟩
theorem FhIs.turned (h : FhIs W0 d f l many fr pg s S W) (hg : W.grownBy W' (some d)) (hD : DkS W' d many s') : FhIs W0 d f l many fr pg s' S W' :=
  ⟨h.up.trans (grown_below hg h.up.size (fun r e => by injection e with e; rw [← e]; exact h.gd)), hD, h.lg.turn hg, h.fb.grown hg (fun e => by injection e with e; exact h.apart (.inl e)), h.gd, h.gl⟩
theorem FhIs.but (h : FhIs W0 d f l many fr pg s S W) (hG : GrowBut (fun k => k = d ∨ k = l) W W') (hD : DkS W' d many s') (hL : LogIs W' l d fr pg S') : FhIs W0 d f l many fr pg s' S' W' :=
  ⟨h.up.trans (hG.toBelow h.up.size (fun k e => by rcases e with rfl | rfl; exact h.gd; exact h.gl)), hD, hL, hG.blk h.fb h.apart, h.gd, h.gl⟩
variable {G : Nat → List UInt8} {i P : Nat}
theorem fcommit_ac (h : FhIs W0 d f l many fr pg s S W) (hO : s.Ok) (hl : s.xs.length ≤ 100000) (hS : StP fr pg G S i) (hp : PgIn pg S) (hi : i ≤ 900) (hpl : planOk fr pg = true) (hm : (many : Int) = 2 + 9 * fr + 8 * pg) (hmax : many ≤ 100000) (hP : (P : Int) = pg)
    {B : Nat} {A1 : Option Addr} {n c : Nat} {xs : Nat → Int × Option Addr × Nat} {pw : Nat → Int × List UInt8} (hn : n ≤ 1000) (hA : PwArgs W B A1 n xs pw) (hd : d < B) (hlB : l < B) (hP2 : P ≤ 1000) (z : Int) :
    Calls Tryz.prog 31 #[.pointer (some ⟨f, 0, none⟩), .int .i64 z, .slice A1 n c] W fun e w' => ∃ x s' S', e = .returned (.int .i64 x) ∧ ComOut fr pg P s S n xs pw z x s' S' ∧ FhIs W0 d f l many fr pg s' S' w' ∧ GrowBut (fun k => k = d ∨ k = l) W w' := by
  have hpr := (planOk_iff fr pg).1 hpl
  have hsr := hS.sr
  have hep := hS.ep
  have hsz := hS.sz
  refine (fcommit_gives W f l d many B fr pg s S h.fb h.lg h.dk hO hl hS.fs hS.y hpl hm hmax P hP hP2 (hp.b hP) ⟨hsz.1, by omega⟩ (by omega) (by omega) A1 n c xs pw hn hA hd hlB z).mono ?_
  rintro e w' ⟨x, s', S', rfl, hC, hD, hL, hG⟩
  exact ⟨x, s', S', rfl, hC, h.but hG hD hL, hG⟩
theorem fchk_ac (h : FhIs W0 d f l many fr pg s S W) (hO : s.Ok) (hl : s.xs.length ≤ 100000) (hS : StP fr pg G S i) (hp : PgIn pg S) (hi : i ≤ 900) (hpl : planOk fr pg = true) (hm : (many : Int) = 2 + 9 * fr + 8 * pg) (hmax : many ≤ 100000) (hP : (P : Int) = pg) (hP2 : P ≤ 1000) :
    Calls Tryz.prog 34 #[.pointer (some ⟨f, 0, none⟩)] W fun e w' => ∃ x s' S', e = .returned (.int .i64 x) ∧ ChkOut fr P s S x s' S' ∧ FhIs W0 d f l many fr pg s' S' w' := by
  have hpr := (planOk_iff fr pg).1 hpl
  have hsr := hS.sr
  have hep := hS.ep
  have hsz := hS.sz
  have hfs := hS.fs
  refine (fchk_gives W f l d many fr pg s S h.fb h.lg h.dk hO (by omega) (by omega) hS.y hpl hm hmax P hP hP2 (hp.b hP) (fun e => h.apart (.inl e)) (fun e => h.apart (.inr e)) ⟨hsz.1, by omega⟩ (by omega) (by omega)).mono ?_
  rintro e w' ⟨x, s', S', rfl, hC, hD, hL, hG⟩
  exact ⟨x, s', S', rfl, hC, h.but hG hD hL⟩
theorem ftold_ac (h : FhIs W0 d f l many fr pg ⟨G, [], 0, false⟩ S W) (hfs : (S.fs.length : Int) ≤ fr) (hy : ∀ x ∈ S.fs, x.y.length = 512) (hpl : planOk fr pg = true) (hm : (many : Int) = 2 + 9 * fr + 8 * pg) (hmax : many ≤ 100000) (hP : (P : Int) = pg) (hP2 : P ≤ 1000) :
    Calls Tryz.prog 33 #[.pointer (some ⟨f, 0, none⟩), .int .i64 pg] W fun e w' => e = .returned (.string (str (tellF G fr S P))) ∧ Below W.heap.size W w' := by
  have hpr := (planOk_iff fr pg).1 hpl
  have h2 := told7_gives W f l d many fr pg _ S h.fb h.lg h.dk rfl (Nat.zero_le _) (by omega) hy hpl hm (by omega) P hP hP2
  rw [hP] at h2
  exact h2
end
set_option maxRecDepth 100000 in
set_option maxHeartbeats 4000000 in
/-- Open, where the log does not open. -/
theorem fopen_bad (w : World) (d : Nat) (fr pg x : Int) (hx : ¬ x = 0) (HO : ∀ W, Below w.heap.size w W → Calls Tryz.prog 11 #[.pointer (some ⟨d, 0, none⟩), .agg #[.int .i64 fr, .int .i64 pg]] W fun e w' => e = .returned (.tuple #[.pointer none, .int .i64 x]) ∧ Below W.heap.size W w') :
    Calls Tryz.prog 29 #[.pointer (some ⟨d, 0, none⟩), .agg #[.int .i64 fr, .int .i64 pg]] w fun e w' => e = .returned (.tuple #[.pointer none, .int .i64 x]) ∧ Below w.heap.size w w' := by
  have hB0 : Below w.heap.size w (w.alloc (.cells #[.int .i64 fr, .int .i64 pg] 23)) := (Below.refl _ w).alloc (Nat.le_refl _) _
  have b0 := BlkIs.new w 23 #[.int .i64 fr, .int .i64 pg]
  have H := HO _ hB0
  have hxb : (x == 0) = false := by rw [beq_eq_false_iff_ne]; exact hx
  clear HO
  go_enter Tryz.func29, Tryz.ntmps29
  go_wp2_with (first
    | (refine wp_loadW rfl 23 (.tmp 3) rfl w.heap.size rfl rowPlan (by first | exact b2 | exact b0) rfl ?_)
    | (go_at_call 11; refine H.mono ?_; rintro e w2 ⟨rfl, hB2⟩))
  exact bodyPost_ret (results_tmp2 rfl _ _ _) rfl ⟨rfl, hB0.trans (hB2.mono hB0.size)⟩
set_option maxRecDepth 100000 in
set_option maxHeartbeats 4000000 in
/-- Open, where the log opens. -/
theorem fopenW_gives (w : World) (d : Nat) (fr pg : Int) (Q : Nat → World → Prop) (H : Calls Tryz.prog 11 #[.pointer (some ⟨d, 0, none⟩), .agg #[.int .i64 fr, .int .i64 pg]] (w.alloc (.cells #[.int .i64 fr, .int .i64 pg] 23)) fun e w' => ∃ l, e = .returned (.tuple #[.pointer (some ⟨l, 0, none⟩), .int .i64 0]) ∧ BlkIs w' w.heap.size 23 #[.int .i64 fr, .int .i64 pg] ∧ Q l w') :
    Calls Tryz.prog 29 #[.pointer (some ⟨d, 0, none⟩), .agg #[.int .i64 fr, .int .i64 pg]] w fun e w' => ∃ l w2, e = .returned (.tuple #[.pointer (some ⟨w2.heap.size, 0, none⟩), .int .i64 0]) ∧ Q l w2 ∧ w' = w2.alloc (.cells (flFC l fr pg) 121) := by
  have b0 := BlkIs.new w 23 #[.int .i64 fr, .int .i64 pg]
  go_enter Tryz.func29, Tryz.ntmps29
  go_wp2_with (first
    | (refine wp_loadW rfl 23 (.tmp 3) rfl w.heap.size rfl rowPlan (by first | exact b2 | exact b0) rfl ?_)
    | (go_at_call 11; refine H.mono ?_; rintro e w2 ⟨l, rfl, b2, hQ⟩))
  exact bodyPost_ret (results_tmp2 rfl _ _ _) rfl ⟨l, w2, rfl, hQ, rfl⟩
/-- Open of a disk that was never written. -/
theorem fopen_new {W0 : World} (w : World) (d many : Nat) (fr pg : Int) (hup : Below W0.heap.size W0 w) (hd : W0.heap.size ≤ d) (hD : DkIs w d many (fun _ => zer64) [] 0 false) (hpl : planOk fr pg = true) (hm : (many : Int) = 2 + 9 * fr + 8 * pg) (hmax : many ≤ 1000000) :
    Calls Tryz.prog 29 #[.pointer (some ⟨d, 0, none⟩), .agg #[.int .i64 fr, .int .i64 pg]] w fun e w' => ∃ f l, e = .returned (.tuple #[.pointer (some ⟨f, 0, none⟩), .int .i64 0]) ∧ FhIs W0 d f l many fr pg ⟨laid (fun _ => zer64) (wrL 1 (hEnc 1 1 0 0) 1), [], 0, false⟩ ⟨1, 1, 0, []⟩ w' := by
  have hdl := hD.lt
  have hB0 : Below w.heap.size w (w.alloc (.cells #[.int .i64 fr, .int .i64 pg] 23)) := (Below.refl _ w).alloc (Nat.le_refl _) _
  have b0 := BlkIs.new w 23 #[.int .i64 fr, .int .i64 pg]
  have hs := hup.size
  refine (fopenW_gives w d fr pg (fun l w2 => w.heap.size ≤ l ∧ DkIs w2 d many (laid (fun _ => zer64) (wrL 1 (hEnc 1 1 0 0) 1)) [] 0 false ∧ BlkIs w2 l 57 (lgC (some ⟨d, 0, none⟩) fr pg 1 1 0 none 0 0) ∧ Below W0.heap.size W0 w2) ((open_newG _ fr pg d many 0 (hD.grow hB0) hpl hm hmax (by decide) (by decide)).mono ?_)).mono ?_
  · rintro e w2 ⟨l, rfl, hl, hD2, hb2, hg2⟩
    refine ⟨l, rfl, b0.grown hg2 (fun e => by injection e with e; omega), by simp at hl; omega, hD2, hb2, (hup.trans (hB0.mono hs)).trans (grown_below hg2 (by simp; omega) (fun r e => by injection e with e; rw [← e]; exact hd))⟩
  · rintro e w' ⟨l, w2, rfl, ⟨hl, hD2, hb2, hB2⟩, rfl⟩
    have ha : Below w2.heap.size w2 (w2.alloc (.cells (flFC l fr pg) 121)) := (Below.refl _ _).alloc (Nat.le_refl _) _
    exact ⟨_, l, rfl, ⟨hB2.trans (ha.mono hB2.size), hD2.grow ha, LogIs.grow ⟨by omega, none, 0, [], hb2, FrsIs.mt _ _, rfl⟩ ha, BlkIs.new _ _ _, hd, by omega⟩⟩
/-- Open of a disk on which a log lies. -/
theorem fopen_old {W0 : World} (w : World) (d many : Nat) (fr pg : Int) (s : DS) (S : LgS) (hz : Nat) (hup : Below W0.heap.size W0 w) (hd : W0.heap.size ≤ d) (hD : DkS w d many s) (hst : s.stopped = false) (hxs : s.xs = []) (hfl : (S.fs.length : Int) ≤ fr) (hO : LogOn s.g S hz) (hpl : planOk fr pg = true) (hm : (many : Int) = 2 + 9 * fr + 8 * pg) (hmax : many ≤ 1000000) :
    Calls Tryz.prog 29 #[.pointer (some ⟨d, 0, none⟩), .agg #[.int .i64 fr, .int .i64 pg]] w fun e w' => ∃ f l, e = .returned (.tuple #[.pointer (some ⟨f, 0, none⟩), .int .i64 0]) ∧ FhIs W0 d f l many fr pg s S w' ∧ Below w.heap.size w w' := by
  have hB0 : Below w.heap.size w (w.alloc (.cells #[.int .i64 fr, .int .i64 pg] 23)) := (Below.refl _ w).alloc (Nat.le_refl _) _
  have b0 := BlkIs.new w 23 #[.int .i64 fr, .int .i64 pg]
  have hs := hup.size
  have hO' : LogOn (laid s.g s.xs) S hz := by rw [hxs]; exact hO
  refine (fopenW_gives w d fr pg (fun l w2 => w.heap.size ≤ l ∧ DkS w2 d many s ∧ LogIs w2 l d fr pg S ∧ Below w.heap.size w w2) ((open_old _ fr pg d many s S hz (hD.grow hB0) hst (by rw [hxs]; exact Nat.zero_le _) hpl hm hmax hfl hO').mono ?_)).mono ?_
  · rintro e w2 ⟨l, rfl, hl, hD2, hL2, hB2⟩
    exact ⟨l, rfl, b0.below hB2 b0.lt, by simp at hl; omega, hD2, hL2, hB0.trans (hB2.mono hB0.size)⟩
  · rintro e w' ⟨l, w2, rfl, ⟨hl, hD2, hL2, hB2⟩, rfl⟩
    have ha : Below w2.heap.size w2 (w2.alloc (.cells (flFC l fr pg) 121)) := (Below.refl _ _).alloc (Nat.le_refl _) _
    have hBw := hB2.trans (ha.mono hB2.size)
    exact ⟨_, l, rfl, ⟨hup.trans (hBw.mono hs), hD2.grow ha, hL2.grow ha, BlkIs.new _ _ _, hd, by omega⟩, hBw⟩
/-- Pages of a loupelaw07.writes lie in blocks of their own. -/
theorem WrsOut.args {ps : List Int} {bs : List UInt8} {W W1 : World} {e : Ending} (h : WrsOut ps bs W e W1) : ∃ A1 c xs, e = .returned (.slice A1 ps.length c) ∧ Below W.heap.size W W1 ∧ PwArgs W1 W.heap.size A1 ps.length xs (pwOf ps bs) := by
  obtain ⟨A1, c, xs, rfl, h1, h2, hB, h3, h4⟩ := h
  exact ⟨A1, c, xs, rfl, hB, h3, h1, h2, h4⟩
end Go.Proofs.YtocnabpplbeafaaGreat
/- loupelaw06.works: the chapter's rows. -/
namespace Go.Proofs.YtocnabpplbeafaaGreat
open Go Go.RowKit Lou

theorem pgL_length (v : UInt8) : (pgL v).length = 512 := List.length_replicate
end Go.Proofs.YtocnabpplbeafaaGreat
/- loupelaw07.works: the chapter's rows. -/
namespace Go.Proofs.YtocnabpplbeafaaGreat
open Go Go.RowKit Lou

theorem Reg.gives_num7 (m : Int) (w : World) : Calls Tryz.prog 30 #[.int .i64 m] w fun e w' => ∃ v, e = .returned v ∧ Grow w w' ∧ v = .int .i64 m :=
  (num7_gives m w).mono fun e w' ⟨h1, h2⟩ => ⟨_, h1, h2 ▸ Grow.refl w, rfl⟩
theorem page7_at (v : UInt8) (x : Int) (hx : (v.toNat : Int) = x) (W : World) : Calls Tryz.prog 65 #[.int .u8 x] W fun e w' => ∃ A c, e = .returned (.slice A 512 c) ∧ InB w' w'.heap.size A c (pgL v) ∧ TyB w' A ∧ Below W.heap.size W w' := by
  subst hx
  refine (page7_gives W v).mono ?_
  rintro e w' ⟨y, rfl, own, hB⟩
  have hty := ownG_ty own
  obtain ⟨A, c, rfl, hin⟩ := own.inB
  exact ⟨A, c, by rw [pgL_length], hin, fun g o e => by subst e; exact hty g rfl, hB⟩
theorem toldF_inj {Y Z : Nat → List UInt8} (hY : ∀ k, (Y k).length = 512) (hZ : ∀ k, (Z k).length = 512) {a b : Int} : ∀ P, toldF Y a P = toldF Z b P → lowB a = lowB b ∧ ∀ p, p < P → Y p = Z p
  | 0, h => ⟨by injection h, fun p hp => absurd hp (Nat.not_lt_zero p)⟩
  | P + 1, h => by
    unfold toldF at h
    obtain ⟨h1, h2⟩ := List.append_inj h (by rw [toldF_len hY, toldF_len hZ])
    obtain ⟨h3, h4⟩ := toldF_inj hY hZ P h1
    refine ⟨h3, fun p hp => ?_⟩
    by_cases e : p = P
    · subst e; exact h2
    · exact h4 p (by omega)
theorem lastPw_len {pw : Nat → Int × List UInt8} {p : Int} : ∀ n, (∀ k, k < n → (pw k).2.length = 512) → ∀ y, lastPw pw p n = some y → y.length = 512
  | 0, _, y, h => by cases h
  | n + 1, hl, y, h => by
    unfold lastPw at h
    by_cases e : (pw n).1 = p
    · rw [if_pos e] at h
      injection h with h
      rw [← h]
      exact hl n (by omega)
    · rw [if_neg e] at h
      exact lastPw_len n (fun k hk => hl k (by omega)) y h
/-- What a Commit tells, page by page. -/
theorem tell_pages {fr : Int} {G G' : Nat → List UInt8} {S S' : LgS} {z : Int} {n P : Nat} {pw : Nat → Int × List UInt8} (hG : ∀ k, (G k).length = 64) (hy : ∀ x ∈ S.fs, x.y.length = 512) (hG' : ∀ k, (G' k).length = 64) (hy' : ∀ x ∈ S'.fs, x.y.length = 512) (hl : ∀ k, k < n → (pw k).2.length = 512) (h : tellF G' fr S' P = wantF (fileY G fr S) z n pw P) : lowB S'.sz = lowB z ∧ ∀ p, p < P → fileY G' fr S' p = (lastPw pw (p : Int) n).getD (fileY G fr S p) :=
  toldF_inj (fun k => fpY_len hG' hy' _ _) (fun k => by
    cases e : lastPw pw (k : Int) n with
    | none => exact fpY_len hG hy _ _
    | some y => exact lastPw_len n hl y e) P h
theorem com_full {fr pg z x : Int} {P n : Nat} {s s' : DS} {S S' : LgS} {xs : Nat → Int × Option Addr × Nat} {pw : Nat → Int × List UInt8} (h : ComOut fr pg P s S n xs pw z x s' S') (hpl : planOk fr pg = true) (hx : ∀ k, k < n → (pw k).1 = (xs k).1) (hR : 1 ≤ n ∧ 0 ≤ z ∧ z ≤ pg ∧ ∀ k, k < n → 0 ≤ (pw k).1 ∧ (pw k).1 < pg) (hn : fr < (n : Int)) : x = 160 := by
  have hR := (rightC_iff (z := z) hpl hx).2 hR
  rcases h with ⟨ha, _⟩ | ⟨_, h, _⟩
  · rcases ha with ⟨h, _⟩ | ⟨_, _, h, _⟩ | ⟨_, h, _⟩
    · exact absurd hR h
    · exact h
    · omega
  · omega
theorem lowB_small {a b : Int} (h : lowB a = lowB b) (ha : 0 ≤ a ∧ a ≤ 3) (hb : 0 ≤ b ∧ b ≤ 3) : a = b := by
  have h1 := lowB_wrap a
  have h2 := lowB_wrap b
  rw [h, ← h2] at h1
  have e : ∀ z : Int, 0 ≤ z ∧ z ≤ 3 → IntKind.u8.wrap z = z := fun z hz => by
    show z % 256 = z
    omega
  rw [e a ha, e b hb] at h1
  exact h1
theorem rng_pw {w : World} {g : Nat} {T : TypeId} (xs : List (Int × Option Addr × Nat)) (h : BlkIs w g T (pwsC xs).toArray) : PwIn w g 0 xs.length fun k => xs.getD k (0, none, 0) := fun k hk j v hj => by
  rw [h.cell]
  have hx : xs.getD k (0, none, 0) = xs[k] := by rw [List.getD_eq_getElem?_getD, List.getElem?_eq_getElem hk]; rfl
  simp only [hx] at hj
  have := pwsC_get xs k hk j v hj
  simpa using this
theorem InB.notSmall {w : World} {B g q c : Nat} {o : Nat} {l : List UInt8} {T : TypeId} {cs : Array Value} (h : InB w B (some ⟨g, o, none⟩) c l) (h0 : 64 < l.length) (hb : BlkIs w q T cs) (hs : cs.size ≤ 64) : g ≠ q := fun e => by
  subst e
  obtain ⟨g', o', e', _, hc⟩ := h.lies (by omega)
  injection e' with e'
  injection e' with e1 e2
  subst e1 e2
  have := hc 64 h0
  rw [hb.cell, Array.getElem?_eq_none (by omega)] at this
  cases this
theorem args_of {V : World} {B g : Nat} (xs : List (Int × Option Addr × Nat)) (pb : List (Int × List UInt8)) (hb : BlkIs V g 80 (pwsC xs).toArray) (hB : B ≤ g)
    (hp : ∀ k, k < xs.length → (pb.getD k (0, [])).1 = (xs.getD k (0, none, 0)).1 ∧ (pb.getD k (0, [])).2.length = 512 ∧ InB V V.heap.size (xs.getD k (0, none, 0)).2.1 (xs.getD k (0, none, 0)).2.2 (pb.getD k (0, [])).2 ∧ TyB V (xs.getD k (0, none, 0)).2.1) :
    PwArgs V B (some ⟨g, 0, none⟩) xs.length (fun k => xs.getD k (0, none, 0)) (fun k => pb.getD k (0, [])) :=
  ⟨fun g' o e => by injection e with e; injection e with e1; omega, fun _ => ⟨g, 0, rfl, rng_pw xs hb, hb.lt⟩, fun k hk => ⟨(hp k hk).1, (hp k hk).2.1, (hp k hk).2.2.1⟩, fun k hk => (hp k hk).2.2.2⟩
set_option maxRecDepth 100000 in
set_option maxHeartbeats 16000000 in
theorem works7_gives (w : World) : Calls Tryz.prog 28 #[] w fun e w' => e = .returned (.bool true) ∧ Below w.heap.size w w' := by
  have HN : ∀ W, Calls Tryz.prog 9 #[.int .i64 44] W fun e w' => ∃ p, e = .returned (.tuple #[.pointer (some ⟨p, 0, none⟩), .int .i64 0]) ∧ W.heap.size ≤ p ∧ DkIs w' p 44 (fun _ => zer64) [] 0 false ∧ Below W.heap.size W w' := fun W => new_gives W 44 (by decide) (by decide)
  have hpl : planOk 2 3 = true := by decide
  obtain ⟨P7, HP7, HPG, h7⟩ : ∃ P7, (∀ W, Calls Tryz.prog 65 #[.int .u8 7] W fun e w' => ∃ A c, e = .returned (.slice A 512 c) ∧ InB w' w'.heap.size A c P7 ∧ TyB w' A ∧ Below W.heap.size W w') ∧ (∀ W, Calls Tryz.prog 65 #[.int .u8 7] W (GivesB W P7)) ∧ Hid (P7.length = 512) := ⟨_, page7_at 7 7 (by decide), (fun W => page7_gives W 7), Lib.hid (pgL_length 7)⟩
  obtain ⟨P1, HP1, h1⟩ : ∃ P1, (∀ W, Calls Tryz.prog 65 #[.int .u8 1] W fun e w' => ∃ A c, e = .returned (.slice A 512 c) ∧ InB w' w'.heap.size A c P1 ∧ TyB w' A ∧ Below W.heap.size W w') ∧ Hid (P1.length = 512) := ⟨_, page7_at 1 1 (by decide), Lib.hid (pgL_length 1)⟩
  obtain ⟨P2, HP2, h2⟩ : ∃ P2, (∀ W, Calls Tryz.prog 65 #[.int .u8 2] W fun e w' => ∃ A c, e = .returned (.slice A 512 c) ∧ InB w' w'.heap.size A c P2 ∧ TyB w' A ∧ Below W.heap.size W w') ∧ Hid (P2.length = 512) := ⟨_, page7_at 2 2 (by decide), Lib.hid (pgL_length 2)⟩
  go_enter Tryz.func28, Tryz.ntmps28
  go_wp2_with fail
  refine (HN _).mono ?_
  rintro x W1 ⟨d, rfl, hp, hD1, hB1⟩
  go_wp2_with fail
  refine (fopen_new (W0 := w) W1 d 44 2 3 hB1 hp hD1 hpl (by decide) (by decide)).mono ?_
  rintro x W2 ⟨f, l, rfl, hF2⟩
  have hS2 : StP 2 3 _ _ 0 := StP.begun (by decide) (by decide)
  have hPg2 : PgIn 3 ⟨1, 1, 0, []⟩ := fun u hu => by cases hu
  generalize laid (fun _ => zer64) (wrL 1 (hEnc 1 1 0 0) 1) = G2 at *
  generalize (⟨1, 1, 0, []⟩ : LgS) = S2 at *
  clear HN hD1 hB1 hp
  go_wp2_with fail
  refine (HP7 _).mono ?_
  rintro x W3 ⟨A7, c7, rfl, hin7, hty7, hB3⟩
  have hlt := hF2.lts
  have s3 := hB3.size
  obtain ⟨V3, hV3⟩ : ∃ V3, V3 = (W3.alloc (.cells #[.int .i64 0, .slice none 0 0] 80)).setRow W3.heap.size #[.int .i64 0, .slice A7 512 c7] := ⟨_, rfl⟩
  have bz := BlkIs.new W3 80 #[.int .i64 0, .slice none 0 0]
  have b3 : BlkIs V3 W3.heap.size 80 #[.int .i64 0, .slice A7 512 c7] := by rw [hV3]; exact bz.setRow _
  have hBV3 : Below W3.heap.size W3 V3 := by rw [hV3]; exact below_setRow ((Below.refl _ _).alloc (Nat.le_refl _) _) (Nat.le_refl _) _
  obtain ⟨V4, hV4⟩ : ∃ V4, V4 = V3.alloc (.cells #[.int .i64 0, .slice A7 512 c7] 80) := ⟨_, rfl⟩
  have b4 : BlkIs V4 V3.heap.size 80 (pwsC [(0, A7, c7)]).toArray := by rw [hV4]; exact BlkIs.new V3 _ _
  have hBV4 : Below V3.heap.size V3 V4 := by rw [hV4]; exact (Below.refl _ _).alloc (Nat.le_refl _) _
  have hB34 : Below W3.heap.size W3 V4 := hBV3.trans (hBV4.mono hBV3.size)
  have hF4 := (hF2.grow hB3).grow hB34
  have a4 : PwArgs V4 W3.heap.size (some ⟨V3.heap.size, 0, none⟩) 1 (fun k => [((0 : Int), A7, c7)].getD k (0, none, 0)) (fun k => [((0 : Int), P7)].getD k (0, [])) :=
    args_of [(0, A7, c7)] [(0, P7)] b4 hBV3.size (fun k hk => by
      obtain rfl : k = 0 := by simp at hk; omega
      exact ⟨rfl, h7.out, (hin7.below hB34).more hB34.size, hty7.grow hB34⟩)
  have HC1 := fcommit_ac hF4 (okF_free G2) (Nat.zero_le _) hS2 hPg2 (by decide) hpl (by decide) (by decide) (P := 3) (c := 1) rfl (by decide) a4 (by omega) (by omega) (by decide) 3
  have b34 := b3.below hBV4 b3.lt
  have in4 := (hin7.below hB34).more hB34.size
  have ty4 := hty7.grow hB34
  have HV3 := Lib.hid hV3
  have HV4 := Lib.hid hV4
  have hB2 := hF2.up
  clear hV3 hV4 a4 hF2 hin7 hty7
  go_wp2_with (first
    | (refine wp_storeW rfl 80 (.tmp 5) (.tmp 22) rfl W3.heap.size rfl rfl rowPW bz rfl rfl (by intro v hv; simp at hv; rcases hv with rfl | rfl <;> rfl) ?_; rw [← HV3.out])
    | (refine wp_loadW rfl 80 (.tmp 5) rfl W3.heap.size rfl rowPW b3 rfl ?_)
    | (go_at_call 31; rw [← HV4.out]; refine HC1.mono ?_; rintro x W5 ⟨x1, s5, S5, rfl, hC5, hF5, hG5⟩))
  have hx4 : ∀ k, k < 1 → (([((0 : Int), P7)].getD k (0, []))).1 = ([((0 : Int), A7, c7)].getD k (0, none, 0)).1 := fun k hk => by
    obtain rfl : k = 0 := by omega
    rfl
  have hy4 : ∀ k, k < 1 → (([((0 : Int), P7)].getD k (0, []))).2.length = 512 := fun k hk => by
    obtain rfl : k = 0 := by omega
    exact h7.out
  have hMay4 : MayCom 2 3 3 1 (fun k => [((0 : Int), P7)].getD k (0, [])) := ⟨⟨by decide, by decide, by decide, fun k hk => by
    obtain rfl : k = 0 := by omega
    exact (show (0 : Int) ≤ 0 ∧ (0 : Int) < 3 by decide)⟩, by decide⟩
  obtain ⟨G5, rfl, hS5, hPg5, hq5⟩ := com_plain hS2 hPg2 (by decide) hpl hx4 hy4 hC5
  obtain ⟨rfl, ht5⟩ : x1 = 0 ∧ tellF G5 2 S5 3 = wantF (fileY G2 2 S2) 3 1 (fun k => [((0 : Int), P7)].getD k (0, [])) 3 := by
    rcases hq5 with ⟨e, _, h⟩ | ⟨_, h, _⟩
    · exact ⟨e, h⟩
    · exact absurd hMay4 h
  have hp5 := tell_pages (by obtain ⟨hz, h⟩ := hS2.li; exact h.len) hS2.y (by obtain ⟨hz, h⟩ := hS5.li; exact h.len) hS5.y hy4 ht5
  have hf5 : fileY G5 2 S5 0 = P7 := hp5.2 0 (by decide)
  have hMu5 : ∀ g cs, BlkIs V4 g 5 cs → ¬ (g = d ∨ g = l) := fun g cs hb => hF4.ne hb (by decide) (by decide)
  obtain ⟨in5, ty5⟩ := keepB hG5 in4 ty4 hMu5
  have b5 := hG5.blk b34 (hF4.ne b34 (by decide) (by decide))
  have s5 := hG5.size
  have s34 := hB34.size
  clear hMu5 hq5 hC5 hMay4 hx4 hy4 ht5 hp5 hG5 in4 ty4 b34 hF4 HC1 HV3 HV4 bz b3 b4 hBV3 hBV4 hB34 hS2 hPg2
  go_wp2_with fail
  refine (HP1 _).mono ?_
  rintro x W6 ⟨A1, c1, rfl, hin1, hty1, hB6⟩
  go_wp2_with fail
  refine (HP2 _).mono ?_
  rintro x W7 ⟨A2, c2, rfl, hin2, hty2, hB7⟩
  have hB57 := hB6.trans (hB7.mono hB6.size)
  have s57 := hB57.size
  obtain ⟨V8, hV8⟩ : ∃ V8, V8 = W7.alloc (.cells #[.int .i64 1, .slice A1 512 c1, .int .i64 2, .slice A2 512 c2] 80) := ⟨_, rfl⟩
  have b8 : BlkIs V8 W7.heap.size 80 (pwsC [(1, A1, c1), (2, A2, c2)]).toArray := by rw [hV8]; exact BlkIs.new W7 _ _
  have hB78 : Below W7.heap.size W7 V8 := by rw [hV8]; exact (Below.refl _ _).alloc (Nat.le_refl _) _
  have hB58 := hB57.trans (hB78.mono hB57.size)
  have hF8 := hF5.grow hB58
  have hlt5 := hF5.lts
  have a8 : PwArgs V8 W5.heap.size (some ⟨W7.heap.size, 0, none⟩) 2 (fun k => [((1 : Int), A1, c1), (2, A2, c2)].getD k (0, none, 0)) (fun k => [((1 : Int), P1), (2, P2)].getD k (0, [])) :=
    args_of [(1, A1, c1), (2, A2, c2)] [(1, P1), (2, P2)] b8 s57 (fun k hk => by
      rcases (show k = 0 ∨ k = 1 by simp at hk; omega) with rfl | rfl
      · exact ⟨rfl, h1.out, (((hin1.below hB7).more hB7.size).below hB78).more hB78.size, (hty1.grow hB7).grow hB78⟩
      · exact ⟨rfl, h2.out, (hin2.below hB78).more hB78.size, hty2.grow hB78⟩)
  have HC2 := fcommit_ac hF8 (okF_free G5) (Nat.zero_le _) hS5 hPg5 (by decide) hpl (by decide) (by decide) (P := 3) (c := 2) rfl (by decide) a8 (by omega) (by omega) (by decide) 3
  have b85 := b5.below hB58 b5.lt
  have in8 := (in5.below hB58).more hB58.size
  have ty8 := ty5.grow hB58
  have HV8 := Lib.hid hV8
  clear hV8 a8 hF5 in5 ty5 b5
  go_wp2_with (go_at_call 31; rw [← HV8.out]; refine HC2.mono ?_; rintro x W9 ⟨x2, s9, S9, rfl, hC9, hF9, hG9⟩)
  have hx8 : ∀ k, k < 2 → (([((1 : Int), P1), (2, P2)].getD k (0, []))).1 = ([((1 : Int), A1, c1), (2, A2, c2)].getD k (0, none, 0)).1 := fun k hk => by
    rcases (show k = 0 ∨ k = 1 by omega) with rfl | rfl <;> rfl
  have hy8 : ∀ k, k < 2 → (([((1 : Int), P1), (2, P2)].getD k (0, []))).2.length = 512 := fun k hk => by
    rcases (show k = 0 ∨ k = 1 by omega) with rfl | rfl
    · exact h1.out
    · exact h2.out
  have hMay8 : MayCom 2 3 3 2 (fun k => [((1 : Int), P1), (2, P2)].getD k (0, [])) := ⟨⟨by decide, by decide, by decide, fun k hk => by
    rcases (show k = 0 ∨ k = 1 by omega) with rfl | rfl
    · exact (show (0 : Int) ≤ 1 ∧ (1 : Int) < 3 by decide)
    · exact (show (0 : Int) ≤ 2 ∧ (2 : Int) < 3 by decide)⟩, by decide⟩
  obtain ⟨G9, rfl, hS9, hPg9, hq9⟩ := com_plain hS5 hPg5 (by decide) hpl hx8 hy8 hC9
  obtain ⟨rfl, ht9⟩ : x2 = 0 ∧ tellF G9 2 S9 3 = wantF (fileY G5 2 S5) 3 2 (fun k => [((1 : Int), P1), (2, P2)].getD k (0, [])) 3 := by
    rcases hq9 with ⟨e, _, h⟩ | ⟨_, h, _⟩
    · exact ⟨e, h⟩
    · exact absurd hMay8 h
  have hp9 := tell_pages (by obtain ⟨hz, h⟩ := hS5.li; exact h.len) hS5.y (by obtain ⟨hz, h⟩ := hS9.li; exact h.len) hS9.y hy8 ht9
  have hf9 : fileY G9 2 S9 0 = P7 := (hp9.2 0 (by decide)).trans hf5
  have hsz9 : S9.sz = 3 := lowB_small hp9.1 ⟨hS9.sz.1, by have := hS9.sz.2; omega⟩ ⟨by decide, by decide⟩
  have hMu9 : ∀ g cs, BlkIs V8 g 5 cs → ¬ (g = d ∨ g = l) := fun g cs hb => hF8.ne hb (by decide) (by decide)
  obtain ⟨in9, ty9⟩ := keepB hG9 in8 ty8 hMu9
  have b9 := hG9.blk b85 (hF8.ne b85 (by decide) (by decide))
  have hS9n : (S9.fs.length : Int) ≤ 2 := hS9.fs
  have HR : Calls Tryz.prog 66 #[.pointer (some ⟨f, 0, none⟩), .int .i64 0] W9 fun e w' => ∃ A c, e = .returned (.tuple #[.slice A 512 c, .int .i64 0]) ∧ InB w' w'.heap.size A c P7 ∧ Below W9.heap.size W9 w' := by
    have h := fread_gives W9 f l d 44 2 3 ⟨G9, [], 0, false⟩ S9 hF9.fb hF9.lg hF9.dk rfl (Nat.zero_le _) (by omega) hS9.y hpl (by decide) (by decide) 0 (by decide) 20 (by decide)
    have e : fpY (laid G9 []) 20 S9 0 = P7 := hf9
    rw [e] at h
    exact h
  clear hMu9 hq9 hC9 hMay8 hx8 hy8 ht9 hp9 hG9 in8 ty8 b85 hF8 HC2 HV8 b8 hB58 hB78 hB57 hS5 hPg5 hin1 hin2 hty1 hty2 hB6 hB7 hf5 hf9 HP1 HP2 HP7
  go_wp2_with fail
  refine HR.mono ?_
  rintro x W10 ⟨A10, c10, rfl, hin10, hB10⟩
  have b10 := b9.below hB10 b9.lt
  have hF10 := hF9.grow hB10
  have in10 := (in9.below hB10).more hB10.size
  have ty10 := ty9.grow hB10
  have hlt10 := hF10.lts
  obtain ⟨V11, hV11⟩ : ∃ V11, V11 = W10.alloc (.cells #[.int .i64 0, .slice A7 512 c7, .int .i64 0, .slice A7 512 c7, .int .i64 0, .slice A7 512 c7] 80) := ⟨_, rfl⟩
  have b11 : BlkIs V11 W10.heap.size 80 (pwsC [(0, A7, c7), (0, A7, c7), (0, A7, c7)]).toArray := by rw [hV11]; exact BlkIs.new W10 _ _
  have hB11 : Below W10.heap.size W10 V11 := by rw [hV11]; exact (Below.refl _ _).alloc (Nat.le_refl _) _
  have hF11 := hF10.grow hB11
  have a11 : PwArgs V11 W10.heap.size (some ⟨W10.heap.size, 0, none⟩) 3 (fun k => [((0 : Int), A7, c7), (0, A7, c7), (0, A7, c7)].getD k (0, none, 0)) (fun k => [((0 : Int), P7), (0, P7), (0, P7)].getD k (0, [])) :=
    args_of [(0, A7, c7), (0, A7, c7), (0, A7, c7)] [(0, P7), (0, P7), (0, P7)] b11 (Nat.le_refl _) (fun k hk => by
      have h := (in10.below hB11).more hB11.size
      have h' := ty10.grow hB11
      rcases (show k = 0 ∨ k = 1 ∨ k = 2 by simp at hk; omega) with rfl | rfl | rfl
      · exact ⟨rfl, h7.out, h, h'⟩
      · exact ⟨rfl, h7.out, h, h'⟩
      · exact ⟨rfl, h7.out, h, h'⟩)
  have HC3 := fcommit_ac hF11 (okF_free G9) (Nat.zero_le _) hS9 hPg9 (by decide) hpl (by decide) (by decide) (P := 3) (c := 3) rfl (by decide) a11 (by omega) (by omega) (by decide) 3
  have HV11 := Lib.hid hV11
  have hin11 := (hin10.below hB11).more hB11.size
  clear hV11 a11 in10 ty10 in9 ty9 hin10
  go_wp2_with (first
    | (refine wp_loadW rfl 80 (.tmp 5) rfl W3.heap.size rfl rowPW b10 rfl ?_)
    | (go_at_call 31; rw [← HV11.out]; refine HC3.mono ?_; rintro x W12 ⟨x3, s12, S12, rfl, hC12, hF12, hG12⟩))
  have hx12 : ∀ k, k < 3 → (([((0 : Int), P7), (0, P7), (0, P7)].getD k (0, []))).1 = ([((0 : Int), A7, c7), (0, A7, c7), (0, A7, c7)].getD k (0, none, 0)).1 := fun k hk => by
    rcases (show k = 0 ∨ k = 1 ∨ k = 2 by omega) with rfl | rfl | rfl <;> rfl
  have hx3 : x3 = 160 := com_full hC12 hpl hx12 ⟨by decide, by decide, by decide, fun k hk => by
    rcases (show k = 0 ∨ k = 1 ∨ k = 2 by omega) with rfl | rfl | rfl <;> exact (show (0 : Int) ≤ 0 ∧ (0 : Int) < 3 by decide)⟩ (by decide)
  subst hx3
  have hin8 : InB W12 W12.heap.size A10 c10 P7 := hG12.inB hin11 (fun g o e h0 hgd => by
    subst e
    obtain ⟨rr, A', c', hdk, _⟩ := DkIs.has hF11.dk
    obtain ⟨_, A, c, vs, hlg, _⟩ := hF11.lg
    have h512 := h7.out
    rcases hgd with hgd | hgd
    · exact hin11.notSmall (by omega) hdk (by simp [dkC]) hgd
    · exact hin11.notSmall (by omega) hlg (by simp [lgC]) hgd)
  have hy12 : ∀ k, k < 3 → (([((0 : Int), P7), (0, P7), (0, P7)].getD k (0, []))).2.length = 512 := fun k hk => by
    rcases (show k = 0 ∨ k = 1 ∨ k = 2 by omega) with rfl | rfl | rfl <;> exact h7.out
  obtain ⟨G12, rfl, hS12, hPg12, hq12⟩ := com_plain hS9 hPg9 (by decide) hpl hx12 hy12 hC12
  have hsz12 : S12.sz = 3 := by
    rcases hq12 with ⟨e, _⟩ | ⟨_, _, ht⟩
    · exact absurd e (by decide)
    · have hp := toldF_inj (fun k => fpY_len (by obtain ⟨hz, h⟩ := hS12.li; exact h.len) hS12.y _ _) (fun k => fpY_len (by obtain ⟨hz, h⟩ := hS9.li; exact h.len) hS9.y _ _) 3 ht
      rw [← hsz9]
      exact lowB_small hp.1 ⟨hS12.sz.1, by have := hS12.sz.2; omega⟩ ⟨hS9.sz.1, by have := hS9.sz.2; omega⟩
  have HSZ : ∀ w', Grow W12 w' → Calls Tryz.prog 67 #[.pointer (some ⟨f, 0, none⟩)] w' fun e w2 => e = .returned (.int .i64 3) ∧ w' = w2 := fun w' hG => by
    have h := hF12.grow hG
    have h2 := fsize_gives h.fb h.lg
    rw [hsz12] at h2
    exact h2
  have hB012 := hF12.up
  clear hG12 hF12 hF11 hF10 hF9 hin11 hy12 hq12 hx12 hC12 HC3 HV11 b11 hB11 b10 hB10 b9 hS12 hS9 hPg12 hPg9 HR
  go_wp2_with fail
  open Reg in
  refine region_facts (by kernel_rfl) (by kernel_rfl) 74 rfl (by kernel_rfl)
    [(3, .val (.pointer (some ⟨f, 0, none⟩))), (4, .val (.int .i64 0)), (6, .val (.int .i64 0)), (7, .val (.int .i64 0)), (8, .res (P7)), (9, .val (.int .i64 0)), (10, .val (.int .i64 160))]
    [(45, .val (.int .i64 0)), (46, .val (.int .i64 0)), (47, .val (.int .i64 0)), (48, .val (.int .i64 0)), (49, .val (.int .i64 0)), (50, .val (.int .i64 0)), (51, .val (.int .i64 0)), (52, .val (.int .i64 0)), (53, .val (.int .i64 0)), (54, .val (.int .i64 0)), (55, .val (.int .i64 0)), (56, .val (.bool true)), (57, .val (.bool true)), (58, .res (P7)), (59, .val (.string (str (P7)))), (60, .res (P7)), (61, .val (.string (str (P7)))), (62, .val (.bool true)), (63, .val (.bool true)), (64, .val (.bool true)), (65, .val (.int .i64 160)), (66, .val (.int .i64 160)), (67, .val (.bool true)), (68, .val (.bool true)), (69, .val (.bool true)), (70, .val (.pointer (some ⟨f, 0, none⟩))), (71, .val (.int .i64 3)), (72, .val (.bool true)), (73, .val (.bool true)), (0, .val (.bool true))]
    ⟨rfl, rfl, rfl, rfl, ⟨_, _, (by rw [h7.out]; rfl), hin8⟩, rfl, rfl, trivial⟩ (by kernel_rfl)
    (allOk_cons (ok_none rfl (l_mvF 4 (.val (.int .i64 0)) (.inl rfl) (by kernel_rfl) (by kernel_rfl) (by kernel_rfl)))
    <| allOk_cons (ok_none rfl (l_call 30 _ _ rfl (enters_of Tryz.func30 (by kernel_rfl) rfl) #[.int .i64 0] (.val (.int .i64 0)) (args1 (hs 45 (.int .i64 0) (by kernel_rfl) (by kernel_rfl))) (fun w hg => gives_num7 _ _) (by kernel_rfl)))
    <| allOk_cons (ok_none rfl (l_mvF 6 (.val (.int .i64 0)) (.inl rfl) (by kernel_rfl) (by kernel_rfl) (by kernel_rfl)))
    <| allOk_cons (ok_none rfl (l_call 30 _ _ rfl (enters_of Tryz.func30 (by kernel_rfl) rfl) #[.int .i64 0] (.val (.int .i64 0)) (args1 (hs 47 (.int .i64 0) (by kernel_rfl) (by kernel_rfl))) (fun w hg => gives_num7 _ _) (by kernel_rfl)))
    <| allOk_cons (ok_none rfl (l_add (.tmp 46) (.tmp 48) _ _ .i64 0 0 0 rfl Tryz.underlying3 (hs 46 (.int .i64 0) (by kernel_rfl) (by kernel_rfl)) (hs 48 (.int .i64 0) (by kernel_rfl) (by kernel_rfl)) (by decide) (by kernel_rfl)))
    <| allOk_cons (ok_none rfl (l_mvF 7 (.val (.int .i64 0)) (.inl rfl) (by kernel_rfl) (by kernel_rfl) (by kernel_rfl)))
    <| allOk_cons (ok_none rfl (l_call 30 _ _ rfl (enters_of Tryz.func30 (by kernel_rfl) rfl) #[.int .i64 0] (.val (.int .i64 0)) (args1 (hs 50 (.int .i64 0) (by kernel_rfl) (by kernel_rfl))) (fun w hg => gives_num7 _ _) (by kernel_rfl)))
    <| allOk_cons (ok_none rfl (l_add (.tmp 49) (.tmp 51) _ _ .i64 0 0 0 rfl Tryz.underlying3 (hs 49 (.int .i64 0) (by kernel_rfl) (by kernel_rfl)) (hs 51 (.int .i64 0) (by kernel_rfl) (by kernel_rfl)) (by decide) (by kernel_rfl)))
    <| allOk_cons (ok_none rfl (l_mvF 9 (.val (.int .i64 0)) (.inl rfl) (by kernel_rfl) (by kernel_rfl) (by kernel_rfl)))
    <| allOk_cons (ok_none rfl (l_call 30 _ _ rfl (enters_of Tryz.func30 (by kernel_rfl) rfl) #[.int .i64 0] (.val (.int .i64 0)) (args1 (hs 53 (.int .i64 0) (by kernel_rfl) (by kernel_rfl))) (fun w hg => gives_num7 _ _) (by kernel_rfl)))
    <| allOk_cons (ok_none rfl (l_add (.tmp 52) (.tmp 54) _ _ .i64 0 0 0 rfl Tryz.underlying3 (hs 52 (.int .i64 0) (by kernel_rfl) (by kernel_rfl)) (hs 54 (.int .i64 0) (by kernel_rfl) (by kernel_rfl)) (by decide) (by kernel_rfl)))
    <| allOk_cons (ok_none rfl (l_eqi (.tmp 55) (.const (Go.Value.int Go.IntKind.i64 0)) _ _ .i64 (0) rfl Tryz.underlying3 (hs 55 (.int .i64 0) (by kernel_rfl) (by kernel_rfl)) (hc _) (by kernel_rfl)))
    <| allOk_cons (ok_none rfl (l_mvF 56 (.val (.bool true)) (.inl rfl) (by kernel_rfl) (by kernel_rfl) (by kernel_rfl)))
    <| allOk_cons (okg 12 true 57 rfl (by kernel_rfl) (by kernel_rfl) (by kernel_rfl) (l_mvF 8 (.res (P7)) (.inl rfl) (by kernel_rfl) (by kernel_rfl) (by kernel_rfl)))
    <| allOk_cons (okg 12 true 57 rfl (by kernel_rfl) (by kernel_rfl) (by kernel_rfl) (l_conv 58 (P7) rfl (by kernel_rfl) (by kernel_rfl) (by kernel_rfl)))
    <| allOk_cons (okg 12 true 57 rfl (by kernel_rfl) (by kernel_rfl) (by kernel_rfl) (l_call 65 _ _ rfl (enters_of Tryz.func65 (by kernel_rfl) rfl) #[(Go.Value.int Go.IntKind.u8 7)] (.res (P7)) (args1 (hc _)) (fun w hg => gives_res (HPG w)) (by kernel_rfl)))
    <| allOk_cons (okg 12 true 57 rfl (by kernel_rfl) (by kernel_rfl) (by kernel_rfl) (l_conv 60 (P7) rfl (by kernel_rfl) (by kernel_rfl) (by kernel_rfl)))
    <| allOk_cons (okg 12 true 57 rfl (by kernel_rfl) (by kernel_rfl) (by kernel_rfl) (l_eqs (.tmp 59) (.tmp 61) _ _ ((str (P7))) rfl Tryz.underlying9 (hs 59 (.string (str (P7))) (by kernel_rfl) (by kernel_rfl)) (hs 61 (.string (str (P7))) (by kernel_rfl) (by kernel_rfl)) (by kernel_rfl)))
    <| allOk_cons (ok_none rfl (l_pick (.tmp 57) (.tmp 62) (.bool true) rfl (hs 57 (.bool true) (by kernel_rfl) (by kernel_rfl)) (hs 62 (.bool true) (by kernel_rfl) (by kernel_rfl)) (by kernel_rfl)))
    <| allOk_cons (ok_none rfl (l_mvF 63 (.val (.bool true)) (.inl rfl) (by kernel_rfl) (by kernel_rfl) (by kernel_rfl)))
    <| allOk_cons (okg 19 true 64 rfl (by kernel_rfl) (by kernel_rfl) (by kernel_rfl) (l_mvF 10 (.val (.int .i64 160)) (.inl rfl) (by kernel_rfl) (by kernel_rfl) (by kernel_rfl)))
    <| allOk_cons (okg 19 true 64 rfl (by kernel_rfl) (by kernel_rfl) (by kernel_rfl) (l_call 30 _ _ rfl (enters_of Tryz.func30 (by kernel_rfl) rfl) #[.int .i64 160] (.val (.int .i64 160)) (args1 (hs 65 (.int .i64 160) (by kernel_rfl) (by kernel_rfl))) (fun w hg => gives_num7 _ _) (by kernel_rfl)))
    <| allOk_cons (okg 19 true 64 rfl (by kernel_rfl) (by kernel_rfl) (by kernel_rfl) (l_eqi (.tmp 66) (.const (Go.Value.int Go.IntKind.i64 160)) _ _ .i64 (160) rfl Tryz.underlying3 (hs 66 (.int .i64 160) (by kernel_rfl) (by kernel_rfl)) (hc _) (by kernel_rfl)))
    <| allOk_cons (ok_none rfl (l_pick (.tmp 64) (.tmp 67) (.bool true) rfl (hs 64 (.bool true) (by kernel_rfl) (by kernel_rfl)) (hs 67 (.bool true) (by kernel_rfl) (by kernel_rfl)) (by kernel_rfl)))
    <| allOk_cons (ok_none rfl (l_mvF 68 (.val (.bool true)) (.inl rfl) (by kernel_rfl) (by kernel_rfl) (by kernel_rfl)))
    <| allOk_cons (okg 24 true 69 rfl (by kernel_rfl) (by kernel_rfl) (by kernel_rfl) (l_mvF 3 (.val (.pointer (some ⟨f, 0, none⟩))) (.inl rfl) (by kernel_rfl) (by kernel_rfl) (by kernel_rfl)))
    <| allOk_cons (okg 24 true 69 rfl (by kernel_rfl) (by kernel_rfl) (by kernel_rfl) (l_call 67 _ _ rfl (enters_of Tryz.func67 (by kernel_rfl) rfl) #[.pointer (some ⟨f, 0, none⟩)] (.val (.int .i64 3)) (args1 (hs 70 (.pointer (some ⟨f, 0, none⟩)) (by kernel_rfl) (by kernel_rfl))) (fun w hg => gives_same (HSZ w hg)) (by kernel_rfl)))
    <| allOk_cons (okg 24 true 69 rfl (by kernel_rfl) (by kernel_rfl) (by kernel_rfl) (l_eqi (.tmp 71) (.const (Go.Value.int Go.IntKind.i64 3)) _ _ .i64 (3) rfl Tryz.underlying3 (hs 71 (.int .i64 3) (by kernel_rfl) (by kernel_rfl)) (hc _) (by kernel_rfl)))
    <| allOk_cons (ok_none rfl (l_pick (.tmp 69) (.tmp 72) (.bool true) rfl (hs 69 (.bool true) (by kernel_rfl) (by kernel_rfl)) (hs 72 (.bool true) (by kernel_rfl) (by kernel_rfl)) (by kernel_rfl)))
    <| allOk_cons (ok_none rfl (l_mvF 73 (.val (.bool true)) (.inr rfl) (by kernel_rfl) (by kernel_rfl) (by kernel_rfl)))
    <| allOk_nil) ?_
  intro a w13 _ hdef hG hF
  have hr : a.eval (.tmp 0) = .bool true := hF 0
  have hB13 : Below w.heap.size w w13 := hB012.trans (hG.mono hB012.size)
  clear hF
  simp only [Exit.then]
  refine ‹∀ (a : Act) (w : World), Code.wp Tryz.prog Code.ret _ a w → _› a w13 ?_
  refine Reg.ends1 0 (.bool true) rfl hr hdef ?_
  exact ⟨rfl, hB13⟩
end Go.Proofs.YtocnabpplbeafaaGreat
/- loupelaw07.FileTells: the walk. -/
namespace Go.Proofs.YtocnabpplbeafaaGreat
open Go Go.RowKit Lou

/-- How far the acts have come. -/
def FtRel (W0 : World) (d f l many : Nat) (fr pg : Int) (n : Nat) (i : Value) (W : World) : Prop := ∃ k : Nat, k ≤ n ∧ i = .int .i64 (k : Int) ∧ ∃ G S, StP fr pg G S (3 * k) ∧ PgIn pg S ∧ FhIs W0 d f l many fr pg ⟨G, [], 0, false⟩ S W
/-- The act's pages are committed: writes, then Commit. -/
theorem fcommit_wr {W0 W : World} {d f l many : Nat} {fr pg : Int} {s : DS} {S : LgS} (h : FhIs W0 d f l many fr pg s S W) (hO : s.Ok) (hl : s.xs.length ≤ 100000) {i P : Nat} {G : Nat → List UInt8} (hS : StP fr pg G S i) (hp : PgIn pg S) (hi : i ≤ 900) (hpl : planOk fr pg = true) (hm : (many : Int) = 2 + 9 * fr + 8 * pg) (hmax : many ≤ 100000) (hP : (P : Int) = pg) (hP2 : P ≤ 1000)
    (x : AcV) (h6 : x.ps.length ≤ 6) {W1 : World} {e : Ending} (hW : WrsOut x.ps x.bs W e W1) : ∃ A1 c xs, e = .returned (.slice A1 x.ps.length c) ∧ Below W.heap.size W W1 ∧ (∀ k, k < x.ps.length → (pwOf x.ps x.bs k).1 = (xs k).1) ∧ ∀ z, Calls Tryz.prog 31 #[.pointer (some ⟨f, 0, none⟩), .int .i64 z, .slice A1 x.ps.length c] W1 fun e w' => ∃ r s' S', e = .returned (.int .i64 r) ∧ ComOut fr pg P s S x.ps.length xs (pwOf x.ps x.bs) z r s' S' ∧ FhIs W0 d f l many fr pg s' S' w' := by
  obtain ⟨A1, c, xs, rfl, hB, hA⟩ := hW.args
  have hlt := h.lts
  refine ⟨A1, c, xs, rfl, hB, fun k hk => (hA.bys k hk).1, fun z => ?_⟩
  refine (fcommit_ac (h.grow hB) hO hl hS hp hi hpl hm hmax hP (by omega) hA hlt.1 hlt.2 hP2 z).mono ?_
  rintro e w' ⟨r, s', S', rfl, h1, h2, _⟩
  exact ⟨r, s', S', rfl, h1, h2⟩
theorem pwOf_len (ps : List Int) (bs : List UInt8) : ∀ k, k < ps.length → (pwOf ps bs k).2.length = 512 := fun k _ => by
  show (List.replicate 512 _).length = 512
  exact List.length_replicate
end Go.Proofs.YtocnabpplbeafaaGreat
