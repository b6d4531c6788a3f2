/- Texts that the proof of WalHolds leans on, part 16. -/
import Derived.Shelf.SlIterI.Nil
import Derived.Shelf.SortM.Plain
import Derived.Shelf.SortM.SortNone
import Derived.Sort.CutIn
import Derived.Lib.Builder
import Derived.Test.YtocnabpplbeafaaGreatWalHoldsB15
/- wal: behind an Append under way, a stop and a crash there lies what counted, or that and the append. -/
namespace Go.Proofs.YtocnabpplbeafaaGreat
open Go Go.RowKit Lou

/-- A log lies on a disk, and what else lies where heads do is older. -/
structure LI (G : Nat → List UInt8) (S : LgS) (hz : Nat) : Prop where
  on : LogOn G S hz
  len : ∀ k, (G k).length = 64
  old : hdS2 (G (1 - S.sr % 2)) < S.sr
theorem headL_one {s e : Nat} {z c : Int} (hz : 0 ≤ z ∧ z ≤ 2000) (hc : 0 ≤ c ∧ c ≤ 2000) : wrL (s % 2) (hEnc s e z c) 1 = [(s % 2, headW s e z.toNat c.toNat)] := by
  unfold hEnc
  rw [if_pos (headOk_of hz.1 hz.2 hc.1 hc.2)]
  show [(s % 2 + 0, chunkB (headW s e z.toNat c.toNat) 0)] = _
  unfold chunkB
  rw [Nat.mul_zero, List.drop_zero, List.take_of_length_le (by rw [headW_length]; exact Nat.le_refl _)]
  rfl
theorem LI.away {G H : Nat → List UInt8} {S : LgS} {hz : Nat} (h : LI G S hz) (hG : ∀ k, k < 2 + 9 * S.fs.length → H k = G k) (hl : ∀ k, (H k).length = 64) : LI H S hz := by
  have e0 := hG (S.sr % 2) (by omega)
  have e1 := hG (1 - S.sr % 2) (by omega)
  obtain ⟨⟨h1, h2, h3, h4, h5, h6, h7, h8, h9⟩, h10, h11⟩ := h
  exact ⟨⟨by rw [e0]; exact h1, h2, h3, h4, h5, h6, by rw [e1]; exact h7, h8, h9.away (fun k _ hk => hG k hk)⟩, hl, by rw [e1]; exact h11⟩
/-- A newer head, over frames that lie. -/
theorem LI.next {G G1 : Nat → List UInt8} {S : LgS} {hz : Nat} (h : LI G S hz) (hG : ∀ k, k < 2 → G1 k = G k) (hl : ∀ k, (G1 k).length = 64) {ep : Nat} {z : Int} {fs : List FrP} (hF : FrOn G1 ep fs) (hsr : S.sr + 1 < 2 ^ 64) (hep : ep < 2 ^ 64) (hs : 0 ≤ S.sz ∧ S.sz ≤ 2000) (hfl : fs.length ≤ 2000) (hzz : z = szOf S.sz fs) :
    LI (laid G1 [((S.sr + 1) % 2, headW (S.sr + 1) ep S.sz.toNat fs.length)]) ⟨S.sr + 1, ep, z, fs⟩ S.sz.toNat := by
  have hL : ∀ k, laid G1 [((S.sr + 1) % 2, headW (S.sr + 1) ep S.sz.toNat fs.length)] k = if k = (S.sr + 1) % 2 then headW (S.sr + 1) ep S.sz.toNat fs.length else G1 k := fun k => laid_one G1 [] _ _ k
  have ho : 1 - (S.sr + 1) % 2 = S.sr % 2 := by omega
  have hq : ¬ (S.sr % 2 = (S.sr + 1) % 2) := by omega
  have hd := h.on.hd
  have hr := headW_read h.on.sr h.on.ep h.on.hzl h.on.hn
  refine ⟨⟨?_, hsr, hep, by show S.sz.toNat ≤ 2000; omega, hfl, by show 1 ≤ S.sr + 1; omega, ?_, ?_, ?_⟩, ?_, ?_⟩
  · simp only [hL, if_pos]
  · intro _
    simp only [ho, hL, if_neg hq]
    rw [hG _ (by omega), hd, hr.1]
    omega
  · show z = szOf ((S.sz.toNat : Nat) : Int) fs
    rw [show ((S.sz.toNat : Nat) : Int) = S.sz by omega]
    exact hzz
  · exact hF.away (fun k h2 _ => by rw [hL, if_neg (by omega)])
  · intro k
    rw [hL]
    split
    · exact headW_length _ _ _ _
    · exact hl k
  · simp only [ho, hL, if_neg hq]
    rw [hG _ (by omega), hd, hdS2_headW h.on.sr h.on.ep h.on.hzl h.on.hn]
    omega
/-- A newer head of which some bytes alone have come. -/
theorem LI.torn {G G2 : Nat → List UInt8} {S : LgS} {hz : Nat} (h : LI G S hz) {ep z c m : Nat} (h2 : ∀ k, G2 k = if k = (S.sr + 1) % 2 then (headW (S.sr + 1) ep z c).take m ++ (G k).drop m else G k) :
    LogOn G2 S hz ∨ G2 = laid G [((S.sr + 1) % 2, headW (S.sr + 1) ep z c)] := by
  by_cases he : (headW (S.sr + 1) ep z c).take m ++ (G ((S.sr + 1) % 2)).drop m = headW (S.sr + 1) ep z c
  · right
    funext k
    rw [h2, show laid G [((S.sr + 1) % 2, headW (S.sr + 1) ep z c)] k = if k = (S.sr + 1) % 2 then headW (S.sr + 1) ep z c else G k from laid_one G [] _ _ k]
    by_cases hk : k = (S.sr + 1) % 2
    · rw [if_pos hk, if_pos hk, hk]
      exact he
    · rw [if_neg hk, if_neg hk]
  · left
    have hq : ¬ (S.sr % 2 = (S.sr + 1) % 2) := by omega
    have ho : 1 - S.sr % 2 = (S.sr + 1) % 2 := by omega
    have hold := h.old
    rw [ho] at hold
    obtain ⟨⟨h1, h2', h3, h4, h5, h6, h7, h8, h9⟩, h10, h11⟩ := h
    refine ⟨by rw [h2, if_neg hq]; exact h1, h2', h3, h4, h5, h6, ?_, h8, h9.away (fun k hk _ => by rw [h2, if_neg (by omega)])⟩
    rw [ho, h2, if_pos rfl]
    intro hg
    unfold goodH at hg
    simp only [Bool.and_eq_true] at hg
    rcases torn_over (h10 _) m hg.1 with e | e
    · exact absurd e he
    · rw [e]
      exact hold

/-! ### Stops -/
theorem wrs_free : ∀ (L : List (Nat × List UInt8)) (s : DS), s.st = false → wrs s L = (⟨s.g, s.xs ++ L, s.left, s.st⟩, 0)
  | [], s, _ => by simp [wrs]
  | x :: r, s, h => by
    have hs : s.stopped = false := by unfold DS.stopped; rw [h]; rfl
    rw [wrs_cons_ok hs, wrs_free r (s.push x) h]
    unfold DS.push
    simp only [List.append_assoc, List.singleton_append, h]
    rfl
theorem syn_free {s : DS} (h : s.st = false) : synD s = (⟨laid s.g s.xs, [], s.left, s.st⟩, 0) := by
  have hs : s.stopped = false := by unfold DS.stopped; rw [h]; rfl
  unfold synD
  rw [hs, h]
  rfl
theorem layD_free {s : DS} (h : s.st = false) (L : List (Nat × List UInt8)) : layD s L = (⟨laid s.g (s.xs ++ L), [], s.left, s.st⟩, 0) := by
  unfold layD
  rw [wrs_free L s h]
  simp only [if_true]
  exact syn_free h
theorem appD_free {s : DS} (h : s.st = false) (L1 L2 : List (Nat × List UInt8)) : appD s L1 L2 = (⟨laid (laid s.g (s.xs ++ L1)) L2, [], s.left, s.st⟩, 0) := by
  unfold appD
  rw [wrs_free L1 s h]
  simp only [if_true]
  have e1 : synD ⟨s.g, s.xs ++ L1, s.left, s.st⟩ = (⟨laid s.g (s.xs ++ L1), [], s.left, s.st⟩, 0) := syn_free h
  have e2 := layD_free (s := ⟨laid s.g (s.xs ++ L1), [], s.left, s.st⟩) h L2
  rw [e1]
  simp only [if_true]
  rw [e2]
  rfl
theorem wrs_mem : ∀ (L : List (Nat × List UInt8)) (s : DS), ∀ x ∈ (wrs s L).1.xs, x ∈ s.xs ∨ x ∈ L
  | [], s, x, h => .inl h
  | y :: r, s, x, h => by
    cases hs : s.stopped
    · rw [wrs_cons_ok hs] at h
      rcases wrs_mem r (s.push y) x h with h | h
      · rcases List.mem_append.1 h with h | h
        · exact .inl h
        · exact .inr (by rw [List.mem_singleton.1 h]; exact List.mem_cons_self)
      · exact .inr (List.mem_cons_of_mem _ h)
    · rw [wrs_cons_bad hs] at h
      exact .inl h
theorem wrs_all : ∀ (L : List (Nat × List UInt8)) (s : DS), (wrs s L).2 = 0 → (wrs s L).1.xs = s.xs ++ L
  | [], s, _ => by simp [wrs]
  | y :: r, s, h => by
    cases hs : s.stopped
    · rw [wrs_cons_ok hs] at h ⊢
      rw [wrs_all r (s.push y) h]
      show (s.xs ++ [y]) ++ r = _
      simp
    · rw [wrs_cons_bad hs] at h
      exact absurd h (show ¬ (140 : Int) = 0 by decide)
/-- What is synced behind a crash. -/
def crD (s : DS) (bs : List Bool) (t : Nat) : Nat → List UInt8 := laid s.g (torn s.g (keptTo s.xs bs s.xs.length) t)
theorem crD_none {s : DS} (h : s.xs = []) (bs : List Bool) (t : Nat) : crD s bs t = s.g := by
  unfold crD
  rw [h]
  show laid s.g (Proofs.YtocnabpplbeafaaGreat.torn s.g [] t) = _
  rw [torn_none _ _ _ (.inl rfl)]
  rfl
theorem crD_one {s : DS} {a : Nat} {H : List UInt8} (h : s.xs = [(a, H)]) (hH : H.length = 64) (hG : ∀ k, (s.g k).length = 64) (bs : List Bool) (t : Nat) : ∃ m, ∀ k, crD s bs t k = if k = a then H.take m ++ (s.g k).drop m else s.g k := by
  unfold crD
  rw [h]
  have hk : keptTo [(a, H)] bs [(a, H)].length = if bs.getD 0 false then [(a, H)] else [] := by
    show keptTo [(a, H)] bs (0 + 1) = _
    unfold keptTo
    split <;> rfl
  have h1 : ∀ L k, laid s.g [(a, L)] k = if k = a then L else s.g k := fun L k => laid_one s.g [] a L k
  rw [hk]
  split
  · unfold Proofs.YtocnabpplbeafaaGreat.torn
    split
    · refine ⟨64, fun k => ?_⟩
      rw [h1, List.take_of_length_le (by omega), List.drop_of_length_le (by rw [hG]; exact Nat.le_refl _), List.append_nil]
    · exact ⟨t, fun k => by
        show laid s.g [(a, H.take t ++ (s.g a).drop t)] k = _
        rw [h1]
        split
        · next e => rw [e]
        · rfl⟩
  · rw [torn_none _ _ _ (.inl rfl)]
    exact ⟨0, fun k => by
      show s.g k = _
      split
      · simp
      · rfl⟩
theorem crD_away {s : DS} {k : Nat} (h : ∀ x ∈ s.xs, x.1 ≠ k) (bs : List Bool) (t : Nat) : crD s bs t k = s.g k :=
  crash_away s.g s.xs bs t k (fun j hj e => absurd e (h _ (List.getElem_mem hj)))
theorem tornL_wide {g : Nat → List UInt8} {ks : List (Nat × List UInt8)} (hk : Wide ks) (hg : ∀ k, (laid g ks.dropLast k).length = 64) (t : Nat) : Wide (torn g ks t) := by
  unfold torn
  split
  · exact hk
  · rename_i h
    have hne : ks ≠ [] := fun e => h (.inl e)
    intro x hx
    rcases List.mem_append.1 hx with hx | hx
    · exact hk x (List.dropLast_subset ks hx)
    · obtain rfl := List.mem_singleton.1 hx
      have hl : (ks.getLastD (0, zer64)).2.length = 64 := by
        cases ks with
        | nil => exact absurd rfl hne
        | cons y t => exact hk _ (by rw [List.getLastD_cons]; exact List.getLastD_mem_cons ..)
      show (_ ++ _ : List UInt8).length = 64
      rw [List.length_append, List.length_take, List.length_drop, hl, hg]
      omega
theorem crD_len {s : DS} (hG : ∀ k, (s.g k).length = 64) (hx : Wide s.xs) (bs : List Bool) (t : Nat) : ∀ k, (crD s bs t k).length = 64 := by
  refine laid_len _ s.g hG ?_
  have h1 := keptTo_wide hx bs s.xs.length
  exact tornL_wide h1 (fun k => laid_len _ s.g hG (fun x hx => h1 x ((List.dropLast_sublist _).subset hx)) k) t
theorem wrL_wide {a m : Nat} {b : List UInt8} (h : 64 * m ≤ b.length) : Wide (wrL a b m) := by
  intro x hx
  unfold wrL at hx
  obtain ⟨i, hi, rfl⟩ := List.mem_map.1 hx
  have := List.mem_range.1 hi
  show (chunkB b i).length = 64
  unfold chunkB
  rw [List.length_take, List.length_drop]
  omega
theorem frsW_wide {ep : Nat} {fs : List FrP} (h : OkF ep fs) (k : Nat) : Wide (frsW (fs.drop k)) := by
  intro x hx
  unfold frsW at hx
  obtain ⟨l, hl, hxl⟩ := List.mem_flatten.1 hx
  obtain ⟨f, hf, rfl⟩ := List.mem_map.1 hl
  obtain ⟨j, hj, rfl⟩ := List.getElem_of_mem hf
  rw [List.length_drop] at hj
  rw [List.getElem_drop] at hxl
  have h3 := (h (k + j) (by omega)).2.2.1
  have hl := FrP.enc_length h3
  have ef : fEnc (fs[k + j]).e (fs[k + j]).i (fs[k + j]).p (fs[k + j]).f (fs[k + j]).z (fs[k + j]).n (fs[k + j]).y = (fs[k + j]).enc := by
    unfold fEnc FrP.enc
    rw [if_pos h3]
  refine wrL_wide (m := 9) ?_ x hxl
  rw [ef, hl]
  exact Nat.le_refl _
/-- The log behind an Append that was carried out. -/
def newS (S : LgS) (z : Int) (n : Nat) (pw : Nat → Int × List UInt8) : LgS := ⟨S.sr + 1, S.ep, z, addK S.ep z S.fs n pw n⟩
section
variable {G : Nat → List UInt8} {S : LgS} {hz : Nat} {z pg : Int} {n : Nat} {pw : Nat → Int × List UInt8}
theorem LI.more (h : LI G S hz) (hp : PwOk pg z n pw) (hpg : pg ≤ 2000) (hl : S.fs.length + n ≤ 2000) (hn : 1 ≤ n) (hsr : S.sr + 1 < 2 ^ 64) (hs : 0 ≤ S.sz ∧ S.sz ≤ 2000) :
    (∀ k, k < 2 + 9 * S.fs.length → laid G (frsW ((addK S.ep z S.fs n pw n).drop S.fs.length)) k = G k) ∧ (∀ k, (laid G (frsW ((addK S.ep z S.fs n pw n).drop S.fs.length)) k).length = 64) ∧
    wrL ((S.sr + 1) % 2) (hEnc (S.sr + 1) S.ep S.sz ((addK S.ep z S.fs n pw n).length : Int)) 1 = [((S.sr + 1) % 2, headW (S.sr + 1) S.ep S.sz.toNat (addK S.ep z S.fs n pw n).length)] ∧
    LI (laid (laid G (frsW ((addK S.ep z S.fs n pw n).drop S.fs.length))) [((S.sr + 1) % 2, headW (S.sr + 1) S.ep S.sz.toNat (addK S.ep z S.fs n pw n).length)]) (newS S z n pw) S.sz.toNat := by
  have hO := addK_ok h.on.fr.ok hp hpg hl n (Nat.le_refl _)
  have hlen := addK_length S.ep z S.fs n pw n
  have h1 : ∀ k, k < 2 + 9 * S.fs.length → laid G (frsW ((addK S.ep z S.fs n pw n).drop S.fs.length)) k = G k := fun k hk => laid_away _ _ k (fun x hx => by have := frsW_first hO S.fs.length x hx; omega)
  have h2 : ∀ k, (laid G (frsW ((addK S.ep z S.fs n pw n).drop S.fs.length)) k).length = 64 := laid_len _ G h.len (frsW_wide hO S.fs.length)
  refine ⟨h1, h2, ?_, h.next (fun k hk => h1 k (by omega)) h2 (h.on.fr.more hp hpg hl hn) hsr h.on.ep hs (by omega) ?_⟩
  · rw [headL_one hs ⟨by omega, by omega⟩]
    rfl
  · obtain ⟨x, hx, _, hxz⟩ := addK_last (ep := S.ep) (z := z) (fs := S.fs) (n := n) (pw := pw) hn
    unfold szOf
    rw [hx]
    exact hxz.symm
/-- An Append that no stop holds up. -/
theorem LI.append (h : LI G S hz) (hp : PwOk pg z n pw) (hpg : pg ≤ 2000) (hl : S.fs.length + n ≤ 2000) (hn : 1 ≤ n) (hsr : S.sr + 1 < 2 ^ 64) (hs : 0 ≤ S.sz ∧ S.sz ≤ 2000) (left : Int) :
    ∃ G2, appD ⟨G, [], left, false⟩ (frsW ((addK S.ep z S.fs n pw n).drop S.fs.length)) (wrL ((S.sr + 1) % 2) (hEnc (S.sr + 1) S.ep S.sz ((addK S.ep z S.fs n pw n).length : Int)) 1) = (⟨G2, [], left, false⟩, 0) ∧ LI G2 (newS S z n pw) S.sz.toNat := by
  obtain ⟨_, _, h3, h4⟩ := h.more hp hpg hl hn hsr hs
  refine ⟨_, appD_free rfl _ _, ?_⟩
  rw [h3]
  exact h4
/-- A Reset that no stop holds up. -/
theorem LI.reset (h : LI G S hz) (hsr : S.sr + 1 < 2 ^ 64) (hep : S.ep + 1 < 2 ^ 64) (hs : 0 ≤ S.sz ∧ S.sz ≤ 2000) (left : Int) :
    ∃ G2, layD ⟨G, [], left, false⟩ (wrL ((S.sr + 1) % 2) (hEnc (S.sr + 1) (S.ep + 1) S.sz 0) 1) = (⟨G2, [], left, false⟩, 0) ∧ LI G2 ⟨S.sr + 1, S.ep + 1, S.sz, []⟩ S.sz.toNat := by
  refine ⟨_, layD_free rfl _, ?_⟩
  rw [headL_one hs ⟨by omega, by omega⟩]
  have hF : FrOn G (S.ep + 1) [] := ⟨fun j hj => absurd hj (Nat.not_lt_zero j), fun j hj => absurd hj (Nat.not_lt_zero j), fun x hx => by cases hx⟩
  have h5 := h.next (fun _ _ => rfl) h.len hF hsr hep hs (Nat.zero_le _) (show S.sz = szOf S.sz [] from rfl)
  rw [show ([] : List FrP).length = (0 : Int).toNat from rfl] at h5
  exact h5
/-- An Append under a stop, and a crash. -/
theorem LI.crash (h : LI G S hz) (hp : PwOk pg z n pw) (hpg : pg ≤ 2000) (hl : S.fs.length + n ≤ 2000) (hn : 1 ≤ n) (hsr : S.sr + 1 < 2 ^ 64) (hs : 0 ≤ S.sz ∧ S.sz ≤ 2000) (left : Int) (st : Bool) (r : DS × Int)
    (hr : r = appD ⟨G, [], left, st⟩ (frsW ((addK S.ep z S.fs n pw n).drop S.fs.length)) (wrL ((S.sr + 1) % 2) (hEnc (S.sr + 1) S.ep S.sz ((addK S.ep z S.fs n pw n).length : Int)) 1)) (bs : List Bool) (t : Nat) :
    (r.2 = 0 ∧ LogOn (crD r.1 bs t) (newS S z n pw) S.sz.toNat) ∨ (¬ r.2 = 0 ∧ (LogOn (crD r.1 bs t) S hz ∨ LogOn (crD r.1 bs t) (newS S z n pw) S.sz.toNat)) := by
  obtain ⟨h1, h2, h3, h4⟩ := h.more hp hpg hl hn hsr hs
  have hO := addK_ok h.on.fr.ok hp hpg hl n (Nat.le_refl _)
  have hF := frsW_first hO S.fs.length
  have hW := frsW_wide hO S.fs.length
  rw [h3] at hr
  generalize frsW ((addK S.ep z S.fs n pw n).drop S.fs.length) = L1 at *
  obtain ⟨H, hH⟩ : ∃ H, H = headW (S.sr + 1) S.ep S.sz.toNat (addK S.ep z S.fs n pw n).length := ⟨_, rfl⟩
  have hHl : H.length = 64 := by rw [hH]; exact headW_length _ _ _ _
  rw [← hH] at hr h4
  obtain ⟨s1, hs1⟩ : ∃ s1, s1 = wrs ⟨G, [], left, st⟩ L1 := ⟨_, rfl⟩
  have hg1 : s1.1.g = G := by rw [hs1]; exact (wrs_g _ _).1
  have hm1 : ∀ x ∈ s1.1.xs, x ∈ L1 := fun x hx => by
    rw [hs1] at hx
    rcases wrs_mem _ _ x hx with h | h
    · cases h
    · exact h
  have hw1 : Wide s1.1.xs := fun x hx => hW x (hm1 x hx)
  have hold1 : LogOn (crD s1.1 bs t) S hz :=
    (h.away (fun k hk => by rw [crD_away (fun x hx => by have := hF x (hm1 x hx); omega), hg1]) (crD_len (by rw [hg1]; exact h.len) hw1 bs t)).on
  unfold appD at hr
  rw [← hs1] at hr
  by_cases hz1 : s1.2 = 0
  · rw [if_pos hz1] at hr
    have hx1 : s1.1.xs = L1 := by
      rw [hs1] at hz1 ⊢
      exact wrs_all _ _ hz1
    obtain ⟨s2, hs2⟩ : ∃ s2, s2 = synD s1.1 := ⟨_, rfl⟩
    rw [← hs2] at hr
    unfold synD at hs2
    cases hst : s1.1.stopped
    · rw [hst, hg1, hx1] at hs2
      simp only [Bool.false_eq_true, if_false] at hs2
      rw [hs2] at hr
      simp only [if_true] at hr
      have hI : LI (laid G L1) S hz := h.away h1 h2
      unfold layD at hr
      obtain ⟨s3, hs3⟩ : ∃ s3, s3 = (⟨laid G L1, [], Proofs.YtocnabpplbeafaaGreat.lft s1.1.st s1.1.left, s1.1.st⟩ : DS) := ⟨_, rfl⟩
      rw [← hs3] at hr
      have hg3 : s3.g = laid G L1 := by rw [hs3]
      have hx3 : s3.xs = [] := by rw [hs3]
      clear hs3
      cases hst3 : s3.stopped
      · rw [wrs_cons_ok hst3] at hr
        have hw : wrs (s3.push ((S.sr + 1) % 2, H)) [] = (s3.push ((S.sr + 1) % 2, H), 0) := rfl
        rw [hw] at hr
        simp only [if_true] at hr
        have hx4 : (s3.push ((S.sr + 1) % 2, H)).xs = [((S.sr + 1) % 2, H)] := by unfold DS.push; rw [hx3]; rfl
        have hg4 : (s3.push ((S.sr + 1) % 2, H)).g = laid G L1 := hg3
        generalize s3.push ((S.sr + 1) % 2, H) = s4 at *
        unfold synD at hr
        cases hst4 : s4.stopped
        · rw [hst4] at hr
          simp only [Bool.false_eq_true, if_false] at hr
          refine .inl ⟨by rw [hr], ?_⟩
          rw [hr, crD_none rfl]
          show LogOn (laid s4.g s4.xs) _ _
          rw [hg4, hx4]
          exact h4.on
        · rw [hst4] at hr
          simp only [if_true] at hr
          refine .inr ⟨by rw [hr]; exact show ¬ (140 : Int) = 0 by decide, ?_⟩
          rw [hr]
          show LogOn (crD s4 bs t) S hz ∨ LogOn (crD s4 bs t) _ _
          obtain ⟨m, hm⟩ := crD_one hx4 hHl (by rw [hg4]; exact h2) bs t
          rw [hg4, hH] at hm
          rcases hI.torn hm with h5 | h5
          · exact .inl h5
          · right
            rw [h5, ← hH]
            exact h4.on
      · rw [wrs_cons_bad hst3] at hr
        simp only [show ¬ (140 : Int) = 0 by decide, if_false] at hr
        refine .inr ⟨by rw [hr]; exact show ¬ (140 : Int) = 0 by decide, .inl ?_⟩
        rw [hr, crD_none hx3, hg3]
        exact hI.on
    · rw [hst] at hs2
      simp only [if_true] at hs2
      rw [hs2] at hr
      simp only [show ¬ (140 : Int) = 0 by decide, if_false] at hr
      refine .inr ⟨by rw [hr]; exact show ¬ (140 : Int) = 0 by decide, .inl ?_⟩
      rw [hr]
      exact hold1
  · rw [if_neg hz1] at hr
    rw [hr]
    exact .inr ⟨hz1, .inl hold1⟩
end
end Go.Proofs.YtocnabpplbeafaaGreat
/- wal: Open of a new disk; what then lies on it. -/
namespace Go.Proofs.YtocnabpplbeafaaGreat
open Go Go.RowKit Lou

set_option maxRecDepth 100000 in
set_option maxHeartbeats 16000000 in
theorem open_newG (w : World) (fr pg : Int) (d many : Nat) (left : Int) (hD : DkIs w d many (fun _ => zer64) [] left false) (hok : planOk fr pg = true) (hm : (many : Int) = 2 + 9 * fr + 8 * pg) (hmax : many ≤ 1000000) (h1l : -1000000 ≤ left) (h2l : left ≤ 9223372036854775807) :
    Calls Tryz.prog 11 #[.pointer (some ⟨d, 0, none⟩), .agg #[.int .i64 fr, .int .i64 pg]] w fun e w' => ∃ l, e = .returned (.tuple #[.pointer (some ⟨l, 0, none⟩), .int .i64 0]) ∧ w.heap.size ≤ l ∧ DkIs w' d many (laid (fun _ => zer64) (wrL 1 (hEnc 1 1 0 0) 1)) [] left false ∧ BlkIs w' l 57 (lgC (some ⟨d, 0, none⟩) fr pg 1 1 0 none 0 0) ∧ w.grownBy w' (some d) := by
  have hpl := (planOk_iff fr pg).1 hok
  have hB0 : Below w.heap.size w (w.alloc (.cells #[.int .i64 fr, .int .i64 pg] 23)) := (Below.refl _ w).alloc (Nat.le_refl _) _
  have b0 := BlkIs.new w 23 #[.int .i64 fr, .int .i64 pg]
  have HS := sectors_gives fr pg (w.alloc (.cells #[.int .i64 fr, .int .i64 pg] 23))
  have hp0 : plE (planOk fr pg) 0 1 = 0 := by rw [hok]; rfl
  unfold atV at HS
  rw [hp0, if_pos rfl, ← hm] at HS
  have hm0 : ¬ (many : Int) = 0 := by omega
  have hdl := hD.lt
  have hz1 : ∀ v ∈ zhd.toArray.toList, v.oneCell' = true := by
    intro v hv
    simp [zhd] at hv
    rcases hv with rfl | rfl <;> rfl
  have hz2 : ∀ v ∈ (#[.int .u64 1, .int .u64 1, .int .i64 0, .int .i64 0] : Array Value).toList, v.oneCell' = true := by
    intro v hv
    simp at hv
    rcases hv with rfl | rfl <;> rfl
  have hm2 : 2 ≤ many := by omega
  clear hm hok
  go_enter Tryz.func11, Tryz.ntmps11
  go_wp2_with fail
  refine wp_scope_straight ?_
  go_wp2_with (first
    | (refine wp_loadW rfl 23 (.tmp 3) rfl w.heap.size rfl rowPlan b0 rfl ?_)
    | (go_at_call 37; refine HS.mono ?_; rintro e w1 ⟨rfl, hB1⟩; have b1 := b0.below hB1 b0.lt; have k0 : w1.cell? ⟨w.heap.size, 0, none⟩ = some (.int .i64 fr) := (by rw [b1.cell]; rfl); have k1 : w1.cell? ⟨w.heap.size, 1, none⟩ = some (.int .i64 pg) := (by rw [b1.cell]; rfl); have hB01 := hB0.trans (hB1.mono hB0.size); have hs1 := hB01.size; have hB03 : Below w.heap.size w ((w1.alloc (.cells #[.pointer (some ⟨d, 0, none⟩), .int .i64 fr, .int .i64 pg, .int .u64 0, .int .u64 0, .int .i64 0, .slice none 0 0] 57)).alloc (.cells #[.int .u64 0, .int .u64 0, .int .i64 0, .int .i64 0] 89)) := (hB01.alloc hB01.size _).alloc (by have := hB01.size; simp; omega) _; have hD3 := hD.grow hB03; have HL := len_gives _ d many _ [] left false hD3; have bl : BlkIs ((w1.alloc (.cells #[.pointer (some ⟨d, 0, none⟩), .int .i64 fr, .int .i64 pg, .int .u64 0, .int .u64 0, .int .i64 0, .slice none 0 0] 57)).alloc (.cells #[.int .u64 0, .int .u64 0, .int .i64 0, .int .i64 0] 89)) w1.heap.size 57 (lgC (some ⟨d, 0, none⟩) fr pg 0 0 0 none 0 0) := (BlkIs.new w1 _ _).alloc _; have bh : BlkIs ((w1.alloc (.cells #[.pointer (some ⟨d, 0, none⟩), .int .i64 fr, .int .i64 pg, .int .u64 0, .int .u64 0, .int .i64 0, .slice none 0 0] 57)).alloc (.cells #[.int .u64 0, .int .u64 0, .int .i64 0, .int .i64 0] 89)) (w1.heap.size + 1) 89 #[.int .u64 0, .int .u64 0, .int .i64 0, .int .i64 0] := (by have := BlkIs.new (w1.alloc (.cells #[.pointer (some ⟨d, 0, none⟩), .int .i64 fr, .int .i64 pg, .int .u64 0, .int .u64 0, .int .i64 0, .slice none 0 0] 57)) 89 #[.int .u64 0, .int .u64 0, .int .i64 0, .int .i64 0]; rw [World.size_alloc] at this; exact this); have kl : World.cell? ((w1.alloc (.cells #[.pointer (some ⟨d, 0, none⟩), .int .i64 fr, .int .i64 pg, .int .u64 0, .int .u64 0, .int .i64 0, .slice none 0 0] 57)).alloc (.cells #[.int .u64 0, .int .u64 0, .int .i64 0, .int .i64 0] 89)) ⟨w1.heap.size, 0, none⟩ = some (.pointer (some ⟨d, 0, none⟩)) := (by rw [bl.cell]; rfl))
    | (go_at_call 38; refine HL.mono ?_; rintro e w' ⟨rfl, rfl⟩)
    | (go_at_call 39; refine (head_new _ w1.heap.size d many left hD3 kl bl.lt hm2 hmax).mono ?_; rintro e w4 ⟨rfl, hB4⟩; have bl4 := bl.below hB4 bl.lt; have bh4 := bh.below hB4 bh.lt; have hD4 := hD3.grow hB4)
    | (refine wp_storeW rfl 89 (.tmp 9) (.tmp 35) rfl (w1.heap.size + 1) rfl rfl rowHead bh4 rfl rfl hz1 ?_; have bh5 := bh4.setRow zhd.toArray; have bl5 := bl4.setRow_ne (k := w1.heap.size + 1) (by omega) zhd.toArray; have hD5 := hD4.setRowO bh4 (by decide) (by omega) zhd.toArray; have hG5 : w.grownBy (w4.setRow (w1.heap.size + 1) zhd.toArray) (some d) := grownBy_rest (below_grownBy (hB03.trans (hB4.mono hB03.size)) d) (setRow_grown _ _ _) (Nat.le_refl _) (fun r e => by cases e; omega))
    | (refine wp_storeW rfl 89 (.tmp 9) (.tmp 42) rfl (w1.heap.size + 1) rfl rfl rowHead bh5 rfl rfl hz2 ?_; have bh6 := bh5.setRow #[.int .u64 1, .int .u64 1, .int .i64 0, .int .i64 0]; have bl6 := bl5.setRow_ne (k := w1.heap.size + 1) (by omega) #[.int .u64 1, .int .u64 1, .int .i64 0, .int .i64 0]; have hD6 := hD5.setRowO bh5 (by decide) (by omega) #[.int .u64 1, .int .u64 1, .int .i64 0, .int .i64 0]; have hG6 := grownBy_rest hG5 (setRow_grown _ (w1.heap.size + 1) #[.int .u64 1, .int .u64 1, .int .i64 0, .int .i64 0]) (Nat.le_refl _) (fun r e => by cases e; omega))
    | (refine wp_loadW rfl 89 (.tmp 9) rfl (w1.heap.size + 1) rfl rowHead bh6 rfl ?_)
    | (go_at_call 40; refine (lay_gives _ w1.heap.size d many _ [] left 1 1 0 0 fr pg 0 0 0 none 0 0 hD6 (by decide) h1l h2l bl6 (by omega) (by decide) hm2 hmax).mono ?_; rintro e w7 ⟨rfl, hD7, bl7, hG7⟩; have bh7 := hG7.blk bh6 (by omega)))
  have hG8 : w.grownBy w7 (some d) := ⟨hG7.os.trans hG6.os, hG7.tape.trans hG6.tape, hG7.output.trans hG6.output, Nat.le_trans hG6.size hG7.size, fun k hk hn => (hG7.block k (Nat.lt_of_lt_of_le hk hG6.size) (fun e => by rcases e with e | e; exact hn (by rw [e]); omega)).trans (hG6.block k hk hn)⟩
  have hsl : d < w1.heap.size := by omega
  have hsl2 : w.heap.size ≤ w1.heap.size := by omega
  clear HS HL hD hD3 hD4 hD5 hD6 bl bl4 bl5 bl6 bh bh4 bh5 bh6 kl hB4 hB03 hG5 hG6 hG7 b0 b1 k0 k1 hB0 hB01 hB1 hs1 hz1 hz2
  generalize w1.heap.size = l at *
  have hlh : ¬ l = l + 1 := by omega
  have j0 : w7.drew.cell? ⟨l + 1, 0, none⟩ = some (.int .u64 1) := by rw [bh7.drew.cell]; rfl
  have bA := bl7.drew.set 3 (.int .u64 1)
  have bB := bA.set 4 (.int .u64 1)
  have bC := bB.set 5 (.int .i64 0)
  have hA := bh7.drew.other (p := ⟨l, 3, none⟩) (by show ¬ l + 1 = l; omega) (.int .u64 1)
  have hB := hA.other (p := ⟨l, 4, none⟩) (by show ¬ l + 1 = l; omega) (.int .u64 1)
  have hC := hB.other (p := ⟨l, 5, none⟩) (by show ¬ l + 1 = l; omega) (.int .i64 0)
  have dA := (hD7.grow (Below.refl _ _).drew).setOther bl7.drew (by show 7 ≤ 64; decide) (show d ≠ l by omega) ⟨l, 3, none⟩ (.int .u64 1) rfl
  have dB := dA.setOther bA (by simp; show 7 ≤ 64; decide) (show d ≠ l by omega) ⟨l, 4, none⟩ (.int .u64 1) rfl
  have dC := dB.setOther bB (by simp; show 7 ≤ 64; decide) (show d ≠ l by omega) ⟨l, 5, none⟩ (.int .i64 0) rfl
  have gC : w.grownBy (((w7.drew.setCell ⟨l, 3, none⟩ (.int .u64 1)).setCell ⟨l, 4, none⟩ (.int .u64 1)).setCell ⟨l, 5, none⟩ (.int .i64 0)) (some d) :=
    grownBy_rest (grownBy_rest (grownBy_rest (grownBy_rest hG8 (grownBy_drew w7 none) (Nat.le_refl _) (fun r e => by cases e)) (setCell_grown _ ⟨l, 3, none⟩ (.int .u64 1)) (Nat.le_refl _) (fun r e => by injection e with e; subst e; exact hsl2)) (setCell_grown _ ⟨l, 4, none⟩ (.int .u64 1)) (Nat.le_refl _) (fun r e => by injection e with e; subst e; exact hsl2)) (setCell_grown _ ⟨l, 5, none⟩ (.int .i64 0)) (Nat.le_refl _) (fun r e => by injection e with e; subst e; exact hsl2)
  have a3 : w7.drew.cell? ⟨l, 3, none⟩ = some (.int .u64 1) := by rw [bl7.drew.cell]; rfl
  have a4 : (w7.drew.setCell ⟨l, 3, none⟩ (.int .u64 1)).cell? ⟨l, 4, none⟩ = some (.int .u64 1) := by rw [bA.cell]; rfl
  have a5 : ((w7.drew.setCell ⟨l, 3, none⟩ (.int .u64 1)).setCell ⟨l, 4, none⟩ (.int .u64 1)).cell? ⟨l, 5, none⟩ = some (.int .i64 0) := by rw [bB.cell]; rfl
  have x3 : w7.cell? ⟨l, 3, none⟩ = some (.int .u64 1) := by rw [bl7.cell]; rfl
  have x4 : w7.cell? ⟨l, 4, none⟩ = some (.int .u64 1) := by rw [bl7.cell]; rfl
  have x5 : w7.cell? ⟨l, 5, none⟩ = some (.int .i64 0) := by rw [bl7.cell]; rfl
  have y3 := bl7.free 3
  have y4 := bl7.free 4
  have y5 := bl7.free 5
  have f3 := bl7.drew.free 3
  have f4 := bA.free 4
  have f5 := bB.free 5
  have e1 : (((w7.drew.setCell ⟨l, 3, none⟩ (.int .u64 1)).setCell ⟨l, 4, none⟩ (.int .u64 1)).setCell ⟨l, 5, none⟩ (.int .i64 0)).cell? ⟨l, 1, none⟩ = some (.int .i64 fr) := by rw [bC.cell]; rfl
  have e3 : (((w7.drew.setCell ⟨l, 3, none⟩ (.int .u64 1)).setCell ⟨l, 4, none⟩ (.int .u64 1)).setCell ⟨l, 5, none⟩ (.int .i64 0)).cell? ⟨l + 1, 3, none⟩ = some (.int .i64 0) := by rw [hC.cell]; rfl
  have hS0 := bh7.drew
  refine RegF.start (fun W : World => BlkIs W (l + 1) 89 #[.int .u64 1, .int .u64 1, .int .i64 0, .int .i64 0]) 17 (by kernel_rfl) ?_
  refine RegF.take 0 (.pointer (some ⟨l, 0, none⟩)) rfl (by kernel_rfl) (by kernel_rfl) (by kernel_rfl) (by kernel_rfl) (fun _ _ _ h => h) hS0 (RegF.yld rfl (fun W hW => by go_simp)) ?_
  simp only [List.getElem_toArray, List.getElem_cons_zero, Act.put, List.setIfInBounds_toArray, List.set_cons_zero, List.set_cons_succ]
  refine RegF.take 1 (.pointer (some ⟨l, 0, none⟩)) rfl (by kernel_rfl) (by kernel_rfl) (by kernel_rfl) (by kernel_rfl) (fun _ _ _ h => h) hS0 (RegF.yld rfl (fun W hW => by go_simp)) ?_
  simp only [List.getElem_toArray, List.getElem_cons_succ, List.getElem_cons_zero, Act.put, List.setIfInBounds_toArray, List.set_cons_zero, List.set_cons_succ]
  refine RegF.take 2 (.pointer (some ⟨l, 0, none⟩)) rfl (by kernel_rfl) (by kernel_rfl) (by kernel_rfl) (by kernel_rfl) (fun _ _ _ h => h) hS0 (RegF.yld rfl (fun W hW => by go_simp)) ?_
  simp only [List.getElem_toArray, List.getElem_cons_succ, List.getElem_cons_zero, Act.put, List.setIfInBounds_toArray, List.set_cons_zero, List.set_cons_succ]
  refine RegF.take 3 (.pointer (some ⟨l + 1, 0, none⟩)) rfl (by kernel_rfl) (by kernel_rfl) (by kernel_rfl) (by kernel_rfl) (fun _ _ _ h => h) hS0 (RegF.yld rfl (fun W hW => by go_simp)) ?_
  simp only [List.getElem_toArray, List.getElem_cons_succ, List.getElem_cons_zero, Act.put, List.setIfInBounds_toArray, List.set_cons_zero, List.set_cons_succ]
  refine RegF.take 4 (.int .u64 1) rfl (by kernel_rfl) (by kernel_rfl) (by kernel_rfl) (by kernel_rfl) (fun _ _ _ h => h) hS0 (RegF.yld rfl (fun W hW => by have q : W.cell? ⟨l + 1, 0, none⟩ = some (.int .u64 1) := (by rw [hW.cell]; rfl); go_simp)) ?_
  simp only [List.getElem_toArray, List.getElem_cons_succ, List.getElem_cons_zero, Act.put, List.setIfInBounds_toArray, List.set_cons_zero, List.set_cons_succ]
  refine RegF.take 5 (.pointer (some ⟨l + 1, 1, none⟩)) rfl (by kernel_rfl) (by kernel_rfl) (by kernel_rfl) (by kernel_rfl) (fun _ _ _ h => h) hS0 (RegF.yld rfl (fun W hW => by go_simp)) ?_
  simp only [List.getElem_toArray, List.getElem_cons_succ, List.getElem_cons_zero, Act.put, List.setIfInBounds_toArray, List.set_cons_zero, List.set_cons_succ]
  refine RegF.take 6 (.int .u64 1) rfl (by kernel_rfl) (by kernel_rfl) (by kernel_rfl) (by kernel_rfl) (fun _ _ _ h => h) hS0 (RegF.yld rfl (fun W hW => by have q : W.cell? ⟨l + 1, 1, none⟩ = some (.int .u64 1) := (by rw [hW.cell]; rfl); go_simp)) ?_
  simp only [List.getElem_toArray, List.getElem_cons_succ, List.getElem_cons_zero, Act.put, List.setIfInBounds_toArray, List.set_cons_zero, List.set_cons_succ]
  refine RegF.take 7 (.pointer (some ⟨l + 1, 2, none⟩)) rfl (by kernel_rfl) (by kernel_rfl) (by kernel_rfl) (by kernel_rfl) (fun _ _ _ h => h) hS0 (RegF.yld rfl (fun W hW => by go_simp)) ?_
  simp only [List.getElem_toArray, List.getElem_cons_succ, List.getElem_cons_zero, Act.put, List.setIfInBounds_toArray, List.set_cons_zero, List.set_cons_succ]
  refine RegF.take 8 (.int .i64 0) rfl (by kernel_rfl) (by kernel_rfl) (by kernel_rfl) (by kernel_rfl) (fun _ _ _ h => h) hS0 (RegF.yld rfl (fun W hW => by have q : W.cell? ⟨l + 1, 2, none⟩ = some (.int .i64 0) := (by rw [hW.cell]; rfl); go_simp)) ?_
  simp only [List.getElem_toArray, List.getElem_cons_succ, List.getElem_cons_zero, Act.put, List.setIfInBounds_toArray, List.set_cons_zero, List.set_cons_succ]
  refine RegF.one 9 (by kernel_rfl) (RegF.opV (w' := w7.drew) (.pointer (some ⟨l, 0, none⟩)) rfl rfl (by go_simp) ⟨fun _ => hS0, ?_⟩)
  simp only [List.getElem_toArray, List.getElem_cons_succ, List.getElem_cons_zero, Act.put, List.setIfInBounds_toArray, List.set_cons_zero, List.set_cons_succ]
  refine RegF.one 10 (by kernel_rfl) (RegF.opV (w' := w7.drew) (.pointer (some ⟨l, 3, none⟩)) rfl rfl (by go_simp) ⟨fun _ => hS0, ?_⟩)
  simp only [List.getElem_toArray, List.getElem_cons_succ, List.getElem_cons_zero, Act.put, List.setIfInBounds_toArray, List.set_cons_zero, List.set_cons_succ]
  refine RegF.one 11 (by kernel_rfl) (RegF.opS (w' := w7.drew.setCell ⟨l, 3, none⟩ (.int .u64 1)) rfl rfl (by go_simp) ⟨fun _ => hA, ?_⟩)
  simp only [List.getElem_toArray, List.getElem_cons_succ, List.getElem_cons_zero, Act.put]
  refine RegF.one 12 (by kernel_rfl) (RegF.opV (w' := w7.drew.setCell ⟨l, 3, none⟩ (.int .u64 1)) (.pointer (some ⟨l, 0, none⟩)) rfl rfl (by go_simp) ⟨fun _ => hA, ?_⟩)
  simp only [List.getElem_toArray, List.getElem_cons_succ, List.getElem_cons_zero, Act.put, List.setIfInBounds_toArray, List.set_cons_zero, List.set_cons_succ]
  refine RegF.one 13 (by kernel_rfl) (RegF.opV (w' := w7.drew.setCell ⟨l, 3, none⟩ (.int .u64 1)) (.pointer (some ⟨l, 4, none⟩)) rfl rfl (by go_simp) ⟨fun _ => hA, ?_⟩)
  simp only [List.getElem_toArray, List.getElem_cons_succ, List.getElem_cons_zero, Act.put, List.setIfInBounds_toArray, List.set_cons_zero, List.set_cons_succ]
  refine RegF.one 14 (by kernel_rfl) (RegF.opS (w' := (w7.drew.setCell ⟨l, 3, none⟩ (.int .u64 1)).setCell ⟨l, 4, none⟩ (.int .u64 1)) rfl rfl (by go_simp) ⟨fun _ => hB, ?_⟩)
  simp only [List.getElem_toArray, List.getElem_cons_succ, List.getElem_cons_zero, Act.put]
  refine RegF.one 15 (by kernel_rfl) (RegF.opV (w' := (w7.drew.setCell ⟨l, 3, none⟩ (.int .u64 1)).setCell ⟨l, 4, none⟩ (.int .u64 1)) (.pointer (some ⟨l, 0, none⟩)) rfl rfl (by go_simp) ⟨fun _ => hB, ?_⟩)
  simp only [List.getElem_toArray, List.getElem_cons_succ, List.getElem_cons_zero, Act.put, List.setIfInBounds_toArray, List.set_cons_zero, List.set_cons_succ]
  refine RegF.one 16 (by kernel_rfl) (RegF.opV (w' := (w7.drew.setCell ⟨l, 3, none⟩ (.int .u64 1)).setCell ⟨l, 4, none⟩ (.int .u64 1)) (.pointer (some ⟨l, 5, none⟩)) rfl rfl (by go_simp) ⟨fun _ => hB, ?_⟩)
  simp only [List.getElem_toArray, List.getElem_cons_succ, List.getElem_cons_zero, Act.put, List.setIfInBounds_toArray, List.set_cons_zero, List.set_cons_succ]
  refine RegF.one 17 (by kernel_rfl) (RegF.opS (w' := ((w7.drew.setCell ⟨l, 3, none⟩ (.int .u64 1)).setCell ⟨l, 4, none⟩ (.int .u64 1)).setCell ⟨l, 5, none⟩ (.int .i64 0)) rfl rfl (by go_simp) ⟨fun h => absurd rfl h, RegF.done (by kernel_rfl) ?_⟩)
  simp only [List.getElem_toArray, List.getElem_cons_succ, List.getElem_cons_zero, Act.put]
  have HC := count_zero _ l fr (by omega) e1
  have bC2 : BlkIs (((w7.drew.setCell ⟨l, 3, none⟩ (.int .u64 1)).setCell ⟨l, 4, none⟩ (.int .u64 1)).setCell ⟨l, 5, none⟩ (.int .i64 0)) l 57 (lgC (some ⟨d, 0, none⟩) fr pg 1 1 0 none 0 0) := bC
  clear x3 x4 x5 y3 y4 y5 a3 a4 a5 f3 f4 f5 hS0 hA hB bA bB bC hC dA dB bl7 bh7 hD7 j0 hG8
  generalize ((w7.drew.setCell ⟨l, 3, none⟩ (.int .u64 1)).setCell ⟨l, 4, none⟩ (.int .u64 1)).setCell ⟨l, 5, none⟩ (.int .i64 0) = w8 at *
  go_wp2_with (go_at_call 41; refine HC.mono ?_; rintro e w' ⟨rfl, rfl⟩)
  simp only [Exit.noGoto]
  exact ⟨by simp, _, results_tmp2 rfl _ _ _, ⟨l, rfl, hsl2, dC, bC2, gC⟩⟩
end Go.Proofs.YtocnabpplbeafaaGreat
/- wal: what lies on a new log's disk. -/
namespace Go.Proofs.YtocnabpplbeafaaGreat
open Go Go.RowKit Lou

theorem LI.begun : LI (laid (fun _ => zer64) (wrL 1 (hEnc 1 1 0 0) 1)) ⟨1, 1, 0, []⟩ 0 := by
  have e : wrL 1 (hEnc 1 1 0 0) 1 = [(1, headW 1 1 0 0)] := headL_one (s := 1) (e := 1) (z := 0) (c := 0) ⟨by omega, by omega⟩ ⟨by omega, by omega⟩
  have hL : ∀ k, laid (fun _ => zer64) [(1, headW 1 1 0 0)] k = if k = 1 then headW 1 1 0 0 else zer64 := fun k => laid_one _ [] _ _ k
  rw [e]
  generalize laid (fun _ => zer64) [(1, headW 1 1 0 0)] = G at *
  have h0 : G (1 - 1 % 2) = zer64 := hL 0
  refine ⟨⟨hL 1, by decide, by decide, by decide, by decide, by decide, ?_, rfl, ⟨fun j hj => absurd hj (Nat.not_lt_zero j), fun j hj => absurd hj (Nat.not_lt_zero j), fun x hx => by cases hx⟩⟩, ?_, ?_⟩
  · intro _
    show hdS (G (1 - 1 % 2)) < 1
    rw [h0]
    decide
  · intro k
    rw [hL]
    split
    · exact headW_length _ _ _ _
    · decide
  · show hdS2 (G (1 - 1 % 2)) < 1
    rw [h0]
    decide
end Go.Proofs.YtocnabpplbeafaaGreat
/- As DkLay, for the seat of rows 16 to 19 (maps of pages; the numbers are that seat's). -/
namespace Go.Proofs.YtocnabpplbeafaaGreat
open Go Go.RowKit Lou Go.Maps Go.Sort Go.Shelf

def layK_ren : Go.Shelf.Ren := ⟨fun | 7 => 98 | 10 => 127 | n => n, fun | 23 => 115 | 26 => 3 | 3 => 38 | 28 => 151 | 0 => 0 | 27 => 150 | 33 => 184 | 4 => 4 | n => n, fun | n => n⟩
def layS_ren : Go.Shelf.Ren := ⟨fun | 6 => 97 | 8 => 125 | 9 => 126 | 11 => 142 | 13 => 144 | 12 => 143 | 23 => 161 | 24 => 162 | 14 => 152 | 15 => 153 | 16 => 154 | 17 => 155 | 18 => 156 | 19 => 157 | 20 => 158 | 21 => 159 | 22 => 160 | 25 => 169 | 26 => 170 | 27 => 171 | 28 => 172 | 29 => 173 | 30 => 174 | 31 => 178 | n => n, fun | 26 => 3 | 28 => 151 | 24 => 37 | 0 => 0 | 3 => 3 | 37 => 205 | 48 => 95 | 50 => 54 | 4 => 4 | 40 => 234 | 39 => 233 | 45 => 239 | 5 => 5 | 9 => 9 | 51 => 250 | 55 => 253 | 57 => 257 | 58 => 58 | 33 => 184 | n => n, fun | n => n⟩
def layO_ren : Go.Shelf.Ren := ⟨fun | 5 => 126 | 8 => 144 | 7 => 143 | 19 => 161 | 20 => 162 | 10 => 152 | 11 => 153 | 12 => 154 | 13 => 155 | 14 => 156 | 15 => 157 | 16 => 158 | 17 => 159 | 18 => 160 | 30 => 169 | 31 => 170 | 32 => 171 | 33 => 172 | 34 => 173 | 35 => 174 | 40 => 178 | n => n, fun | 23 => 37 | 25 => 3 | 3 => 3 | 32 => 205 | 22 => 37 | 0 => 0 | 44 => 95 | 46 => 54 | 4 => 4 | 36 => 234 | 35 => 233 | 41 => 239 | 5 => 5 | 9 => 9 | 53 => 250 | 57 => 253 | 63 => 257 | 64 => 58 | n => n, fun | n => n⟩
end Go.Proofs.YtocnabpplbeafaaGreat
/- wal: no frames: the map of pages is empty; what is told of it. -/
namespace Go.Proofs.YtocnabpplbeafaaGreat
open Go Go.RowKit Lou Go.Maps Go.Sort Go.Shelf

/-- How the map's values read: each as nothing. -/
def dRn : Value → Option (DataW Unit × List MemPlace) := fun _ => some (.nil, [])
set_option maxRecDepth 100000 in
/-- last, where no frame counts. -/
theorem last_mt (w : World) (l d : Nat) (fr pg : Int) (sr ep : Nat) (sz : Int) (hlg : BlkIs w l 57 (lgC (some ⟨d, 0, none⟩) fr pg sr ep sz none 0 0)) : Calls Tryz.prog 62 #[.pointer (some ⟨l, 0, none⟩)] w fun e w' => e = .returned (.map (some w.heap.size)) ∧ MapIs w' w.heap.size #[] 0 ∧ Below w.heap.size w w' := by
  have hB : Below w.heap.size w (w.alloc (.map #[] 0)) := (Below.refl _ w).alloc (Nat.le_refl _) _
  have hlg0 := hlg.below hB hlg.lt
  have HN := lnone_gives hlg0
  have k6 : (w.alloc (.map #[] 0)).cell? ⟨l, 6, none⟩ = some (.slice none 0 0) := by rw [hlg0.cell]; rfl
  go_enter Tryz.func62, Tryz.ntmps62
  go_wp2_with (first
    | (refine wp_makeMap rfl rfl ?_; intro hm)
    | (go_at_call 42; refine HN.mono ?_; rintro e w' ⟨rfl, rfl⟩))
  go_loopw [15] (fun i wr => i = .int .i64 0 ∧ wr = w.alloc (.map #[] 0)) (fun _ _ => 0)
  case atStart => exact ⟨rfl, rfl⟩
  case round =>
    obtain ⟨rfl, rfl⟩ := hrel
    go_wp2
    go_ret
    exact ⟨rfl, hm, hB⟩
theorem x_lookup_mt {w : World} {o : Oper} {ρ : Operand → Value} {x y : Operand} {r clock : Nat} {k : Int} (h : MapIs w r #[] clock) (b : Bool) (ho : o.op = .lookup 115 x y b) (h1 : ρ x = .map (some r)) (h2 : ρ y = .int .i64 k) : (execOp ρ o).run Tryz.prog w = .ok (.value (if b then .tuple #[.slice none 0 0, .bool false] else .slice none 0 0)) w := by
  have hk : MapKept.IsKey (.int .i64) (.int .i64 k) := rfl
  have hc : (Instr.checkKey true 10000 3 (.int .i64 k)).run Tryz.prog w = .ok () w := MapKept.run_checkKey Tryz.underlying3 hk true 9999
  have hm' : w.heap[r]? = some (.map #[] clock) := h
  have hf : Instr.findNow (.int .i64) (.int .i64 k) (#[] : Array MapEntry).toList 0 = some none := rfl
  have zv : (zeroValue 38).run Tryz.prog w = .ok (.slice none 0 0) w := by simp [go_sem]
  cases b <;> simp [execOp, ho, h1, h2, Instr.lookup, run_underlying Tryz.underlying115, MapKept.run_getObj_map hm', hc, MapKept.run_findKey Tryz.underlying3 hf, zv, Result.andThen]
set_option maxRecDepth 100000 in
theorem page_of (w : World) (v : Value) (p : Int) (HL : Calls Tryz.prog 62 #[v] w fun e w' => e = .returned (.map (some w.heap.size)) ∧ MapIs w' w.heap.size #[] 0 ∧ Below w.heap.size w w') :
    Calls Tryz.prog 23 #[v, .int .i64 p] w fun e w' => ∃ A c, e = .returned (.tuple #[.slice A 0 c, .bool false]) ∧ Below w.heap.size w w' := by
  go_enter Tryz.func23, Tryz.ntmps23
  go_wp2_with (first
    | (go_at_call 62; refine HL.mono ?_; rintro e w1 ⟨rfl, hm, hB⟩)
    | (refine wp_exec rfl (x_lookup_mt hm true rfl rfl rfl) ?_)
    | (go_at_call 46; refine (clone_gives w1 none 0 [] (InB.mt _ _) (by simp)).mono ?_; rintro e w2 ⟨v2, rfl, own2, hB2⟩; obtain ⟨A2, c2, rfl, _⟩ := own2.inB))
  exact bodyPost_ret (results_tmp2 rfl _ _ _) rfl ⟨A2, c2, rfl, hB.trans (hB2.mono hB.size)⟩
end Go.Proofs.YtocnabpplbeafaaGreat
/- wal: a map from pages to bytes. -/
namespace Go.Proofs.YtocnabpplbeafaaGreat
open Go Go.RowKit Lou

/-- The entries tell f. -/
structure EnV (es : Array MapEntry) (f : Int → Option Value) : Prop where
  keys : ∀ (i : Nat) e, es[i]? = some e → ∃ k l, f k = some l ∧ e.key = .int .i64 (k : Int) ∧ e.val = l
  all : ∀ k l, f k = some l → ∃ (i : Nat) (e : MapEntry), es[i]? = some e ∧ e.key = .int .i64 (k : Int) ∧ e.val = l
  inj : ∀ (i j : Nat) e e', es[i]? = some e → es[j]? = some e' → e.key = e'.key → i = j
theorem EnV.empty : EnV #[] (fun _ => none) := ⟨fun i e h => by simp at h, fun k l h => by simp at h, fun i j e e' h => by simp at h⟩
theorem keyI_inj {k m : Int} (h : Value.int .i64 k = .int .i64 m) : k = m := by injection h
def fsetV (f : Int → Option Value) (k : Int) (x : Option Value) : Int → Option Value := fun m => if m = k then x else f m
section
variable {es : Array MapEntry} {f : Int → Option Value}
theorem EnV.find (h : EnV es f) (k : Int) : (Instr.findNow (.int .i64) (.int .i64 (k : Int)) es.toList 0 = some none ∧ f k = none) ∨
    ∃ j e l, Instr.findNow (.int .i64) (.int .i64 (k : Int)) es.toList 0 = some (some (j, e.val)) ∧ es[j]? = some e ∧ e.key = .int .i64 (k : Int) ∧ f k = some l ∧ e.val = l := by
  have hk : MapKept.IsKey (.int .i64) (.int .i64 (k : Int)) := rfl
  have hall : ∀ x ∈ es.toList, MapKept.IsKey (.int .i64) x.key := by
    intro x hx
    obtain ⟨i, hi, rfl⟩ := List.getElem_of_mem hx
    obtain ⟨k', l, _, h2, _⟩ := h.keys i es.toList[i] (by rw [← Array.getElem?_toList]; exact List.getElem?_eq_getElem hi)
    rw [h2]
    rfl
  rcases MapKept.findNow_spec hk es.toList 0 hall with ⟨h1, h2⟩ | ⟨j, e, h1, h2, h3⟩
  · left
    refine ⟨h1, ?_⟩
    cases hf : f k with
    | none => rfl
    | some l =>
      obtain ⟨i, e, h4, h5, _⟩ := h.all k l hf
      exact absurd h5 (h2 e (Array.mem_toList_iff.2 (Array.mem_of_getElem? h4)))
  · right
    have h4 : es[j]? = some e := by rw [← Array.getElem?_toList]; exact h2
    obtain ⟨k', l, h5, h6, h7⟩ := h.keys j e h4
    have : k' = k := keyI_inj (h6.symm.trans h3)
    subst this
    exact ⟨j, e, l, by simpa using h1, h4, h3, h5, h7⟩
theorem EnV.push (h : EnV es f) {k : Int} (hk : f k = none) (l : Value) (born : Nat) : EnV (es.push { key := .int .i64 (k : Int), val := l, born := born }) (fsetV f k (some l)) := by
  refine ⟨fun i e he => ?_, fun m l' hm => ?_, fun i j e e' hi hj hkey => ?_⟩
  · rw [Array.getElem?_push] at he
    split at he
    · injection he with he
      subst he
      exact ⟨k, l, by simp [fsetV], rfl, rfl⟩
    · obtain ⟨m, l', h1, h2, h3⟩ := h.keys i e he
      refine ⟨m, l', ?_, h2, h3⟩
      have : m ≠ k := fun e => by subst e; rw [hk] at h1; cases h1
      simp [fsetV, this, h1]
  · by_cases e : m = k
    · subst e
      simp [fsetV] at hm
      subst hm
      exact ⟨es.size, { key := .int .i64 (m : Int), val := l, born := born }, by simp, rfl, rfl⟩
    · simp only [fsetV, if_neg e] at hm
      obtain ⟨i, e', h1, h2, h3⟩ := h.all m l' hm
      refine ⟨i, e', ?_, h2, h3⟩
      have := (Array.getElem?_eq_some_iff.1 h1).1
      rw [Array.getElem?_push, if_neg (by omega)]
      exact h1
  · rw [Array.getElem?_push] at hi hj
    have hno : ∀ (q : Nat) (e : MapEntry), es[q]? = some e → e.key ≠ .int .i64 (k : Int) := fun q e he hq => by
      obtain ⟨m, l', h1, h2, _⟩ := h.keys q e he
      have := keyI_inj (h2.symm.trans hq)
      subst this
      rw [hk] at h1
      cases h1
    split at hi
    · split at hj
      · omega
      · injection hi with hi
        subst hi
        exact absurd hkey.symm (hno j e' hj)
    · split at hj
      · injection hj with hj
        subst hj
        exact absurd hkey (hno i e hi)
      · exact h.inj i j e e' hi hj hkey
theorem EnV.modify (h : EnV es f) {k : Int} {i : Nat} {e : MapEntry} (he : es[i]? = some e) (hek : e.key = .int .i64 (k : Int)) (l : Value) : EnV (es.modify i fun e => { e with key := .int .i64 (k : Int), val := l }) (fsetV f k (some l)) := by
  have hget : ∀ j, (es.modify i fun e => { e with key := .int .i64 (k : Int), val := l })[j]? = if i = j then some { e with key := .int .i64 (k : Int), val := l } else es[j]? := fun j => by
    rw [Array.getElem?_modify]
    split
    · rename_i hij
      subst hij
      rw [he]
      rfl
    · rfl
  refine ⟨fun j e' hj => ?_, fun m l' hm => ?_, fun a b e1 e2 ha hb hkey => ?_⟩
  · rw [hget] at hj
    split at hj
    · injection hj with hj
      subst hj
      exact ⟨k, l, by simp [fsetV], rfl, rfl⟩
    · rename_i hij
      obtain ⟨m, l', h1, h2, h3⟩ := h.keys j e' hj
      refine ⟨m, l', ?_, h2, h3⟩
      have : m ≠ k := fun q => by
        subst q
        exact hij (h.inj i j e e' he hj (by rw [hek, h2]))
      simp [fsetV, this, h1]
  · by_cases q : m = k
    · subst q
      simp [fsetV] at hm
      subst hm
      exact ⟨i, _, by rw [hget, if_pos rfl], rfl, rfl⟩
    · simp only [fsetV, if_neg q] at hm
      obtain ⟨j, e', h1, h2, h3⟩ := h.all m l' hm
      have hij : i ≠ j := fun hij => by
        subst hij
        rw [he] at h1
        injection h1 with h1
        subst h1
        exact q (keyI_inj (h2.symm.trans hek))
      exact ⟨j, e', by rw [hget, if_neg hij]; exact h1, h2, h3⟩
  · have hk1 : ∀ (a : Nat) (e1 : MapEntry), (es.modify i fun e => { e with key := .int .i64 (k : Int), val := l })[a]? = some e1 → ∃ e0 : MapEntry, es[a]? = some e0 ∧ e0.key = e1.key := fun a e1 ha => by
      rw [hget] at ha
      split at ha
      · rename_i hia
        subst hia
        injection ha with ha
        subst ha
        exact ⟨e, he, hek⟩
      · exact ⟨e1, ha, rfl⟩
    obtain ⟨x, hx, hxk⟩ := hk1 a e1 ha
    obtain ⟨y, hy, hyk⟩ := hk1 b e2 hb
    exact h.inj a b x y hx hy (by rw [hxk, hyk, hkey])
end
section
variable {ρ : Operand → Value} {w : World} {o : Oper} {x y z : Operand}
variable {r clock : Nat} {k : Int} {es : Array MapEntry} {f : Int → Option Value} {l : Value}
theorem stampedSetV {w : Value} (hst : MapKept.Stamped es clock) {j : Nat} {e : MapEntry} (hj : es[j]? = some e) (hek : e.key = w) (v : Value) : MapKept.Stamped (es.modify j fun e => { e with key := w, val := v }) clock :=
  MapKept.stamped_modify hst j (fun e => { e with key := w, val := v }) (fun e _ => rfl) (fun e' _ he' => by rw [hj] at he'; injection he' with he'; subst he'; exact hek.symm)
theorem x_putV (he : EnV es f) (hst : MapKept.Stamped es clock) (hm : MapIs w r es clock) (ho : o.op = .mapUpdate 115 x y z) (h1 : ρ x = .map (some r)) (h2 : ρ y = .int .i64 (k : Int)) (h3 : ρ z = l) :
    ∃ es' clock', (execOp ρ o).run Tryz.prog w = .ok .skip (setMap w r es' clock') ∧ EnV es' (fsetV f k (some l)) ∧ MapKept.Stamped es' clock' := by
  have hk : MapKept.IsKey (.int .i64) (.int .i64 (k : Int)) := rfl
  have hc : (Instr.checkKey false 10000 3 (.int .i64 (k : Int))).run Tryz.prog w = .ok () w := MapKept.run_checkKey Tryz.underlying3 hk false 9999
  have hm' : w.heap[r]? = some (.map es clock) := hm
  rcases he.find k with ⟨hf, hn⟩ | ⟨j, e, l0, hf, hj, hek, _, _⟩
  · refine ⟨_, clock + 1, ?_, he.push hn l clock, MapKept.stamped_push hst fun x hx heq => by
      obtain ⟨i, hi, rfl⟩ := List.getElem_of_mem hx
      obtain ⟨m, l', h1, h2, _⟩ := he.keys i es.toList[i] (by rw [← Array.getElem?_toList]; exact List.getElem?_eq_getElem hi)
      have := keyI_inj (h2.symm.trans heq)
      subst this
      rw [hn] at h1
      cases h1⟩
    simp [execOp, ho, h1, h2, h3, Instr.mapUpdate, run_underlying Tryz.underlying115, MapKept.run_getObj_map hm', hc, MapKept.run_findKey Tryz.underlying3 hf, MapKept.run_setObj_map _ hm', Result.andThen, setMap]
  · refine ⟨_, clock, ?_, he.modify hj hek l, stampedSetV hst hj hek (l)⟩
    have hkey : (((es[j]?).map (·.key)).getD (.int .i64 (k : Int))) = .int .i64 (k : Int) := by rw [hj]; exact hek
    simp [execOp, ho, h1, h2, h3, Instr.mapUpdate, run_underlying Tryz.underlying115, MapKept.run_getObj_map hm', hc, MapKept.run_findKey Tryz.underlying3 hf, hj, hek, MapKept.run_keyThatStays hk, MapKept.run_setObj_map _ hm', Result.andThen, setMap]
end
end Go.Proofs.YtocnabpplbeafaaGreat
/- wal: the last frames' bytes, page by page. -/
namespace Go.Proofs.YtocnabpplbeafaaGreat
open Go Go.RowKit Lou

section
variable {ρ : Operand → Value} {w : World} {o : Oper} {x y z : Operand} {r clock : Nat} {k : Int} {es : Array MapEntry} {f : Int → Option Value}
theorem x_lookupV (he : EnV es f) (hm : MapIs w r es clock) (ho : o.op = .lookup 115 x y true) (h1 : ρ x = .map (some r)) (h2 : ρ y = .int .i64 k) : (execOp ρ o).run Tryz.prog w = .ok (.value (match f k with | some v => .tuple #[v, .bool true] | none => .tuple #[.slice none 0 0, .bool false])) w := by
  have hk : MapKept.IsKey (.int .i64) (.int .i64 k) := rfl
  have hc : (Instr.checkKey es.isEmpty 10000 3 (.int .i64 k)).run Tryz.prog w = .ok () w := MapKept.run_checkKey Tryz.underlying3 hk _ 9999
  have hm' : w.heap[r]? = some (.map es clock) := hm
  have zv : (zeroValue 38).run Tryz.prog w = .ok (.slice none 0 0) w := by simp [go_sem]
  rcases he.find k with ⟨hf, hn⟩ | ⟨j, e, l0, hf, hj, hek, hfk, hv⟩
  · rw [hn]
    simp [execOp, ho, h1, h2, Instr.lookup, run_underlying Tryz.underlying115, MapKept.run_getObj_map hm', hc, MapKept.run_findKey Tryz.underlying3 hf, zv, Result.andThen]
  · rw [hfk]
    rw [hv] at hf
    simp [execOp, ho, h1, h2, Instr.lookup, run_underlying Tryz.underlying115, MapKept.run_getObj_map hm', hc, MapKept.run_findKey Tryz.underlying3 hf, Result.andThen]
end
theorem wp_mputV {w : World} {ops : Array Oper} {rest : List Oper} {o : Oper} {a : Act} {Q : Exit → Act → World → Prop} {r clock : Nat} {k : Int} {es : Array MapEntry} {f : Int → Option Value} {l : Value} (hg : o.guard = none) (x y z : Operand) (ho : o.op = .mapUpdate 115 x y z) (h1 : a.eval x = .map (some r)) (h2 : a.eval y = .int .i64 k) (h3 : a.eval z = l) (he : EnV es f) (hst : MapKept.Stamped es clock) (hm : MapIs w r es clock)
    (h : ∀ es' clock' w', MapIs w' r es' clock' → EnV es' (fsetV f k (some l)) → MapKept.Stamped es' clock' → w.grownBy w' (some r) → wpList Tryz.prog ops Q rest (a.put o.dst undef) w') : wpList Tryz.prog ops Q (o :: rest) a w := by
  obtain ⟨es', clock', hr, he', hs'⟩ := x_putV (ρ := a.eval) (o := o) he hst hm ho h1 h2 h3
  exact wp_execS hg hr (h es' clock' _ (hm.set _ _) he' hs' (setMap_grown hm _ _))
/-- What the frames tell, page by page. -/
def pgF (vs : List FrV) : Int → Option Value := vs.foldl (fun f v => fsetV f v.1.p (some (.slice v.2.1 v.1.y.length v.2.2))) (fun _ => none)
theorem pgF_snoc (vs : List FrV) (v : FrV) : pgF (vs ++ [v]) = fsetV (pgF vs) v.1.p (some (.slice v.2.1 v.1.y.length v.2.2)) := by simp [pgF]
/-- The last frame of a page. -/
def pgY (fs : List FrP) (p : Int) : Option (List UInt8) := fs.foldl (fun r x => if x.p = p then some x.y else r) none
theorem pgY_snoc (fs : List FrP) (x : FrP) (p : Int) : pgY (fs ++ [x]) p = if x.p = p then some x.y else pgY fs p := by simp [pgY]
/-- One bears the other's bytes. -/
theorem pgF_pgY (T : FrV → Prop) : ∀ (vs : List FrV), (∀ v ∈ vs, T v) → ∀ p, (pgF vs p = none ∧ pgY (vs.map (·.1)) p = none) ∨ ∃ v, T v ∧ v ∈ vs ∧ pgF vs p = some (.slice v.2.1 v.1.y.length v.2.2) ∧ pgY (vs.map (·.1)) p = some v.1.y := by
  suffices H : ∀ l : List FrV, (∀ v ∈ l, T v) → ∀ p, (pgF l.reverse p = none ∧ pgY (l.reverse.map (·.1)) p = none) ∨ ∃ v, T v ∧ v ∈ l ∧ pgF l.reverse p = some (.slice v.2.1 v.1.y.length v.2.2) ∧ pgY (l.reverse.map (·.1)) p = some v.1.y by
    intro vs h p
    have := H vs.reverse (fun v hv => h v (List.mem_reverse.1 hv)) p
    rw [List.reverse_reverse] at this
    rcases this with h1 | ⟨v, h1, h2, h3⟩
    · exact .inl h1
    · exact .inr ⟨v, h1, List.mem_reverse.1 h2, h3⟩
  intro l
  induction l with
  | nil => exact fun _ p => .inl ⟨rfl, rfl⟩
  | cons v l ih =>
    intro h p
    rw [List.reverse_cons, pgF_snoc, List.map_append, List.map_singleton, pgY_snoc]
    by_cases hp : v.1.p = p
    · right
      refine ⟨v, h v (by simp), by simp, ?_, by rw [if_pos hp]⟩
      unfold fsetV
      rw [if_pos hp.symm]
    · rw [if_neg hp]
      have : fsetV (pgF l.reverse) v.1.p (some (.slice v.2.1 v.1.y.length v.2.2)) p = pgF l.reverse p := by
        unfold fsetV
        rw [if_neg (fun e => hp e.symm)]
      rw [this]
      rcases ih (fun u hu => h u (by simp [hu])) p with h1 | ⟨u, h1, h2, h3⟩
      · exact .inl h1
      · exact .inr ⟨u, h1, by simp [h2], h3⟩
set_option maxRecDepth 100000 in
set_option maxHeartbeats 8000000 in
theorem last_gives (w : World) (l d : Nat) (fr pg : Int) (sr ep : Nat) (sz : Int) (A : Option Addr) (c : Nat) (vs : List FrV) (hlg : BlkIs w l 57 (lgC (some ⟨d, 0, none⟩) fr pg sr ep sz A vs.length c)) (hx : InG w w.heap.size 7 A vs.length c (vsC vs)) (hn : vs.length ≤ 2000) :
    Calls Tryz.prog 62 #[.pointer (some ⟨l, 0, none⟩)] w fun e w' => e = .returned (.map (some w.heap.size)) ∧ (∃ es clock, MapIs w' w.heap.size es clock ∧ EnV es (pgF vs) ∧ MapKept.Stamped es clock) ∧ Below w.heap.size w w' := by
  obtain ⟨N, hN⟩ : ∃ N, N = vs.length := ⟨_, rfl⟩
  have hB : Below w.heap.size w (w.alloc (.map #[] 0)) := (Below.refl _ w).alloc (Nat.le_refl _) _
  have hlg0 := hlg.below hB hlg.lt
  have HN := lnone_gives hlg0
  have k6 : (w.alloc (.map #[] 0)).cell? ⟨l, 6, none⟩ = some (.slice A N c) := by rw [hlg0.cell, hN]; rfl
  have hEl : ∀ k (h : k < vs.length), ∃ g o, A = some ⟨g, o, none⟩ ∧ g < w.heap.size ∧ w.rangeAt g (o + k * 7) (vs[k]).arr.toList := fun k h => by
    obtain ⟨g, o, e, hg, _⟩ := hx.lies (by omega)
    subst e
    have := hx.elem k h
    rw [vsC_elem vs k h] at this
    exact ⟨g, o, rfl, hg, this⟩
  have hle := hx.le
  rw [← hN] at hle hn
  have HNN := Lib.hid hN
  have hE0 : EnV #[] (fun _ => none) := ⟨fun i e h => by simp at h, fun k l h => by simp at h, fun i j e e' h => by simp at h⟩
  have hm0 : MapIs (w.alloc (.map #[] 0)) w.heap.size #[] 0 := heap_alloc_new w _
  clear hN hlg hlg0 hx
  go_enter Tryz.func62, Tryz.ntmps62
  go_wp2_with (first
    | (refine wp_makeMap rfl rfl ?_; intro hm)
    | (go_at_call 42; refine HN.mono ?_; rintro e w' ⟨rfl, rfl⟩))
  go_loopw [15] (fun i wr => ∃ k : Nat, k ≤ N ∧ i = .int .i64 (k : Int) ∧ (∃ es clock, MapIs wr w.heap.size es clock ∧ EnV es (pgF (vs.take k)) ∧ MapKept.Stamped es clock) ∧ Below w.heap.size w wr) (fun i _ => N - (intOf i).toNat)
  case atStart => exact ⟨0, by omega, rfl, ⟨#[], 0, hm0, hE0, MapKept.stamped_empty 0⟩, hB⟩
  case round =>
    clear HN k6 hB hm0 hE0
    obtain ⟨k, hk, rfl, ⟨es, clock, hmr, he, hst⟩, hBr⟩ := hrel
    by_cases hlt : k < N
    · have hj : k < vs.length := by rw [← HNN.out]; exact hlt
      obtain ⟨g, o, rfl, hg, hel⟩ := hEl k hj
      have hsn : pgF (vs.take (k + 1)) = fsetV (pgF (vs.take k)) (vs[k]).1.p (some (.slice (vs[k]).2.1 (vs[k]).1.y.length (vs[k]).2.2)) := by
        rw [List.take_succ_eq_append_getElem hj, pgF_snoc]
      generalize vs[k] = v at hel hsn
      obtain ⟨⟨e', i', p', f', z', n', y'⟩, Ay, ky⟩ := v
      simp only [FrV.arr] at hel hsn
      generalize y'.length = L at *
      have hel2 : wr.rangeAt g (o + k * 7) (frCells e' i' p' f' z' n' Ay L ky).toList := fun j u hj => (hBr.cell (p := ⟨g, o + k * 7 + j, none⟩) hg).trans (hel j u hj)
      have HSN := Lib.hid hsn
      have hwk : IntKind.i64.wrap ((k : Int) + 1) = (k : Int) + 1 := wrap_i64_fr _ (by omega) (by omega)
      have bz := BlkIs.new wr 97 #[.int .u64 0, .int .i64 0, .int .i64 0, .bool false, .int .i64 0, .int .u32 0, .slice none 0 0]
      have hmz : MapIs (wr.alloc (.cells #[.int .u64 0, .int .i64 0, .int .i64 0, .bool false, .int .i64 0, .int .u32 0, .slice none 0 0] 97)) w.heap.size es clock := hmr.below ((Below.refl _ _).alloc (Nat.le_refl _) _) hmr.lt
      have hml := hmr.lt
      clear hsn hel hEl hmr
      go_wp2_with (first
        | (refine wp_exec rfl (x_loadM rowFrame hel2 rfl rfl rfl) ?_)
        | (refine wp_storeW rfl 97 (.tmp 5) (.tmp 18) rfl wr.heap.size rfl rfl rowFrame bz rfl rfl (frCells_one _ _ _ _ _ _ _ _ _) ?_; have b3 := bz.setRow (frCells e' i' p' f' z' n' Ay L ky); have hm3 : MapIs ((wr.alloc (.cells #[.int .u64 0, .int .i64 0, .int .i64 0, .bool false, .int .i64 0, .int .u32 0, .slice none 0 0] 97)).setRow wr.heap.size (frCells e' i' p' f' z' n' Ay L ky)) w.heap.size es clock := hmz.grown (setRow_grown _ _ _) (fun e => by injection e with e; omega); have hB3 : Below w.heap.size w ((wr.alloc (.cells #[.int .u64 0, .int .i64 0, .int .i64 0, .bool false, .int .i64 0, .int .u32 0, .slice none 0 0] 97)).setRow wr.heap.size (frCells e' i' p' f' z' n' Ay L ky)) := below_setRow (hBr.alloc hBr.size _) hBr.size _; obtain ⟨W3, hW3⟩ : ∃ W3, W3 = (wr.alloc (.cells #[.int .u64 0, .int .i64 0, .int .i64 0, .bool false, .int .i64 0, .int .u32 0, .slice none 0 0] 97)).setRow wr.heap.size (frCells e' i' p' f' z' n' Ay L ky) := ⟨_, rfl⟩; rw [← hW3] at b3 hm3 hB3 ⊢; clear hW3; have c2 : W3.cell? ⟨wr.heap.size, 2, none⟩ = some (.int .i64 p') := (by rw [b3.cell]; rfl); have c6 : W3.cell? ⟨wr.heap.size, 6, none⟩ = some (.slice Ay L ky) := (by rw [b3.cell]; rfl))
        | (refine wp_mputV rfl (.tmp 19) (.tmp 21) (.tmp 23) rfl rfl rfl rfl he hst hm3 ?_; intro es4 clock4 w4 hm4 he4 hst4 hg4; have hB4 : Below w.heap.size w w4 := hB3.trans (grown_below hg4 hB3.size (fun r e => by injection e with e; omega))))
      go_roundw
      case rel => exact ⟨k + 1, by omega, by simp, ⟨es4, clock4, hm4, by rw [HSN.out]; exact he4, hst4⟩, hB4⟩
      case measure => simp [intOf]; omega
    · have hkn : k = N := by omega
      subst hkn
      have he' : EnV es (pgF vs) := by
        rw [HNN.out, List.take_length] at he
        exact he
      clear hEl he hlt
      go_wp2
      go_ret
      exact ⟨rfl, ⟨es, clock, hmr, he', hst⟩, hBr⟩
end Go.Proofs.YtocnabpplbeafaaGreat
/- wal: Page; loupelaw06.told. -/
namespace Go.Proofs.YtocnabpplbeafaaGreat
open Go Go.RowKit Lou

section
variable {ρ : Operand → Value} {w : World} {o : Oper} {x y z : Operand} {r clock : Nat} {k : Int} {es : Array MapEntry} {f : Int → Option Value}
theorem x_lookupN (he : EnV es f) (hm : MapIs w r es clock) (hf : f k = none) (ho : o.op = .lookup 115 x y true) (h1 : ρ x = .map (some r)) (h2 : ρ y = .int .i64 k) : (execOp ρ o).run Tryz.prog w = .ok (.value (.tuple #[.slice none 0 0, .bool false])) w := by
  have := x_lookupV he hm ho h1 h2
  rw [hf] at this
  exact this
theorem x_lookupY {v : Value} (he : EnV es f) (hm : MapIs w r es clock) (hf : f k = some v) (ho : o.op = .lookup 115 x y true) (h1 : ρ x = .map (some r)) (h2 : ρ y = .int .i64 k) : (execOp ρ o).run Tryz.prog w = .ok (.value (.tuple #[v, .bool true])) w := by
  have := x_lookupV he hm ho h1 h2
  rw [hf] at this
  exact this
end
/-- What Page answers. -/
def PageOut (r : Option (List UInt8)) (e : Ending) (w' : World) : Prop := ∃ A c, e = .returned (.tuple #[.slice A (r.getD []).length c, .bool r.isSome]) ∧ InB w' w'.heap.size A c (r.getD [])
set_option maxRecDepth 100000 in
set_option maxHeartbeats 4000000 in
theorem pageG_gives (w : World) (l d : Nat) (fr pg : Int) (S : LgS) (hL : LogIs w l d fr pg S) (hn : S.fs.length ≤ 2000) (hy : ∀ x ∈ S.fs, x.y.length = 512) (p : Int) :
    Calls Tryz.prog 23 #[.pointer (some ⟨l, 0, none⟩), .int .i64 p] w fun e w' => PageOut (pgY S.fs p) e w' ∧ Below w.heap.size w w' := by
  obtain ⟨hld, A, c, vs, hlg, hF, hvs⟩ := hL
  have HL := last_gives w l d fr pg S.sr S.ep S.sz A c vs hlg hF.row (by rw [← hvs, List.length_map] at hn; exact hn)
  have hpp := pgF_pgY (fun v => InB w w.heap.size v.2.1 v.2.2 v.1.y ∧ v.1.y.length = 512) vs (fun v hv => ⟨(hF.bys v hv).1, hy v.1 (by rw [← hvs]; exact List.mem_map_of_mem hv)⟩) p
  rw [hvs] at hpp
  clear hlg hF hvs hy hn
  generalize pgY S.fs p = R at *
  rcases hpp with ⟨hp1, rfl⟩ | ⟨⟨⟨e0, i0, p0, f0, z0, n0, y0⟩, A0, k0⟩, ⟨hin, h512⟩, _, hp1, rfl⟩
  · have HP := Lib.hid hp1
    clear hp1
    go_enter Tryz.func23, Tryz.ntmps23
    go_wp2_with (first
      | (go_at_call 62; refine HL.mono ?_; rintro e w1 ⟨rfl, ⟨es, clock, hm, he, _⟩, hB⟩)
      | (refine wp_exec rfl (x_lookupN he hm HP.out rfl rfl rfl) ?_)
      | (go_at_call 46; refine (clone_gives w1 none 0 [] (InB.mt _ _) (by simp)).mono ?_; rintro e w2 ⟨v2, rfl, own2, hB2⟩; obtain ⟨A2, c2, rfl, hin2⟩ := own2.inB))
    exact bodyPost_ret (results_tmp2 rfl _ _ _) rfl ⟨⟨A2, c2, rfl, hin2⟩, hB.trans (hB2.mono hB.size)⟩
  · simp only at hin h512 hp1
    have HP := Lib.hid hp1
    have H512 := Lib.hid h512
    clear hp1 h512
    go_enter Tryz.func23, Tryz.ntmps23
    go_wp2_with (first
      | (go_at_call 62; refine HL.mono ?_; rintro e w1 ⟨rfl, ⟨es, clock, hm, he, _⟩, hB⟩)
      | (refine wp_exec rfl (x_lookupY he hm HP.out rfl rfl rfl) ?_)
      | (go_at_call 46; refine (clone_gives w1 A0 k0 y0 ((hin.below hB).more hB.size) (by rw [H512.out]; omega)).mono ?_; rintro e w2 ⟨v2, rfl, own2, hB2⟩; obtain ⟨A2, c2, rfl, hin2⟩ := own2.inB))
    exact bodyPost_ret (results_tmp2 rfl _ _ _) rfl ⟨⟨A2, c2, rfl, hin2⟩, hB.trans (hB2.mono hB.size)⟩
/-- An int's lowest byte. -/
def lowB (z : Int) : UInt8 := UInt8.ofNat (z % 256).toNat
theorem lowB_wrap (z : Int) : IntKind.u8.wrap z = ((lowB z).toNat : Int) := by
  unfold lowB
  rw [UInt8.toNat_ofNat']
  show z % 256 = _
  omega
/-- What told tells of the first k pages. -/
def toldL (S : LgS) : Nat → List UInt8
  | 0 => [lowB S.sz]
  | k + 1 => toldL S k ++ (match pgY S.fs (k : Int) with | some y => lowB (k : Int) :: y | none => [])
theorem pgY_mem {fs : List FrP} {p : Int} {y : List UInt8} (h : pgY fs p = some y) : ∃ x ∈ fs, x.y = y := by
  unfold pgY at h
  suffices H : ∀ (l : List FrP) (r : Option (List UInt8)), l.foldl (fun r (x : FrP) => if x.p = p then some x.y else r) r = some y → r = some y ∨ ∃ x ∈ l, x.y = y by
    rcases H fs none h with h1 | h1
    · cases h1
    · exact h1
  intro l
  induction l with
  | nil => exact fun r h => .inl h
  | cons x l ih =>
    intro r h
    rw [List.foldl_cons] at h
    rcases ih _ h with h1 | ⟨u, h1, h2⟩
    · by_cases hp : x.p = p
      · rw [if_pos hp] at h1
        injection h1 with h1
        exact .inr ⟨x, by simp, h1⟩
      · rw [if_neg hp] at h1
        exact .inl h1
    · exact .inr ⟨u, by simp [h1], h2⟩
theorem toldL_len (S : LgS) (hy : ∀ x ∈ S.fs, x.y.length = 512) : ∀ k, (toldL S k).length ≤ 1 + 513 * k
  | 0 => Nat.le_refl 1
  | k + 1 => by
    have := toldL_len S hy k
    unfold toldL
    rw [List.length_append]
    cases h : pgY S.fs (k : Int) with
    | none => simp; omega
    | some y =>
      obtain ⟨x, hx, rfl⟩ := pgY_mem h
      have := hy x hx
      simp
      omega
theorem LogIs.grow {w w' : World} {l d : Nat} {fr pg : Int} {S : LgS} (h : LogIs w l d fr pg S) (hB : Below w.heap.size w w') : LogIs w' l d fr pg S := by
  obtain ⟨hld, A, c, vs, hlg, hF, hvs⟩ := h
  exact ⟨hld, A, c, vs, hlg.below hB hlg.lt, hF.grow hB, hvs⟩
section
variable {ρ : Operand → Value} {w : World} {o : Oper} {x y z : Operand}
theorem x_toU8 {m : Int} (ho : o.op = .convert 3 5 x) (h1 : ρ x = .int .i64 m) : (execOp ρ o).run Tryz.prog w = .ok (.value (.int .u8 ((lowB m).toNat : Int))) w := by
  rw [← lowB_wrap]
  simp [execOp, ho, h1, go_sem, Result.andThen]
theorem x_bStr {g : Nat} {b : UInt8} {T : TypeId} (hb : BlkIs w g T #[.int .u8 (b.toNat : Int)]) (ho : o.op = .convert 38 9 x) (h1 : ρ x = .slice (some ⟨g, 0, none⟩) 1 1) : (execOp ρ o).run Tryz.prog w = .ok (.value (.string (str [b]))) w := by
  have hin : InB w w.heap.size (some ⟨g, 0, none⟩) 1 [b] := BlkIs.inBT (T := T) (l := [b]) hb (by simp)
  have h := hin.string
  have h2 : ([b] : List UInt8).length = 1 := rfl
  rw [h2] at h
  simp [execOp, ho, h1, h, Result.andThen]
theorem x_sStr {B : Nat} {A : Option Addr} {c n : Nat} {l : List UInt8} (hin : InB w B A c l) (hn : l.length = n) (ho : o.op = .convert 38 9 x) (h1 : ρ x = .slice A n c) : (execOp ρ o).run Tryz.prog w = .ok (.value (.string (str l))) w := by
  subst hn
  have h := hin.string
  simp [execOp, ho, h1, h, Result.andThen]
end
theorem lsizeL_gives {w : World} {l d : Nat} {fr pg : Int} {S : LgS} (h : LogIs w l d fr pg S) : Calls Tryz.prog 25 #[.pointer (some ⟨l, 0, none⟩)] w fun e w' => e = .returned (.int .i64 S.sz) ∧ w = w' := by
  obtain ⟨_, A, c, vs, hlg, _, _⟩ := h
  exact lsize_gives hlg
set_option maxRecDepth 100000 in
set_option maxHeartbeats 4000000 in
theorem told_gives (w : World) (l d : Nat) (fr pg : Int) (S : LgS) (hL : LogIs w l d fr pg S) (hn : S.fs.length ≤ 2000) (hy : ∀ x ∈ S.fs, x.y.length = 512) (P : Nat) (hP : P ≤ 1000) :
    Calls Tryz.prog 16 #[.pointer (some ⟨l, 0, none⟩), .int .i64 (P : Int)] w fun e w' => e = .returned (.string (str (toldL S P))) ∧ Below w.heap.size w w' := by
  have HSZ := lsizeL_gives hL
  have HLEN := toldL_len S hy
  have HPG : ∀ W p, Below w.heap.size w W → Calls Tryz.prog 23 #[.pointer (some ⟨l, 0, none⟩), .int .i64 p] W fun e w' => PageOut (pgY S.fs p) e w' ∧ Below W.heap.size W w' := fun W p hB => pageG_gives W l d fr pg S (hL.grow hB) hn hy p
  have hPL : ∀ p y, pgY S.fs p = some y → y.length = 512 := fun p y h => by
    obtain ⟨x, hx, rfl⟩ := pgY_mem h
    exact hy x hx
  have hnx : ∀ k : Nat, toldL S (k + 1) = toldL S k ++ (match pgY S.fs (k : Int) with | some y => lowB (k : Int) :: y | none => []) := fun k => rfl
  have h0 : toldL S 0 = [lowB S.sz] := rfl
  generalize toldL S = T at *
  generalize pgY S.fs = Y at *
  clear hL hy hn
  have hB1 : Below w.heap.size w (w.alloc (.cells #[.int .u8 ((lowB S.sz).toNat : Int)] 5)) := (Below.refl _ _).alloc (Nat.le_refl _) _
  have H0 := Lib.hid h0
  have HL := Lib.hid HLEN
  have HN := Lib.hid hnx
  have HPL := Lib.hid hPL
  clear h0 HLEN hnx hPL
  go_enter Tryz.func16, Tryz.ntmps16
  go_wp2_with (first
    | (go_at_call 25; refine HSZ.mono ?_; rintro e w' ⟨rfl, rfl⟩)
    | (refine wp_exec rfl (x_toU8 rfl rfl) ?_)
    | (refine wp_exec rfl (x_bStr (BlkIs.new _ _ _) rfl rfl) ?_))
  go_loopw [6, 5] (fun i v wr => ∃ k : Nat, k ≤ P ∧ i = .int .i64 (k : Int) ∧ v = .string (str (T k)) ∧ Below w.heap.size w wr) (fun i _ _ => P - (intOf i).toNat)
  case atStart => exact ⟨0, by omega, rfl, by rw [H0.out], hB1⟩
  case round =>
    clear hB1 HSZ
    obtain ⟨k, hk, rfl, rfl, hB⟩ := hrel
    by_cases hlt : k < P
    · have HPk := HPG wr (k : Int) hB
      have hNk := HN.out k
      have hlk := HL.out k
      have hwk : IntKind.i64.wrap ((k : Int) + 1) = (k : Int) + 1 := wrap_i64_fr _ (by omega) (by omega)
      have hPk := HPL.out (k : Int)
      generalize Y (k : Int) = R at HPk hNk hPk
      clear HPG
      generalize T k = tk at *
      generalize hT2 : T (k + 1) = tk2 at *
      have HT2 := Lib.hid hT2
      clear hT2
      cases R with
      | none =>
        have HNK := Lib.hid hNk
        clear hNk hPk
        go_wp2_with (go_at_call 23; refine HPk.mono ?_; rintro e w2 ⟨⟨A2, c2, rfl, hin2⟩, hB2⟩)
        go_roundw
        case rel => exact ⟨k + 1, by omega, by simp, by rw [HT2.out, HNK.out, List.append_nil], hB.trans (hB2.mono hB.size)⟩
        case measure => simp [intOf]; omega
      | some y =>
        have h512 := hPk y rfl
        have HNK := Lib.hid hNk
        have H512 := Lib.hid h512
        have HLK := Lib.hid hlk
        clear hNk hPk h512 hlk
        go_wp2_with (first
          | (go_at_call 23; refine HPk.mono ?_; rintro e w2 ⟨⟨A2, c2, rfl, hin2⟩, hB2⟩; have hBa : Below w2.heap.size w2 (w2.alloc (.cells #[.int .u8 ((lowB (k : Int)).toNat : Int)] 5)) := (Below.refl _ _).alloc (Nat.le_refl _) _)
          | (refine wp_exec rfl (x_toU8 rfl rfl) ?_)
          | (refine wp_exec rfl (x_bStr (BlkIs.new _ _ _) rfl rfl) ?_)
          | (refine wp_exec rfl (x_sStr (hin2.below hBa) rfl rfl rfl) ?_)
          | (refine wp_exec rfl (x_addS (a := tk) (b := [lowB (k : Int)]) rfl rfl rfl (by have := HLK.out; simp; omega) Tryz.underlying9) ?_)
          | (refine wp_exec rfl (x_addS (a := tk ++ [lowB (k : Int)]) (b := y) rfl rfl rfl (by have := HLK.out; have := H512.out; simp; omega) Tryz.underlying9) ?_))
        go_roundw
        case rel => exact ⟨k + 1, by omega, by simp, by rw [HT2.out, HNK.out], hB.trans ((hB2.trans (hBa.mono hB2.size)).mono hB.size)⟩
        case measure => simp [intOf]; omega
    · have hkn : k = P := by omega
      subst hkn
      clear HPG
      go_wp2
      go_ret
      exact ⟨rfl, hB⟩
end Go.Proofs.YtocnabpplbeafaaGreat
/- loupelaw06.WalHolds: the plain law. -/
namespace Go.Proofs.YtocnabpplbeafaaGreat
open Go Go.RowKit Lou

/-- May these pages be appended? -/
def MayApp (fr pg : Int) (S : LgS) (z : Int) (n : Nat) (pw : Nat → Int × List UInt8) : Prop := (1 ≤ n ∧ 0 ≤ z ∧ z ≤ pg ∧ ∀ k, k < n → 0 ≤ (pw k).1 ∧ (pw k).1 < pg) ∧ (S.fs.length : Int) + (n : Int) ≤ fr
/-- A log that lies whole, behind at most so many calls. -/
structure StP (fr pg : Int) (G : Nat → List UInt8) (S : LgS) (i : Nat) : Prop where
  li : ∃ hz, LI G S hz
  sr : S.sr ≤ i + 1
  ep : S.ep ≤ i + 1
  fs : (S.fs.length : Int) ≤ fr
  sz : 0 ≤ S.sz ∧ S.sz ≤ pg
theorem StP.y {fr pg : Int} {G : Nat → List UInt8} {S : LgS} {i : Nat} (h : StP fr pg G S i) : ∀ x ∈ S.fs, x.y.length = 512 := fun x hx => by
  obtain ⟨hz, hli⟩ := h.li
  obtain ⟨j, hj, rfl⟩ := List.getElem_of_mem hx
  exact ((frOk_iff _ _ _ _ _).1 (hli.on.fr.ok j hj).2.2.1).1
theorem StP.begun {fr pg : Int} (h1 : 0 ≤ fr) (h2 : 0 ≤ pg) : StP fr pg (laid (fun _ => zer64) (wrL 1 (hEnc 1 1 0 0) 1)) ⟨1, 1, 0, []⟩ 0 :=
  ⟨⟨0, LI.begun⟩, Nat.le_refl _, Nat.le_refl _, h1, ⟨Int.le_refl _, h2⟩⟩
theorem rightC_iff {fr pg z : Int} {n : Nat} {xs : Nat → Int × Option Addr × Nat} {pw : Nat → Int × List UInt8} (hpl : planOk fr pg = true) (hx : ∀ k, k < n → (pw k).1 = (xs k).1) : RightC fr pg z n xs ↔ (1 ≤ n ∧ 0 ≤ z ∧ z ≤ pg ∧ ∀ k, k < n → 0 ≤ (pw k).1 ∧ (pw k).1 < pg) := by
  have e : ∀ i : Int, plE (planOk fr pg) i pg = 0 ↔ 0 ≤ i ∧ i < pg := fun i => by
    rw [hpl]
    simp [plE]
  unfold RightC
  constructor
  · rintro ⟨h1, h2, h3, h4⟩
    exact ⟨h1, h2, h3, fun k hk => by rw [hx k hk]; exact (e _).1 (h4 k hk)⟩
  · rintro ⟨h1, h2, h3, h4⟩
    exact ⟨h1, h2, h3, fun k hk => (e _).2 (by rw [← hx k hk]; exact h4 k hk)⟩
section
variable {fr pg z x : Int} {G : Nat → List UInt8} {S S' : LgS} {i n : Nat} {xs : Nat → Int × Option Addr × Nat} {pw : Nat → Int × List UInt8} {s' : DS}
/-- An Append that no stop holds up. -/
theorem app_plain (h : StP fr pg G S i) (hi : i ≤ 1000) (hpl : planOk fr pg = true) (hx : ∀ k, k < n → (pw k).1 = (xs k).1) (hy : ∀ k, k < n → (pw k).2.length = 512) (left : Int) (ha : AppOut fr pg ⟨G, [], left, false⟩ S n xs pw z x s' S') :
    ∃ G', s' = ⟨G', [], left, false⟩ ∧ StP fr pg G' S' (i + 1) ∧ ((x = 0 ∧ MayApp fr pg S z n pw ∧ S' = newS S z n pw) ∨ (¬ x = 0 ∧ ¬ MayApp fr pg S z n pw ∧ S' = S ∧ G' = G)) := by
  have hpr := (planOk_iff fr pg).1 hpl
  obtain ⟨⟨hz, hli⟩, h1, h2, h3, h4⟩ := id h
  have hw : StP fr pg G S (i + 1) := ⟨⟨hz, hli⟩, by omega, by omega, h3, h4⟩
  have hR := rightC_iff (z := z) hpl hx
  rcases ha with ⟨hn, rfl, rfl, rfl⟩ | ⟨_, hf, rfl, rfl, rfl⟩ | ⟨hr, hf, fs', r, rfl, hr2, rfl, rfl, hS⟩
  · exact ⟨G, rfl, hw, .inr ⟨by decide, fun hm => hn (hR.2 hm.1), rfl, rfl⟩⟩
  · exact ⟨G, rfl, hw, .inr ⟨by decide, fun hm => by have := hm.2; omega, rfl, rfl⟩⟩
  · have hm := hR.1 hr
    have hp : PwOk pg z n pw := ⟨hm.2.2.2, hy, hm.2.1, hm.2.2.1⟩
    obtain ⟨G2, e, hLI⟩ := hli.append hp (by omega) (by omega) hm.1 (by omega) ⟨h4.1, by omega⟩ left
    rw [e] at hr2
    subst hr2
    have hS2 : S' = newS S z n pw := by
      rcases hS with ⟨_, e⟩ | ⟨h, _⟩
      · exact e
      · exact absurd rfl h
    subst hS2
    have hlen := addK_length S.ep z S.fs n pw n
    refine ⟨G2, rfl, ⟨⟨_, hLI⟩, by show S.sr + 1 ≤ _; omega, by show S.ep ≤ _; omega, ?_, ⟨hm.2.1, hm.2.2.1⟩⟩, .inl ⟨rfl, ⟨hm, hf⟩, rfl⟩⟩
    show ((addK S.ep z S.fs n pw n).length : Int) ≤ fr
    omega
/-- A Reset that no stop holds up. -/
theorem rst_plain (h : StP fr pg G S i) (hi : i ≤ 1000) (hpl : planOk fr pg = true) (left : Int) (ha : RstOut ⟨G, [], left, false⟩ S x s' S') : ∃ G', s' = ⟨G', [], left, false⟩ ∧ StP fr pg G' S' (i + 1) := by
  have hpr := (planOk_iff fr pg).1 hpl
  obtain ⟨⟨hz, hli⟩, h1, h2, h3, h4⟩ := id h
  obtain ⟨r, hr, rfl, rfl, hS⟩ := ha
  obtain ⟨G2, e, hLI⟩ := hli.reset (by omega) (by omega) ⟨h4.1, by omega⟩ left
  rw [e] at hr
  subst hr
  have hS2 : S' = ⟨S.sr + 1, S.ep + 1, S.sz, []⟩ := by
    rcases hS with ⟨_, e⟩ | ⟨h, _⟩
    · exact e
    · exact absurd rfl h
  subst hS2
  exact ⟨G2, rfl, ⟨⟨_, hLI⟩, by show S.sr + 1 ≤ _; omega, by show S.ep + 1 ≤ _; omega, by show ((0 : Nat) : Int) ≤ fr; omega, h4⟩⟩
/-- An Append under a stop, and a crash. -/
theorem app_crash (h : StP fr pg G S i) (hi : i ≤ 1000) (hpl : planOk fr pg = true) (hx : ∀ k, k < n → (pw k).1 = (xs k).1) (hy : ∀ k, k < n → (pw k).2.length = 512) (left : Int) (st : Bool) (ha : AppOut fr pg ⟨G, [], left, st⟩ S n xs pw z x s' S') (bs : List Bool) (t : Nat) :
    ∃ S2 hz, LogOn (crD s' bs t) S2 hz ∧ ((¬ x = 0 ∧ S2 = S) ∨ (MayApp fr pg S z n pw ∧ S2 = newS S z n pw)) := by
  have hpr := (planOk_iff fr pg).1 hpl
  obtain ⟨⟨hz, hli⟩, h1, h2, h3, h4⟩ := id h
  have hR := rightC_iff (z := z) hpl hx
  rcases ha with ⟨hn, rfl, rfl, rfl⟩ | ⟨_, hf, rfl, rfl, rfl⟩ | ⟨hr, hf, fs', r, rfl, hr2, rfl, rfl, hS⟩
  · exact ⟨_, hz, by rw [crD_none rfl]; exact hli.on, .inl ⟨by decide, rfl⟩⟩
  · exact ⟨_, hz, by rw [crD_none rfl]; exact hli.on, .inl ⟨by decide, rfl⟩⟩
  · have hm := hR.1 hr
    have hp : PwOk pg z n pw := ⟨hm.2.2.2, hy, hm.2.1, hm.2.2.1⟩
    rcases hli.crash hp (by omega) (by omega) hm.1 (by omega) ⟨h4.1, by omega⟩ left st r hr2 bs t with ⟨_, h5⟩ | ⟨h5, h6 | h6⟩
    · exact ⟨_, _, h5, .inr ⟨⟨hm, hf⟩, rfl⟩⟩
    · exact ⟨_, _, h6, .inl ⟨h5, rfl⟩⟩
    · exact ⟨_, _, h6, .inr ⟨⟨hm, hf⟩, rfl⟩⟩
/-- How many writes are loose behind an Append. -/
theorem app_loose (left : Int) (st : Bool) (ha : AppOut fr pg ⟨G, [], left, st⟩ S n xs pw z x s' S') : s'.xs.length ≤ 9 * n + 1 := by
  rcases ha with ⟨_, rfl, rfl, rfl⟩ | ⟨_, hf, rfl, rfl, rfl⟩ | ⟨hr, hf, fs', r, rfl, hr2, rfl, rfl, hS⟩
  · exact Nat.zero_le _
  · exact Nat.zero_le _
  · have hlen := addK_length S.ep z S.fs n pw n
    have hfl := frsW_length ((addK S.ep z S.fs n pw n).drop S.fs.length)
    rw [List.length_drop, hlen] at hfl
    have hL2 := wrL_length ((S.sr + 1) % 2) (hEnc (S.sr + 1) S.ep S.sz ((addK S.ep z S.fs n pw n).length : Int)) 1
    generalize wrL ((S.sr + 1) % 2) (hEnc (S.sr + 1) S.ep S.sz ((addK S.ep z S.fs n pw n).length : Int)) 1 = L2 at *
    generalize frsW ((addK S.ep z S.fs n pw n).drop S.fs.length) = L1 at *
    have hsy : ∀ s : DS, (synD s).1.xs.length ≤ s.xs.length := fun s => by
      unfold synD
      split
      · exact Nat.le_refl _
      · exact Nat.zero_le _
    have hsy0 : ∀ s : DS, (synD s).2 = 0 → (synD s).1.xs = [] := fun s h => by
      unfold synD at h ⊢
      split
      · next hs => rw [if_pos hs] at h; exact absurd h (show ¬ (140 : Int) = 0 by decide)
      · rfl
    have h1 := wrs_len L1 ⟨G, [], left, st⟩
    simp only [List.length_nil, Nat.zero_add] at h1
    rw [hr2]
    unfold appD
    split
    · split
      · next _ h0 =>
        have h2 := hsy0 _ h0
        have h3 := wrs_len L2 (synD (wrs ⟨G, [], left, st⟩ L1).1).1
        rw [h2, hL2] at h3
        simp only [List.length_nil, Nat.zero_add] at h3
        unfold layD
        split
        · have := hsy (wrs (synD (wrs ⟨G, [], left, st⟩ L1).1).1 L2).1
          omega
        · omega
      · have := hsy (wrs ⟨G, [], left, st⟩ L1).1
        omega
    · omega
end
end Go.Proofs.YtocnabpplbeafaaGreat
/- loupelaw06.works: the chapter's rows. -/
namespace Go.Proofs.YtocnabpplbeafaaGreat
open Go Go.RowKit Lou

theorem BlkIs.rng {w : World} {g : Nat} {T : TypeId} {l : List Value} (h : BlkIs w g T l.toArray) : w.rangeAt g 0 l := fun j v hj => by
  rw [h.cell, Nat.zero_add]
  simpa using hj
theorem pw3_in {w : World} {g : Nat} {T : TypeId} {x y : Value} (h : BlkIs w g T #[x, y, x, y, x, y]) (k : Nat) (hk : k < 3) : w.rangeAt g (0 + k * 2) [x, y] := fun j v hj => by
  rw [h.cell]
  rcases k with _ | _ | _ | k
  · rcases j with _ | _ | j
    · exact hj
    · exact hj
    · simp at hj
  · rcases j with _ | _ | j
    · exact hj
    · exact hj
    · simp at hj
  · rcases j with _ | _ | j
    · exact hj
    · exact hj
    · simp at hj
  · omega
theorem pgL_length (v : UInt8) : (pgL v).length = 512 := List.length_replicate
theorem page6_at (v : UInt8) (x : Int) (hx : (v.toNat : Int) = x) (W : World) : Calls Tryz.prog 36 #[.int .u8 x] W fun e w' => ∃ A c, e = .returned (.slice A 512 c) ∧ InB w' w'.heap.size A c (pgL v) ∧ (∀ g o, A = some ⟨g, o, none⟩ → W.heap.size ≤ g) ∧ Below W.heap.size W w' := by
  subst hx
  refine (page6_gives W v).mono ?_
  rintro e w' ⟨y, rfl, own, hB⟩
  have hge := ownG_ge own
  obtain ⟨A, c, rfl, hin⟩ := own.inB
  exact ⟨A, c, by rw [pgL_length], hin, fun g o e => by subst e; exact hge g rfl, hB⟩
set_option maxRecDepth 100000 in
set_option maxHeartbeats 8000000 in
theorem works6_gives (w : World) : Calls Tryz.prog 8 #[] w fun e w' => e = .returned (.bool true) ∧ Below w.heap.size w w' := by
  have HN : ∀ W, Calls Tryz.prog 9 #[.int .i64 45] W fun e w' => ∃ p, e = .returned (.tuple #[.pointer (some ⟨p, 0, none⟩), .int .i64 0]) ∧ W.heap.size ≤ p ∧ DkIs w' p 45 (fun _ => zer64) [] 0 false ∧ Below W.heap.size W w' := fun W => new_gives W 45 (by decide) (by decide)
  have HO : ∀ W d, DkIs W d 45 (fun _ => zer64) [] 0 false → Calls Tryz.prog 11 #[.pointer (some ⟨d, 0, none⟩), .agg #[.int .i64 3, .int .i64 2]] W fun e w' => ∃ l g, e = .returned (.tuple #[.pointer (some ⟨l, 0, none⟩), .int .i64 0]) ∧ W.heap.size ≤ l ∧ DkIs w' d 45 g [] 0 false ∧ BlkIs w' l 57 (lgC (some ⟨d, 0, none⟩) 3 2 1 1 0 none 0 0) ∧ W.grownBy w' (some d) := fun W d hD => open_new W 3 2 d 45 0 hD (by decide) (by decide) (by decide) (by decide) (by decide)
  have HE1 : ∀ W l d sr sz A n c, BlkIs W l 57 (lgC (some ⟨d, 0, none⟩) 3 2 sr 1 sz A n c) → Calls Tryz.prog 26 #[.pointer (some ⟨l, 0, none⟩)] W fun e w' => e = .returned (.int .u64 1) ∧ W = w' := fun W l d sr sz A n c h => lepoch_gives h
  have HE2 : ∀ W l d sr sz A n c, BlkIs W l 57 (lgC (some ⟨d, 0, none⟩) 3 2 sr 2 sz A n c) → Calls Tryz.prog 26 #[.pointer (some ⟨l, 0, none⟩)] W fun e w' => e = .returned (.int .u64 2) ∧ W = w' := fun W l d sr sz A n c h => lepoch_gives h
  obtain ⟨P7, HP7, h7⟩ : ∃ P7, (∀ W, Calls Tryz.prog 36 #[.int .u8 7] W fun e w' => ∃ A c, e = .returned (.slice A 512 c) ∧ InB w' w'.heap.size A c P7 ∧ (∀ g o, A = some ⟨g, o, none⟩ → W.heap.size ≤ g) ∧ Below W.heap.size W w') ∧ Hid (P7.length = 512) := ⟨_, page6_at 7 7 (by decide), Lib.hid (pgL_length 7)⟩
  obtain ⟨P1, HP1, h1⟩ : ∃ P1, (∀ W, Calls Tryz.prog 36 #[.int .u8 1] W fun e w' => ∃ A c, e = .returned (.slice A 512 c) ∧ InB w' w'.heap.size A c P1 ∧ (∀ g o, A = some ⟨g, o, none⟩ → W.heap.size ≤ g) ∧ Below W.heap.size W w') ∧ Hid (P1.length = 512) := ⟨_, page6_at 1 1 (by decide), Lib.hid (pgL_length 1)⟩
  go_enter Tryz.func8, Tryz.ntmps8
  go_wp2_with fail
  refine (HN _).mono ?_
  rintro x W1 ⟨d, rfl, hp, hD1, hB1⟩
  have hdl := hD1.lt
  go_wp2_with fail
  refine (HO _ _ hD1).mono ?_
  rintro x W2 ⟨l, g2, rfl, hl2, hD2, hb2, hg2⟩
  have hB2 := hB1.trans (grown_below hg2 hB1.size (fun r h => by injection h with h; omega))
  have hld : ¬ l = d := by omega
  have hw1 := hB1.size
  go_wp2_with (go_at_call 12; refine (num6_gives _ _).mono ?_; rintro x W ⟨rfl, rfl⟩)
  refine (HE1 _ _ _ _ _ _ _ _ hb2).mono ?_
  rintro x W ⟨rfl, rfl⟩
  go_wp2_with fail
  refine (HP7 _).mono ?_
  rintro x W3 ⟨A7, c7, rfl, hin7, _, hB3⟩
  obtain ⟨V3, hV3⟩ : ∃ V3, V3 = W3.alloc (.cells #[.int .i64 1, .slice A7 512 c7] 80) := ⟨_, rfl⟩
  have bV3 : BlkIs V3 W3.heap.size 80 #[.int .i64 1, .slice A7 512 c7] := by rw [hV3]; exact BlkIs.new W3 _ _
  have hBV3 : Below W3.heap.size W3 V3 := by rw [hV3]; exact (Below.refl _ _).alloc (Nat.le_refl _) _
  have hB23 := hB3.trans (hBV3.mono hB3.size)
  have HA : Calls Tryz.prog 14 #[.pointer (some ⟨l, 0, none⟩), .int .i64 2, .slice (some ⟨W3.heap.size, 0, none⟩) 1 1] V3 fun e w' => e = .returned (.int .i64 0) ∧ (∃ g', DkIs w' d 45 g' [] 0 false) ∧ (∃ A c', BlkIs w' l 57 (lgC (some ⟨d, 0, none⟩) 3 2 2 1 2 A 1 c')) ∧ GrowBut (fun k => k = d ∨ k = l) V3 w' :=
    append_one V3 l d 45 g2 [] 0 3 2 1 1 0 (hD2.grow hB23) (by decide) (by decide) (by decide) (hb2.below hB23 hb2.lt) hld W3.heap.size 0 1 1 A7 c7 P7 bV3.lt (bV3.rng) ((hin7.below hBV3).more hBV3.size) h7.out (by decide) (by decide) (by decide) 2 (by decide) (by decide) (by decide) (by decide) (by decide) (by decide)
  go_wp2_with fail
  rw [← hV3]
  refine HA.mono ?_
  rintro x W4 ⟨rfl, ⟨g4, hD4⟩, ⟨A4, c4, hb4⟩, hG4⟩
  have hB4 : Below w.heap.size w W4 := (hB2.trans (hB23.mono hB2.size)).trans (hG4.toBelow (Nat.le_trans hB2.size hB23.size) (fun k e => by rcases e with rfl | rfl <;> omega))
  clear HA hV3 bV3 hBV3 hB23 hin7 hB3
  go_wp2_with (go_at_call 12; refine (num6_gives _ _).mono ?_; rintro x W ⟨rfl, rfl⟩)
  have HM : Calls Tryz.prog 22 #[.pointer (some ⟨l, 0, none⟩)] W4 fun e w' => e = .returned (.tuple #[.int .i64 1, .int .i64 2]) ∧ Below W4.heap.size W4 w' := lmany_gives W4 l d 3 2 2 1 2 A4 1 c4 hb4 (by decide) (by decide) (by decide)
  refine HM.mono ?_
  rintro x W5 ⟨rfl, hB5⟩
  have hD5 := hD4.grow hB5
  have hb5 := hb4.below hB5 hb4.lt
  have hB05 := hB4.trans (hB5.mono hB4.size)
  clear HM
  go_wp2_with fail
  refine (HP1 _).mono ?_
  rintro x W6 ⟨A1, c1, rfl, hin1, _, hB6⟩
  have hb6 := hb5.below hB6 hb5.lt
  have hD6 := hD5.grow hB6
  have hB06 := hB05.trans (hB6.mono hB05.size)
  go_wp2_with fail
  obtain ⟨V6, hV6⟩ : ∃ V6, V6 = (W6.alloc (.cells #[.int .i64 0, .slice A1 512 c1] 80)).alloc (.cells #[.int .i64 0, .slice A1 512 c1, .int .i64 0, .slice A1 512 c1, .int .i64 0, .slice A1 512 c1] 80) := ⟨_, rfl⟩
  have bV6 : BlkIs V6 (W6.heap.size + 1) 80 #[.int .i64 0, .slice A1 512 c1, .int .i64 0, .slice A1 512 c1, .int .i64 0, .slice A1 512 c1] := by
    have := BlkIs.new (W6.alloc (.cells #[.int .i64 0, .slice A1 512 c1] 80)) 80 #[.int .i64 0, .slice A1 512 c1, .int .i64 0, .slice A1 512 c1, .int .i64 0, .slice A1 512 c1]
    rw [World.size_alloc] at this
    rw [hV6]
    exact this
  have hBV6 : Below W6.heap.size W6 V6 := by rw [hV6]; exact ((Below.refl _ _).alloc (Nat.le_refl _) _).alloc (by simp) _
  have HF : Calls Tryz.prog 14 #[.pointer (some ⟨l, 0, none⟩), .int .i64 2, .slice (some ⟨W6.heap.size + 1, 0, none⟩) 3 3] V6 fun e w' => e = .returned (.int .i64 160) ∧ Below V6.heap.size V6 w' :=
    append_full V6 l d 3 2 2 1 2 A4 1 c4 (hb6.below hBV6 hb6.lt) (by decide) (W6.heap.size + 1) 0 3 3 (fun _ => (0, A1, c1)) (by decide) (by decide) (fun k hk => pw3_in bV6 k hk) bV6.lt (fun _ _ => by show plE (planOk 3 2) 0 2 = 0; decide) 2 (by decide) (by decide) (by decide)
  rw [← hV6]
  refine HF.mono ?_
  rintro x W7 ⟨rfl, hB7⟩
  have hB67 := hBV6.trans (hB7.mono hBV6.size)
  have hD7 := hD6.grow hB67
  have hb7 := hb6.below hB67 hb6.lt
  have hB07 := hB06.trans (hB67.mono hB06.size)
  clear HF hV6 bV6 hBV6
  have HR : Calls Tryz.prog 13 #[.pointer (some ⟨l, 0, none⟩)] W7 fun e w' => e = .returned (.int .i64 0) ∧ (∃ g', DkIs w' d 45 g' [] 0 false) ∧ BlkIs w' l 57 (lgC (some ⟨d, 0, none⟩) 3 2 3 2 2 none 0 0) ∧ GrowBut (fun k => k = d ∨ k = l) W7 w' :=
    (lreset_gives W7 l d 45 g4 [] 0 3 2 2 1 2 A4 1 c4 hD7 (by decide) (by decide) (by decide) hb7 hld (by decide) (by decide) (by decide) (by decide) (by decide)).mono fun e w' ⟨h1, h2, h3, h4⟩ => ⟨h1, ⟨_, h2⟩, h3, h4⟩
  go_wp2_with fail
  refine HR.mono ?_
  rintro x W8 ⟨rfl, ⟨g8, hD8⟩, hb8, hG8⟩
  have hB08 : Below w.heap.size w W8 := hB07.trans (hG8.toBelow hB07.size (fun k e => by rcases e with rfl | rfl <;> omega))
  clear HR
  go_wp2_with fail
  refine (page_of W8 (.pointer (some ⟨l, 0, none⟩)) 1 (last_mt W8 l d 3 2 3 2 2 hb8)).mono ?_
  rintro x W9 ⟨A9, c9, rfl, hB9⟩
  have hb9 := hb8.below hB9 hb8.lt
  have hB09 := hB08.trans (hB9.mono hB08.size)
  go_wp2_with (first
    | (go_at_call 12; refine (num6_gives _ _).mono ?_; rintro x W ⟨rfl, rfl⟩)
    | (go_at_call 26; refine (HE2 _ _ _ _ _ _ _ _ hb9).mono ?_; rintro x W ⟨rfl, rfl⟩)
    | (go_at_call 25; refine (lsize_gives hb9).mono ?_; rintro x W ⟨rfl, rfl⟩))
  go_ret
  exact ⟨rfl, hB09⟩
end Go.Proofs.YtocnabpplbeafaaGreat
/- loupelaw05.FramePlaces: the walk. -/
namespace Go.Proofs.YtocnabpplbeafaaGreat
open Go Go.RowKit Lou

section
variable (fr pg n : Int)
set_option maxRecDepth 100000 in
set_option maxHeartbeats 1000000 in
theorem refSectors_gives (w : World) (h1 : 1 ≤ fr ∧ fr ≤ 2000) (h2 : 1 ≤ pg ∧ pg ≤ 2000) : Calls Tryz.prog 10 #[.agg #[.int .i64 fr, .int .i64 pg]] w fun e w' => e = .returned (.int .i64 (2 + 9 * fr + 8 * pg)) ∧ Below w.heap.size w w' := by
  have e1 : IntKind.i64.wrap (9 * fr) = 9 * fr := wrap_i64_fr _ (by omega) (by omega)
  have e2 : IntKind.i64.wrap (2 + 9 * fr) = 2 + 9 * fr := wrap_i64_fr _ (by omega) (by omega)
  have e3 : IntKind.i64.wrap (8 * pg) = 8 * pg := wrap_i64_fr _ (by omega) (by omega)
  have e4 : IntKind.i64.wrap (2 + 9 * fr + 8 * pg) = 2 + 9 * fr + 8 * pg := wrap_i64_fr _ (by omega) (by omega)
  go_enter Tryz.func10, Tryz.ntmps10
  go_wp2
  go_ret
  exact ⟨rfl, (Below.refl _ _).alloc (Nat.le_refl _) _⟩
end
def planV (fr pg : Int) : Value := .agg #[.int .i64 fr, .int .i64 pg]
end Go.Proofs.YtocnabpplbeafaaGreat
/- loupelaw06.WalNone. -/
namespace Go.Proofs.YtocnabpplbeafaaGreat
open Go Go.RowKit Lou Go.Shelf
attribute [local go_sem] Oper.semAt_some

@[local go_sem] theorem run_eqFseq (w : World) (f : Fn) (xs ys : Array Value) : (binOp .eql 63 (.func f xs ys) .nilFunc).run Tryz.prog w = .ok (.bool false) w := by
  have h := run_eqF_nil (P := Tryz.prog) 9999 63 w f xs ys Tryz.underlying63
  have e : binOp .eql 63 (.func f xs ys) .nilFunc = (do pure (.bool (← Op.equalIn (9999 + 1) 63 (.func f xs ys) .nilFunc))) := rfl
  rw [e]
  simp only [Sem.run_bind, h, Result.andThen, Sem.run_pure]
/-- The function's own blocks: its plan, its result. -/
structure Pl (B : Nat) (fr pg : Int) (W : World) : Prop where
  b0 : BlkIs W B 23 #[.int .i64 fr, .int .i64 pg]
  b1 : BlkIs W (B + 1) 4 #[.bool false]
theorem Pl.grow {B : Nat} {fr pg : Int} {W W' : World} (h : Pl B fr pg W) (hB : Below W.heap.size W W') : Pl B fr pg W' := ⟨h.b0.below hB h.b0.lt, h.b1.below hB h.b1.lt⟩
theorem Pl.grown {B : Nat} {fr pg : Int} {W W' : World} {row : Option Nat} (h : Pl B fr pg W) (hB : W.grownBy W' row) (hr : ∀ r, row = some r → B + 2 ≤ r) : Pl B fr pg W' :=
  ⟨h.b0.grown hB (fun e => by have := hr _ e.symm; omega), h.b1.grown hB (fun e => by have := hr _ e.symm; omega)⟩
theorem Pl.c0 {B : Nat} {fr pg : Int} {W : World} (h : Pl B fr pg W) : W.cell? ⟨B, 0, none⟩ = some (.int .i64 fr) := by rw [h.b0.cell]; rfl
theorem Pl.c1 {B : Nat} {fr pg : Int} {W : World} (h : Pl B fr pg W) : W.cell? ⟨B, 1, none⟩ = some (.int .i64 pg) := by rw [h.b0.cell]; rfl
end Go.Proofs.YtocnabpplbeafaaGreat
