/- Texts that the proof of FileTells leans on, part 12. -/
import Derived.Deep.Slices
import Derived.Deep.Grids
import Derived.ChangeArms
import Derived.Test.YtocnabpplbeafaaGreatFileTellsB11
/- wal: what lies on a log's disk behind an Append, a Reset, a stop and a crash, in plain words. -/
namespace Go.Proofs.YtocnabpplbeafaaGreat
open Go Go.RowKit Lou

/-! ### Heads -/
/-- The serial that a sector's second copy tells. -/
def hdS2 (l : List UInt8) : Nat := rfix ((l.drop 28).take 8)
theorem headW_cut (s e z c : Nat) : (headW s e z c).take 24 = headB s e z c := by have := twiceB_take (headB s e z c); rw [headB_length] at this; exact this
theorem headW_mid (s e z c : Nat) : ((headW s e z c).drop 28).take 24 = headB s e z c := by have := twiceB_mid (headB s e z c); rw [headB_length] at this; exact this
theorem take_mid (l : List UInt8) (k : Nat) : (l.drop k).take 8 = ((l.drop k).take 24).take 8 := by rw [List.take_take]; rfl
theorem hdS2_headW {s e z c : Nat} (hs : s < 2 ^ 64) (he : e < 2 ^ 64) (hz : z ≤ 2000) (hc : c ≤ 2000) : hdS2 (headW s e z c) = s := by
  have h := (headB_read hs he (show z < 2 ^ 32 by omega) (show c < 2 ^ 32 by omega) []).1
  unfold hdS2
  rw [take_mid, headW_mid]
  rw [List.append_nil] at h
  exact h
/-- A head's first bytes ahead of what lay there: if that is a head, it is that head, or it has the serial of the second copy that lay there. -/
theorem torn_over {s e z c : Nat} {old : List UInt8} (ho : old.length = 64) (m : Nat) (h : isHead ((headW s e z c).take m ++ old.drop m) = true) :
    (headW s e z c).take m ++ old.drop m = headW s e z c ∨ hdS ((headW s e z c).take m ++ old.drop m) = hdS2 old := by
  obtain ⟨_, _, _, h4⟩ := (isHead_iff _).1 h
  have l1 := headW_length s e z c
  by_cases h24 : 24 ≤ m
  · left
    have h5 := congrArg (List.take 24) h4
    have t2 : ((headW s e z c).take m ++ old.drop m).take 24 = (headW s e z c).take 24 := by
      by_cases hm : m ≤ 64
      · rw [List.take_append_of_le_length (by simp; omega), List.take_take, Nat.min_eq_left h24]
      · rw [List.take_of_length_le (i := m) (by omega), List.take_append_of_le_length (by omega)]
    rw [headW_cut, t2, headW_cut] at h5
    rw [← h4]
    unfold headW at h5 ⊢
    rw [h5]
  · right
    have h5 := congrArg (fun l => (List.drop 28 l).take 24) h4
    have h6 := congrArg (List.take 24) h4
    have t2 : (((headW s e z c).take m ++ old.drop m).drop 28).take 24 = (old.drop 28).take 24 := by
      have hl : ((headW s e z c).take m).length = m := by simp; omega
      rw [List.drop_append, hl, List.drop_of_length_le (by omega), List.nil_append, List.drop_drop]
      congr 2
      omega
    simp only [headW_mid, t2] at h5
    rw [headW_cut] at h6
    have h7 : ((headW s e z c).take m ++ old.drop m).take 24 = (old.drop 28).take 24 := by rw [← h6, h5]
    unfold hdS hdS2
    rw [take_mid old 28, ← h7, List.take_take]
    rfl

/-! ### Sectors -/
theorem secsOf_away {G H : Nat → List UInt8} (a : Nat) : ∀ m, (∀ k, a ≤ k → k < a + m → H k = G k) → secsOf H a m = secsOf G a m
  | 0, _ => rfl
  | m + 1, h => by
    show secsOf H a m ++ H (a + m) = secsOf G a m ++ G (a + m)
    rw [secsOf_away a m (fun k h1 h2 => h k h1 (by omega)), h (a + m) (by omega) (by omega)]
theorem wrL_first {a m : Nat} {b : List UInt8} {x : Nat × List UInt8} (h : x ∈ wrL a b m) : a ≤ x.1 ∧ x.1 < a + m := by
  unfold wrL at h
  obtain ⟨i, hi, rfl⟩ := List.mem_map.1 h
  have := List.mem_range.1 hi
  exact ⟨by simp, by simp; omega⟩
theorem secsOf_wrL (G : Nat → List UInt8) (a : Nat) (b : List UInt8) : ∀ m, 64 * m ≤ b.length → secsOf (laid G (wrL a b m)) a m = b.take (64 * m)
  | 0, _ => by simp [secsOf]
  | m + 1, hm => by
    have e1 : laid G (wrL a b (m + 1)) = laid G (wrL a b m ++ [(a + m, chunkB b m)]) := by rw [wrL_next]
    show secsOf (laid G (wrL a b (m + 1))) a m ++ laid G (wrL a b (m + 1)) (a + m) = _
    rw [e1, laid_one, if_pos rfl]
    have e2 : secsOf (laid G (wrL a b m ++ [(a + m, chunkB b m)])) a m = secsOf (laid G (wrL a b m)) a m :=
      secsOf_away a m (fun k h1 h2 => by rw [laid_one, if_neg (by omega)])
    rw [e2, secsOf_wrL G a b m (by omega)]
    unfold chunkB
    rw [show 64 * (m + 1) = 64 * m + 64 by omega, List.take_add]

/-! ### Frames -/
theorem FrP.sum_lt (x : FrP) : x.sum < 2 ^ 32 := by
  unfold FrP.sum fSum
  split
  · exact sumL_lt _
  · decide
theorem linkOf_lt (fs : List FrP) : linkOf fs < 2 ^ 32 := by
  unfold linkOf
  split
  · exact FrP.sum_lt _
  · decide
/-- What holds of the frames of a log. -/
def OkF (ep : Nat) (fs : List FrP) : Prop := ∀ j (h : j < fs.length), (fs[j]).e = ep ∧ (fs[j]).i = (j : Int) ∧ frOk (fs[j]).y.length (fs[j]).i (fs[j]).p (fs[j]).f (fs[j]).z = true ∧ (fs[j]).n = linkOf (fs.take j) ∧ (fs[j]).n < 2 ^ 32
theorem OkF.snoc {ep : Nat} {fs : List FrP} (h : OkF ep fs) {x : FrP} (hx : x.e = ep ∧ x.i = (fs.length : Int) ∧ frOk x.y.length x.i x.p x.f x.z = true ∧ x.n = linkOf fs) : OkF ep (fs ++ [x]) := fun j hj => by
  by_cases hlt : j < fs.length
  · rw [List.getElem_append_left hlt, List.take_append_of_le_length (by omega)]
    exact h j hlt
  · have hj2 : j = fs.length := by simp at hj; omega
    subst hj2
    rw [List.getElem_append_right (Nat.le_refl _)]
    simp only [Nat.sub_self, List.getElem_cons_zero, List.take_left']
    obtain ⟨h1, h2, h3, h4⟩ := hx
    exact ⟨h1, h2, h3, h4, by rw [h4]; exact linkOf_lt _⟩
/-- Good pages for an Append. -/
structure PwOk (pg z : Int) (n : Nat) (pw : Nat → Int × List UInt8) : Prop where
  page : ∀ k, k < n → 0 ≤ (pw k).1 ∧ (pw k).1 < pg
  len : ∀ k, k < n → (pw k).2.length = 512
  lo : 0 ≤ z
  hi : z ≤ pg
theorem addK_ok {ep : Nat} {z pg : Int} {fs : List FrP} {n : Nat} {pw : Nat → Int × List UInt8} (h : OkF ep fs) (hp : PwOk pg z n pw) (hpg : pg ≤ 2000) (hl : fs.length + n ≤ 2000) : ∀ k, k ≤ n → OkF ep (addK ep z fs n pw k)
  | 0, _ => h
  | k + 1, hk => by
    unfold addK
    have hlen := addK_length ep z fs n pw k
    refine (addK_ok h hp hpg hl k (by omega)).snoc ⟨rfl, rfl, (frOk_iff _ _ _ _ _).2 ?_, rfl⟩
    have h1 := hp.page k (by omega)
    have h2 := hp.len k (by omega)
    have h3 := hp.lo
    have h4 := hp.hi
    simp only [newF, hlen]
    refine ⟨h2, ⟨by omega, by omega⟩, ⟨by omega, by omega⟩, ?_, ?_⟩
    · split <;> constructor <;> omega
    · by_cases hkn : k + 1 = n
      · exact .inl (by simp [hkn])
      · exact .inr (by simp [hkn])
theorem addK_head (ep : Nat) (z : Int) (fs : List FrP) (n : Nat) (pw : Nat → Int × List UInt8) : ∀ k, ∃ r, addK ep z fs n pw k = fs ++ r
  | 0 => ⟨[], by simp [addK]⟩
  | k + 1 => by
    obtain ⟨r, hr⟩ := addK_head ep z fs n pw k
    exact ⟨r ++ [newF ep z (addK ep z fs n pw k) (pw k) (decide (k + 1 = n))], by
      show addK ep z fs n pw k ++ [newF ep z (addK ep z fs n pw k) (pw k) (decide (k + 1 = n))] = _
      rw [← List.append_assoc, ← hr]⟩
theorem addK_last {ep : Nat} {z : Int} {fs : List FrP} {n : Nat} {pw : Nat → Int × List UInt8} (hn : 1 ≤ n) : ∃ x, (addK ep z fs n pw n).getLast? = some x ∧ x.f = true ∧ x.z = z := by
  obtain ⟨k, rfl⟩ : ∃ k, n = k + 1 := ⟨n - 1, by omega⟩
  refine ⟨newF ep z (addK ep z fs (k + 1) pw k) (pw k) (decide (k + 1 = k + 1)), ?_, by simp [newF], by simp [newF]⟩
  show (addK ep z fs (k + 1) pw k ++ [newF ep z (addK ep z fs (k + 1) pw k) (pw k) (decide (k + 1 = k + 1))]).getLast? = _
  exact List.getLast?_concat
theorem frsW_first {ep : Nat} {fs : List FrP} (h : OkF ep fs) (k : Nat) : ∀ x ∈ frsW (fs.drop k), 2 + 9 * k ≤ x.1 ∧ x.1 < 2 + 9 * fs.length := by
  intro x hx
  unfold frsW at hx
  obtain ⟨l, hl, hxl⟩ := List.mem_flatten.1 hx
  obtain ⟨f, hf, rfl⟩ := List.mem_map.1 hl
  obtain ⟨j, hj, rfl⟩ := List.getElem_of_mem hf
  rw [List.length_drop] at hj
  rw [List.getElem_drop] at hxl
  have hi := (h (k + j) (by omega)).2.1
  have := wrL_first hxl
  rw [hi] at this
  simp only [Int.toNat_natCast] at this
  omega
theorem lies_new {ep : Nat} {fs : List FrP} (h : OkF ep fs) (G : Nat → List UInt8) : ∀ m k, k + m = fs.length → ∀ j (hj : j < fs.length), k ≤ j → secsOf (laid G (frsW (fs.drop k))) (2 + 9 * j) 9 = (fs[j]).enc
  | 0, k, hk, j, hj, hkj => absurd hj (by omega)
  | m + 1, k, hk, j, hj, hkj => by
    rw [frsW_drop fs k (by omega), laid_app]
    by_cases hkj2 : k = j
    · subst hkj2
      obtain ⟨h1, h2, h3, h4, h5⟩ := h k hj
      have hl := FrP.enc_length h3
      have e0 : secsOf (laid (laid G (frW fs[k])) (frsW (fs.drop (k + 1)))) (2 + 9 * k) 9 = secsOf (laid G (frW fs[k])) (2 + 9 * k) 9 :=
        secsOf_away _ 9 (fun q h1 h2 => laid_away _ _ q (fun x hx => by have := frsW_first h (k + 1) x hx; omega))
      rw [e0]
      have ek : ((fs[k]).i).toNat = k := by rw [h2]; simp
      have ef : fEnc (fs[k]).e (fs[k]).i (fs[k]).p (fs[k]).f (fs[k]).z (fs[k]).n (fs[k]).y = (fs[k]).enc := by
        unfold fEnc FrP.enc
        rw [if_pos h3]
      unfold frW
      rw [ek, ef, secsOf_wrL G (2 + 9 * k) (fs[k]).enc 9 (by omega), List.take_of_length_le (by omega)]
    · exact lies_new h _ m (k + 1) (by omega) j hj (by omega)
theorem FrOn.away {G H : Nat → List UInt8} {ep : Nat} {fs : List FrP} (h : FrOn G ep fs) (hG : ∀ k, 2 ≤ k → k < 2 + 9 * fs.length → H k = G k) : FrOn H ep fs :=
  ⟨fun j hj => (secsOf_away _ 9 (fun k h1 h2 => hG k (by omega) (by omega))).trans (h.lies j hj), h.ok, h.last⟩
/-- The old frames and the new ones lie there. -/
theorem FrOn.more {G : Nat → List UInt8} {ep : Nat} {fs : List FrP} (h : FrOn G ep fs) {z pg : Int} {n : Nat} {pw : Nat → Int × List UInt8} (hp : PwOk pg z n pw) (hpg : pg ≤ 2000) (hl : fs.length + n ≤ 2000) (hn : 1 ≤ n) :
    FrOn (laid G (frsW ((addK ep z fs n pw n).drop fs.length))) ep (addK ep z fs n pw n) := by
  have hO := addK_ok h.ok hp hpg hl n (Nat.le_refl _)
  have hlen := addK_length ep z fs n pw n
  refine ⟨fun j hj => ?_, hO, fun x hx => ?_⟩
  · by_cases hlt : j < fs.length
    · obtain ⟨r, hr⟩ := addK_head ep z fs n pw n
      have e1 : (addK ep z fs n pw n)[j] = fs[j] := by
        have : (fs ++ r)[j]'(by simp; omega) = fs[j] := List.getElem_append_left hlt
        rw [← this]
        congr 1
      rw [e1, ← h.lies j hlt]
      exact secsOf_away _ 9 (fun k h1 h2 => laid_away _ _ k (fun x hx => by have := frsW_first hO fs.length x hx; omega))
    · exact lies_new hO G n fs.length (by omega) j hj (by omega)
  · obtain ⟨y, hy, hf, _⟩ := addK_last (ep := ep) (z := z) (fs := fs) (pw := pw) hn
    rw [hx] at hy
    injection hy with hy
    rw [hy]
    exact hf
end Go.Proofs.YtocnabpplbeafaaGreat
/- wal: behind an Append under way, a stop and a crash there lies what counted, or that and the append. -/
namespace Go.Proofs.YtocnabpplbeafaaGreat
open Go Go.RowKit Lou

/-- A log lies on a disk, and what else lies where heads do is older. -/
structure LI (G : Nat → List UInt8) (S : LgS) (hz : Nat) : Prop where
  on : LogOn G S hz
  len : ∀ k, (G k).length = 64
  old : hdS2 (G (1 - S.sr % 2)) < S.sr
theorem headL_one {s e : Nat} {z c : Int} (hz : 0 ≤ z ∧ z ≤ 2000) (hc : 0 ≤ c ∧ c ≤ 2000) : wrL (s % 2) (hEnc s e z c) 1 = [(s % 2, headW s e z.toNat c.toNat)] := by
  unfold hEnc
  rw [if_pos (headOk_of hz.1 hz.2 hc.1 hc.2)]
  show [(s % 2 + 0, chunkB (headW s e z.toNat c.toNat) 0)] = _
  unfold chunkB
  rw [Nat.mul_zero, List.drop_zero, List.take_of_length_le (by rw [headW_length]; exact Nat.le_refl _)]
  rfl
theorem LI.away {G H : Nat → List UInt8} {S : LgS} {hz : Nat} (h : LI G S hz) (hG : ∀ k, k < 2 + 9 * S.fs.length → H k = G k) (hl : ∀ k, (H k).length = 64) : LI H S hz := by
  have e0 := hG (S.sr % 2) (by omega)
  have e1 := hG (1 - S.sr % 2) (by omega)
  obtain ⟨⟨h1, h2, h3, h4, h5, h6, h7, h8, h9⟩, h10, h11⟩ := h
  exact ⟨⟨by rw [e0]; exact h1, h2, h3, h4, h5, h6, by rw [e1]; exact h7, h8, h9.away (fun k _ hk => hG k hk)⟩, hl, by rw [e1]; exact h11⟩
/-- A newer head, over frames that lie. -/
theorem LI.next {G G1 : Nat → List UInt8} {S : LgS} {hz : Nat} (h : LI G S hz) (hG : ∀ k, k < 2 → G1 k = G k) (hl : ∀ k, (G1 k).length = 64) {ep : Nat} {z : Int} {fs : List FrP} (hF : FrOn G1 ep fs) (hsr : S.sr + 1 < 2 ^ 64) (hep : ep < 2 ^ 64) (hs : 0 ≤ S.sz ∧ S.sz ≤ 2000) (hfl : fs.length ≤ 2000) (hzz : z = szOf S.sz fs) :
    LI (laid G1 [((S.sr + 1) % 2, headW (S.sr + 1) ep S.sz.toNat fs.length)]) ⟨S.sr + 1, ep, z, fs⟩ S.sz.toNat := by
  have hL : ∀ k, laid G1 [((S.sr + 1) % 2, headW (S.sr + 1) ep S.sz.toNat fs.length)] k = if k = (S.sr + 1) % 2 then headW (S.sr + 1) ep S.sz.toNat fs.length else G1 k := fun k => laid_one G1 [] _ _ k
  have ho : 1 - (S.sr + 1) % 2 = S.sr % 2 := by omega
  have hq : ¬ (S.sr % 2 = (S.sr + 1) % 2) := by omega
  have hd := h.on.hd
  have hr := headW_read h.on.sr h.on.ep h.on.hzl h.on.hn
  refine ⟨⟨?_, hsr, hep, by show S.sz.toNat ≤ 2000; omega, hfl, by show 1 ≤ S.sr + 1; omega, ?_, ?_, ?_⟩, ?_, ?_⟩
  · simp only [hL, if_pos]
  · intro _
    simp only [ho, hL, if_neg hq]
    rw [hG _ (by omega), hd, hr.1]
    omega
  · show z = szOf ((S.sz.toNat : Nat) : Int) fs
    rw [show ((S.sz.toNat : Nat) : Int) = S.sz by omega]
    exact hzz
  · exact hF.away (fun k h2 _ => by rw [hL, if_neg (by omega)])
  · intro k
    rw [hL]
    split
    · exact headW_length _ _ _ _
    · exact hl k
  · simp only [ho, hL, if_neg hq]
    rw [hG _ (by omega), hd, hdS2_headW h.on.sr h.on.ep h.on.hzl h.on.hn]
    omega
/-- A newer head of which some bytes alone have come. -/
theorem LI.torn {G G2 : Nat → List UInt8} {S : LgS} {hz : Nat} (h : LI G S hz) {ep z c m : Nat} (h2 : ∀ k, G2 k = if k = (S.sr + 1) % 2 then (headW (S.sr + 1) ep z c).take m ++ (G k).drop m else G k) :
    LogOn G2 S hz ∨ G2 = laid G [((S.sr + 1) % 2, headW (S.sr + 1) ep z c)] := by
  by_cases he : (headW (S.sr + 1) ep z c).take m ++ (G ((S.sr + 1) % 2)).drop m = headW (S.sr + 1) ep z c
  · right
    funext k
    rw [h2, show laid G [((S.sr + 1) % 2, headW (S.sr + 1) ep z c)] k = if k = (S.sr + 1) % 2 then headW (S.sr + 1) ep z c else G k from laid_one G [] _ _ k]
    by_cases hk : k = (S.sr + 1) % 2
    · rw [if_pos hk, if_pos hk, hk]
      exact he
    · rw [if_neg hk, if_neg hk]
  · left
    have hq : ¬ (S.sr % 2 = (S.sr + 1) % 2) := by omega
    have ho : 1 - S.sr % 2 = (S.sr + 1) % 2 := by omega
    have hold := h.old
    rw [ho] at hold
    obtain ⟨⟨h1, h2', h3, h4, h5, h6, h7, h8, h9⟩, h10, h11⟩ := h
    refine ⟨by rw [h2, if_neg hq]; exact h1, h2', h3, h4, h5, h6, ?_, h8, h9.away (fun k hk _ => by rw [h2, if_neg (by omega)])⟩
    rw [ho, h2, if_pos rfl]
    intro hg
    unfold goodH at hg
    simp only [Bool.and_eq_true] at hg
    rcases torn_over (h10 _) m hg.1 with e | e
    · exact absurd e he
    · rw [e]
      exact hold

/-! ### Stops -/
theorem wrs_free : ∀ (L : List (Nat × List UInt8)) (s : DS), s.st = false → wrs s L = (⟨s.g, s.xs ++ L, s.left, s.st⟩, 0)
  | [], s, _ => by simp [wrs]
  | x :: r, s, h => by
    have hs : s.stopped = false := by unfold DS.stopped; rw [h]; rfl
    rw [wrs_cons_ok hs, wrs_free r (s.push x) h]
    unfold DS.push
    simp only [List.append_assoc, List.singleton_append, h]
    rfl
theorem syn_free {s : DS} (h : s.st = false) : synD s = (⟨laid s.g s.xs, [], s.left, s.st⟩, 0) := by
  have hs : s.stopped = false := by unfold DS.stopped; rw [h]; rfl
  unfold synD
  rw [hs, h]
  rfl
theorem layD_free {s : DS} (h : s.st = false) (L : List (Nat × List UInt8)) : layD s L = (⟨laid s.g (s.xs ++ L), [], s.left, s.st⟩, 0) := by
  unfold layD
  rw [wrs_free L s h]
  simp only [if_true]
  exact syn_free h
theorem appD_free {s : DS} (h : s.st = false) (L1 L2 : List (Nat × List UInt8)) : appD s L1 L2 = (⟨laid (laid s.g (s.xs ++ L1)) L2, [], s.left, s.st⟩, 0) := by
  unfold appD
  rw [wrs_free L1 s h]
  simp only [if_true]
  have e1 : synD ⟨s.g, s.xs ++ L1, s.left, s.st⟩ = (⟨laid s.g (s.xs ++ L1), [], s.left, s.st⟩, 0) := syn_free h
  have e2 := layD_free (s := ⟨laid s.g (s.xs ++ L1), [], s.left, s.st⟩) h L2
  rw [e1]
  simp only [if_true]
  rw [e2]
  rfl
theorem wrs_mem : ∀ (L : List (Nat × List UInt8)) (s : DS), ∀ x ∈ (wrs s L).1.xs, x ∈ s.xs ∨ x ∈ L
  | [], s, x, h => .inl h
  | y :: r, s, x, h => by
    cases hs : s.stopped
    · rw [wrs_cons_ok hs] at h
      rcases wrs_mem r (s.push y) x h with h | h
      · rcases List.mem_append.1 h with h | h
        · exact .inl h
        · exact .inr (by rw [List.mem_singleton.1 h]; exact List.mem_cons_self)
      · exact .inr (List.mem_cons_of_mem _ h)
    · rw [wrs_cons_bad hs] at h
      exact .inl h
/-- What is synced behind a crash. -/
def crD (s : DS) (bs : List Bool) (t : Nat) : Nat → List UInt8 := laid s.g (torn s.g (keptTo s.xs bs s.xs.length) t)
theorem wrL_wide {a m : Nat} {b : List UInt8} (h : 64 * m ≤ b.length) : Wide (wrL a b m) := by
  intro x hx
  unfold wrL at hx
  obtain ⟨i, hi, rfl⟩ := List.mem_map.1 hx
  have := List.mem_range.1 hi
  show (chunkB b i).length = 64
  unfold chunkB
  rw [List.length_take, List.length_drop]
  omega
theorem frsW_wide {ep : Nat} {fs : List FrP} (h : OkF ep fs) (k : Nat) : Wide (frsW (fs.drop k)) := by
  intro x hx
  unfold frsW at hx
  obtain ⟨l, hl, hxl⟩ := List.mem_flatten.1 hx
  obtain ⟨f, hf, rfl⟩ := List.mem_map.1 hl
  obtain ⟨j, hj, rfl⟩ := List.getElem_of_mem hf
  rw [List.length_drop] at hj
  rw [List.getElem_drop] at hxl
  have h3 := (h (k + j) (by omega)).2.2.1
  have hl := FrP.enc_length h3
  have ef : fEnc (fs[k + j]).e (fs[k + j]).i (fs[k + j]).p (fs[k + j]).f (fs[k + j]).z (fs[k + j]).n (fs[k + j]).y = (fs[k + j]).enc := by
    unfold fEnc FrP.enc
    rw [if_pos h3]
  refine wrL_wide (m := 9) ?_ x hxl
  rw [ef, hl]
  exact Nat.le_refl _
/-- The log behind an Append that was carried out. -/
def newS (S : LgS) (z : Int) (n : Nat) (pw : Nat → Int × List UInt8) : LgS := ⟨S.sr + 1, S.ep, z, addK S.ep z S.fs n pw n⟩
section
variable {G : Nat → List UInt8} {S : LgS} {hz : Nat} {z pg : Int} {n : Nat} {pw : Nat → Int × List UInt8}
theorem LI.more (h : LI G S hz) (hp : PwOk pg z n pw) (hpg : pg ≤ 2000) (hl : S.fs.length + n ≤ 2000) (hn : 1 ≤ n) (hsr : S.sr + 1 < 2 ^ 64) (hs : 0 ≤ S.sz ∧ S.sz ≤ 2000) :
    (∀ k, k < 2 + 9 * S.fs.length → laid G (frsW ((addK S.ep z S.fs n pw n).drop S.fs.length)) k = G k) ∧ (∀ k, (laid G (frsW ((addK S.ep z S.fs n pw n).drop S.fs.length)) k).length = 64) ∧
    wrL ((S.sr + 1) % 2) (hEnc (S.sr + 1) S.ep S.sz ((addK S.ep z S.fs n pw n).length : Int)) 1 = [((S.sr + 1) % 2, headW (S.sr + 1) S.ep S.sz.toNat (addK S.ep z S.fs n pw n).length)] ∧
    LI (laid (laid G (frsW ((addK S.ep z S.fs n pw n).drop S.fs.length))) [((S.sr + 1) % 2, headW (S.sr + 1) S.ep S.sz.toNat (addK S.ep z S.fs n pw n).length)]) (newS S z n pw) S.sz.toNat := by
  have hO := addK_ok h.on.fr.ok hp hpg hl n (Nat.le_refl _)
  have hlen := addK_length S.ep z S.fs n pw n
  have h1 : ∀ k, k < 2 + 9 * S.fs.length → laid G (frsW ((addK S.ep z S.fs n pw n).drop S.fs.length)) k = G k := fun k hk => laid_away _ _ k (fun x hx => by have := frsW_first hO S.fs.length x hx; omega)
  have h2 : ∀ k, (laid G (frsW ((addK S.ep z S.fs n pw n).drop S.fs.length)) k).length = 64 := laid_len _ G h.len (frsW_wide hO S.fs.length)
  refine ⟨h1, h2, ?_, h.next (fun k hk => h1 k (by omega)) h2 (h.on.fr.more hp hpg hl hn) hsr h.on.ep hs (by omega) ?_⟩
  · rw [headL_one hs ⟨by omega, by omega⟩]
    rfl
  · obtain ⟨x, hx, _, hxz⟩ := addK_last (ep := S.ep) (z := z) (fs := S.fs) (n := n) (pw := pw) hn
    unfold szOf
    rw [hx]
    exact hxz.symm
/-- An Append that no stop holds up. -/
theorem LI.append (h : LI G S hz) (hp : PwOk pg z n pw) (hpg : pg ≤ 2000) (hl : S.fs.length + n ≤ 2000) (hn : 1 ≤ n) (hsr : S.sr + 1 < 2 ^ 64) (hs : 0 ≤ S.sz ∧ S.sz ≤ 2000) (left : Int) :
    ∃ G2, appD ⟨G, [], left, false⟩ (frsW ((addK S.ep z S.fs n pw n).drop S.fs.length)) (wrL ((S.sr + 1) % 2) (hEnc (S.sr + 1) S.ep S.sz ((addK S.ep z S.fs n pw n).length : Int)) 1) = (⟨G2, [], left, false⟩, 0) ∧ LI G2 (newS S z n pw) S.sz.toNat := by
  obtain ⟨_, _, h3, h4⟩ := h.more hp hpg hl hn hsr hs
  refine ⟨_, appD_free rfl _ _, ?_⟩
  rw [h3]
  exact h4
/-- A Reset that no stop holds up. -/
theorem LI.reset (h : LI G S hz) (hsr : S.sr + 1 < 2 ^ 64) (hep : S.ep + 1 < 2 ^ 64) (hs : 0 ≤ S.sz ∧ S.sz ≤ 2000) (left : Int) :
    ∃ G2, layD ⟨G, [], left, false⟩ (wrL ((S.sr + 1) % 2) (hEnc (S.sr + 1) (S.ep + 1) S.sz 0) 1) = (⟨G2, [], left, false⟩, 0) ∧ LI G2 ⟨S.sr + 1, S.ep + 1, S.sz, []⟩ S.sz.toNat := by
  refine ⟨_, layD_free rfl _, ?_⟩
  rw [headL_one hs ⟨by omega, by omega⟩]
  have hF : FrOn G (S.ep + 1) [] := ⟨fun j hj => absurd hj (Nat.not_lt_zero j), fun j hj => absurd hj (Nat.not_lt_zero j), fun x hx => by cases hx⟩
  have h5 := h.next (fun _ _ => rfl) h.len hF hsr hep hs (Nat.zero_le _) (show S.sz = szOf S.sz [] from rfl)
  rw [show ([] : List FrP).length = (0 : Int).toNat from rfl] at h5
  exact h5
end
end Go.Proofs.YtocnabpplbeafaaGreat
/- wal: Open of a new disk; what then lies on it. -/
namespace Go.Proofs.YtocnabpplbeafaaGreat
open Go Go.RowKit Lou

set_option maxRecDepth 100000 in
set_option maxHeartbeats 16000000 in
theorem open_newG (w : World) (fr pg : Int) (d many : Nat) (left : Int) (hD : DkIs w d many (fun _ => zer64) [] left false) (hok : planOk fr pg = true) (hm : (many : Int) = 2 + 9 * fr + 8 * pg) (hmax : many ≤ 1000000) (h1l : -1000000 ≤ left) (h2l : left ≤ 9223372036854775807) :
    Calls Tryz.prog 11 #[.pointer (some ⟨d, 0, none⟩), .agg #[.int .i64 fr, .int .i64 pg]] w fun e w' => ∃ l, e = .returned (.tuple #[.pointer (some ⟨l, 0, none⟩), .int .i64 0]) ∧ w.heap.size ≤ l ∧ DkIs w' d many (laid (fun _ => zer64) (wrL 1 (hEnc 1 1 0 0) 1)) [] left false ∧ BlkIs w' l 57 (lgC (some ⟨d, 0, none⟩) fr pg 1 1 0 none 0 0) ∧ w.grownBy w' (some d) := by
  have hpl := (planOk_iff fr pg).1 hok
  have hB0 : Below w.heap.size w (w.alloc (.cells #[.int .i64 fr, .int .i64 pg] 23)) := (Below.refl _ w).alloc (Nat.le_refl _) _
  have b0 := BlkIs.new w 23 #[.int .i64 fr, .int .i64 pg]
  have HS := sectors_gives fr pg (w.alloc (.cells #[.int .i64 fr, .int .i64 pg] 23))
  have hp0 : plE (planOk fr pg) 0 1 = 0 := by rw [hok]; rfl
  unfold atV at HS
  rw [hp0, if_pos rfl, ← hm] at HS
  have hm0 : ¬ (many : Int) = 0 := by omega
  have hdl := hD.lt
  have hz1 : ∀ v ∈ zhd.toArray.toList, v.oneCell' = true := by
    intro v hv
    simp [zhd] at hv
    rcases hv with rfl | rfl <;> rfl
  have hz2 : ∀ v ∈ (#[.int .u64 1, .int .u64 1, .int .i64 0, .int .i64 0] : Array Value).toList, v.oneCell' = true := by
    intro v hv
    simp at hv
    rcases hv with rfl | rfl <;> rfl
  have hm2 : 2 ≤ many := by omega
  clear hm hok
  go_enter Tryz.func11, Tryz.ntmps11
  go_wp2_with fail
  refine wp_scope_straight ?_
  go_wp2_with (first
    | (refine wp_loadW rfl 23 (.tmp 3) rfl w.heap.size rfl rowPlan b0 rfl ?_)
    | (go_at_call 37; refine HS.mono ?_; rintro e w1 ⟨rfl, hB1⟩; have b1 := b0.below hB1 b0.lt; have k0 : w1.cell? ⟨w.heap.size, 0, none⟩ = some (.int .i64 fr) := (by rw [b1.cell]; rfl); have k1 : w1.cell? ⟨w.heap.size, 1, none⟩ = some (.int .i64 pg) := (by rw [b1.cell]; rfl); have hB01 := hB0.trans (hB1.mono hB0.size); have hs1 := hB01.size; have hB03 : Below w.heap.size w ((w1.alloc (.cells #[.pointer (some ⟨d, 0, none⟩), .int .i64 fr, .int .i64 pg, .int .u64 0, .int .u64 0, .int .i64 0, .slice none 0 0] 57)).alloc (.cells #[.int .u64 0, .int .u64 0, .int .i64 0, .int .i64 0] 89)) := (hB01.alloc hB01.size _).alloc (by have := hB01.size; simp; omega) _; have hD3 := hD.grow hB03; have HL := len_gives _ d many _ [] left false hD3; have bl : BlkIs ((w1.alloc (.cells #[.pointer (some ⟨d, 0, none⟩), .int .i64 fr, .int .i64 pg, .int .u64 0, .int .u64 0, .int .i64 0, .slice none 0 0] 57)).alloc (.cells #[.int .u64 0, .int .u64 0, .int .i64 0, .int .i64 0] 89)) w1.heap.size 57 (lgC (some ⟨d, 0, none⟩) fr pg 0 0 0 none 0 0) := (BlkIs.new w1 _ _).alloc _; have bh : BlkIs ((w1.alloc (.cells #[.pointer (some ⟨d, 0, none⟩), .int .i64 fr, .int .i64 pg, .int .u64 0, .int .u64 0, .int .i64 0, .slice none 0 0] 57)).alloc (.cells #[.int .u64 0, .int .u64 0, .int .i64 0, .int .i64 0] 89)) (w1.heap.size + 1) 89 #[.int .u64 0, .int .u64 0, .int .i64 0, .int .i64 0] := (by have := BlkIs.new (w1.alloc (.cells #[.pointer (some ⟨d, 0, none⟩), .int .i64 fr, .int .i64 pg, .int .u64 0, .int .u64 0, .int .i64 0, .slice none 0 0] 57)) 89 #[.int .u64 0, .int .u64 0, .int .i64 0, .int .i64 0]; rw [World.size_alloc] at this; exact this); have kl : World.cell? ((w1.alloc (.cells #[.pointer (some ⟨d, 0, none⟩), .int .i64 fr, .int .i64 pg, .int .u64 0, .int .u64 0, .int .i64 0, .slice none 0 0] 57)).alloc (.cells #[.int .u64 0, .int .u64 0, .int .i64 0, .int .i64 0] 89)) ⟨w1.heap.size, 0, none⟩ = some (.pointer (some ⟨d, 0, none⟩)) := (by rw [bl.cell]; rfl))
    | (go_at_call 38; refine HL.mono ?_; rintro e w' ⟨rfl, rfl⟩)
    | (go_at_call 39; refine (head_new _ w1.heap.size d many left hD3 kl bl.lt hm2 hmax).mono ?_; rintro e w4 ⟨rfl, hB4⟩; have bl4 := bl.below hB4 bl.lt; have bh4 := bh.below hB4 bh.lt; have hD4 := hD3.grow hB4)
    | (refine wp_storeW rfl 89 (.tmp 9) (.tmp 35) rfl (w1.heap.size + 1) rfl rfl rowHead bh4 rfl rfl hz1 ?_; have bh5 := bh4.setRow zhd.toArray; have bl5 := bl4.setRow_ne (k := w1.heap.size + 1) (by omega) zhd.toArray; have hD5 := hD4.setRowO bh4 (by decide) (by omega) zhd.toArray; have hG5 : w.grownBy (w4.setRow (w1.heap.size + 1) zhd.toArray) (some d) := grownBy_rest (below_grownBy (hB03.trans (hB4.mono hB03.size)) d) (setRow_grown _ _ _) (Nat.le_refl _) (fun r e => by cases e; omega))
    | (refine wp_storeW rfl 89 (.tmp 9) (.tmp 42) rfl (w1.heap.size + 1) rfl rfl rowHead bh5 rfl rfl hz2 ?_; have bh6 := bh5.setRow #[.int .u64 1, .int .u64 1, .int .i64 0, .int .i64 0]; have bl6 := bl5.setRow_ne (k := w1.heap.size + 1) (by omega) #[.int .u64 1, .int .u64 1, .int .i64 0, .int .i64 0]; have hD6 := hD5.setRowO bh5 (by decide) (by omega) #[.int .u64 1, .int .u64 1, .int .i64 0, .int .i64 0]; have hG6 := grownBy_rest hG5 (setRow_grown _ (w1.heap.size + 1) #[.int .u64 1, .int .u64 1, .int .i64 0, .int .i64 0]) (Nat.le_refl _) (fun r e => by cases e; omega))
    | (refine wp_loadW rfl 89 (.tmp 9) rfl (w1.heap.size + 1) rfl rowHead bh6 rfl ?_)
    | (go_at_call 40; refine (lay_gives _ w1.heap.size d many _ [] left 1 1 0 0 fr pg 0 0 0 none 0 0 hD6 (by decide) h1l h2l bl6 (by omega) (by decide) hm2 hmax).mono ?_; rintro e w7 ⟨rfl, hD7, bl7, hG7⟩; have bh7 := hG7.blk bh6 (by omega)))
  have hG8 : w.grownBy w7 (some d) := ⟨hG7.os.trans hG6.os, hG7.tape.trans hG6.tape, hG7.output.trans hG6.output, Nat.le_trans hG6.size hG7.size, fun k hk hn => (hG7.block k (Nat.lt_of_lt_of_le hk hG6.size) (fun e => by rcases e with e | e; exact hn (by rw [e]); omega)).trans (hG6.block k hk hn)⟩
  have hsl : d < w1.heap.size := by omega
  have hsl2 : w.heap.size ≤ w1.heap.size := by omega
  clear HS HL hD hD3 hD4 hD5 hD6 bl bl4 bl5 bl6 bh bh4 bh5 bh6 kl hB4 hB03 hG5 hG6 hG7 b0 b1 k0 k1 hB0 hB01 hB1 hs1 hz1 hz2
  generalize w1.heap.size = l at *
  have hlh : ¬ l = l + 1 := by omega
  have j0 : w7.drew.cell? ⟨l + 1, 0, none⟩ = some (.int .u64 1) := by rw [bh7.drew.cell]; rfl
  have bA := bl7.drew.set 3 (.int .u64 1)
  have bB := bA.set 4 (.int .u64 1)
  have bC := bB.set 5 (.int .i64 0)
  have hA := bh7.drew.other (p := ⟨l, 3, none⟩) (by show ¬ l + 1 = l; omega) (.int .u64 1)
  have hB := hA.other (p := ⟨l, 4, none⟩) (by show ¬ l + 1 = l; omega) (.int .u64 1)
  have hC := hB.other (p := ⟨l, 5, none⟩) (by show ¬ l + 1 = l; omega) (.int .i64 0)
  have dA := (hD7.grow (Below.refl _ _).drew).setOther bl7.drew (by show 7 ≤ 64; decide) (show d ≠ l by omega) ⟨l, 3, none⟩ (.int .u64 1) rfl
  have dB := dA.setOther bA (by simp; show 7 ≤ 64; decide) (show d ≠ l by omega) ⟨l, 4, none⟩ (.int .u64 1) rfl
  have dC := dB.setOther bB (by simp; show 7 ≤ 64; decide) (show d ≠ l by omega) ⟨l, 5, none⟩ (.int .i64 0) rfl
  have gC : w.grownBy (((w7.drew.setCell ⟨l, 3, none⟩ (.int .u64 1)).setCell ⟨l, 4, none⟩ (.int .u64 1)).setCell ⟨l, 5, none⟩ (.int .i64 0)) (some d) :=
    grownBy_rest (grownBy_rest (grownBy_rest (grownBy_rest hG8 (grownBy_drew w7 none) (Nat.le_refl _) (fun r e => by cases e)) (setCell_grown _ ⟨l, 3, none⟩ (.int .u64 1)) (Nat.le_refl _) (fun r e => by injection e with e; subst e; exact hsl2)) (setCell_grown _ ⟨l, 4, none⟩ (.int .u64 1)) (Nat.le_refl _) (fun r e => by injection e with e; subst e; exact hsl2)) (setCell_grown _ ⟨l, 5, none⟩ (.int .i64 0)) (Nat.le_refl _) (fun r e => by injection e with e; subst e; exact hsl2)
  have a3 : w7.drew.cell? ⟨l, 3, none⟩ = some (.int .u64 1) := by rw [bl7.drew.cell]; rfl
  have a4 : (w7.drew.setCell ⟨l, 3, none⟩ (.int .u64 1)).cell? ⟨l, 4, none⟩ = some (.int .u64 1) := by rw [bA.cell]; rfl
  have a5 : ((w7.drew.setCell ⟨l, 3, none⟩ (.int .u64 1)).setCell ⟨l, 4, none⟩ (.int .u64 1)).cell? ⟨l, 5, none⟩ = some (.int .i64 0) := by rw [bB.cell]; rfl
  have x3 : w7.cell? ⟨l, 3, none⟩ = some (.int .u64 1) := by rw [bl7.cell]; rfl
  have x4 : w7.cell? ⟨l, 4, none⟩ = some (.int .u64 1) := by rw [bl7.cell]; rfl
  have x5 : w7.cell? ⟨l, 5, none⟩ = some (.int .i64 0) := by rw [bl7.cell]; rfl
  have y3 := bl7.free 3
  have y4 := bl7.free 4
  have y5 := bl7.free 5
  have f3 := bl7.drew.free 3
  have f4 := bA.free 4
  have f5 := bB.free 5
  have e1 : (((w7.drew.setCell ⟨l, 3, none⟩ (.int .u64 1)).setCell ⟨l, 4, none⟩ (.int .u64 1)).setCell ⟨l, 5, none⟩ (.int .i64 0)).cell? ⟨l, 1, none⟩ = some (.int .i64 fr) := by rw [bC.cell]; rfl
  have e3 : (((w7.drew.setCell ⟨l, 3, none⟩ (.int .u64 1)).setCell ⟨l, 4, none⟩ (.int .u64 1)).setCell ⟨l, 5, none⟩ (.int .i64 0)).cell? ⟨l + 1, 3, none⟩ = some (.int .i64 0) := by rw [hC.cell]; rfl
  have hS0 := bh7.drew
  refine RegF.start (fun W : World => BlkIs W (l + 1) 89 #[.int .u64 1, .int .u64 1, .int .i64 0, .int .i64 0]) 17 (by kernel_rfl) ?_
  refine RegF.take 0 (.pointer (some ⟨l, 0, none⟩)) rfl (by kernel_rfl) (by kernel_rfl) (by kernel_rfl) (by kernel_rfl) (fun _ _ _ h => h) hS0 (RegF.yld rfl (fun W hW => by go_simp)) ?_
  simp only [List.getElem_toArray, List.getElem_cons_zero, Act.put, List.setIfInBounds_toArray, List.set_cons_zero, List.set_cons_succ]
  refine RegF.take 1 (.pointer (some ⟨l, 0, none⟩)) rfl (by kernel_rfl) (by kernel_rfl) (by kernel_rfl) (by kernel_rfl) (fun _ _ _ h => h) hS0 (RegF.yld rfl (fun W hW => by go_simp)) ?_
  simp only [List.getElem_toArray, List.getElem_cons_succ, List.getElem_cons_zero, Act.put, List.setIfInBounds_toArray, List.set_cons_zero, List.set_cons_succ]
  refine RegF.take 2 (.pointer (some ⟨l, 0, none⟩)) rfl (by kernel_rfl) (by kernel_rfl) (by kernel_rfl) (by kernel_rfl) (fun _ _ _ h => h) hS0 (RegF.yld rfl (fun W hW => by go_simp)) ?_
  simp only [List.getElem_toArray, List.getElem_cons_succ, List.getElem_cons_zero, Act.put, List.setIfInBounds_toArray, List.set_cons_zero, List.set_cons_succ]
  refine RegF.take 3 (.pointer (some ⟨l + 1, 0, none⟩)) rfl (by kernel_rfl) (by kernel_rfl) (by kernel_rfl) (by kernel_rfl) (fun _ _ _ h => h) hS0 (RegF.yld rfl (fun W hW => by go_simp)) ?_
  simp only [List.getElem_toArray, List.getElem_cons_succ, List.getElem_cons_zero, Act.put, List.setIfInBounds_toArray, List.set_cons_zero, List.set_cons_succ]
  refine RegF.take 4 (.int .u64 1) rfl (by kernel_rfl) (by kernel_rfl) (by kernel_rfl) (by kernel_rfl) (fun _ _ _ h => h) hS0 (RegF.yld rfl (fun W hW => by have q : W.cell? ⟨l + 1, 0, none⟩ = some (.int .u64 1) := (by rw [hW.cell]; rfl); go_simp)) ?_
  simp only [List.getElem_toArray, List.getElem_cons_succ, List.getElem_cons_zero, Act.put, List.setIfInBounds_toArray, List.set_cons_zero, List.set_cons_succ]
  refine RegF.take 5 (.pointer (some ⟨l + 1, 1, none⟩)) rfl (by kernel_rfl) (by kernel_rfl) (by kernel_rfl) (by kernel_rfl) (fun _ _ _ h => h) hS0 (RegF.yld rfl (fun W hW => by go_simp)) ?_
  simp only [List.getElem_toArray, List.getElem_cons_succ, List.getElem_cons_zero, Act.put, List.setIfInBounds_toArray, List.set_cons_zero, List.set_cons_succ]
  refine RegF.take 6 (.int .u64 1) rfl (by kernel_rfl) (by kernel_rfl) (by kernel_rfl) (by kernel_rfl) (fun _ _ _ h => h) hS0 (RegF.yld rfl (fun W hW => by have q : W.cell? ⟨l + 1, 1, none⟩ = some (.int .u64 1) := (by rw [hW.cell]; rfl); go_simp)) ?_
  simp only [List.getElem_toArray, List.getElem_cons_succ, List.getElem_cons_zero, Act.put, List.setIfInBounds_toArray, List.set_cons_zero, List.set_cons_succ]
  refine RegF.take 7 (.pointer (some ⟨l + 1, 2, none⟩)) rfl (by kernel_rfl) (by kernel_rfl) (by kernel_rfl) (by kernel_rfl) (fun _ _ _ h => h) hS0 (RegF.yld rfl (fun W hW => by go_simp)) ?_
  simp only [List.getElem_toArray, List.getElem_cons_succ, List.getElem_cons_zero, Act.put, List.setIfInBounds_toArray, List.set_cons_zero, List.set_cons_succ]
  refine RegF.take 8 (.int .i64 0) rfl (by kernel_rfl) (by kernel_rfl) (by kernel_rfl) (by kernel_rfl) (fun _ _ _ h => h) hS0 (RegF.yld rfl (fun W hW => by have q : W.cell? ⟨l + 1, 2, none⟩ = some (.int .i64 0) := (by rw [hW.cell]; rfl); go_simp)) ?_
  simp only [List.getElem_toArray, List.getElem_cons_succ, List.getElem_cons_zero, Act.put, List.setIfInBounds_toArray, List.set_cons_zero, List.set_cons_succ]
  refine RegF.one 9 (by kernel_rfl) (RegF.opV (w' := w7.drew) (.pointer (some ⟨l, 0, none⟩)) rfl rfl (by go_simp) ⟨fun _ => hS0, ?_⟩)
  simp only [List.getElem_toArray, List.getElem_cons_succ, List.getElem_cons_zero, Act.put, List.setIfInBounds_toArray, List.set_cons_zero, List.set_cons_succ]
  refine RegF.one 10 (by kernel_rfl) (RegF.opV (w' := w7.drew) (.pointer (some ⟨l, 3, none⟩)) rfl rfl (by go_simp) ⟨fun _ => hS0, ?_⟩)
  simp only [List.getElem_toArray, List.getElem_cons_succ, List.getElem_cons_zero, Act.put, List.setIfInBounds_toArray, List.set_cons_zero, List.set_cons_succ]
  refine RegF.one 11 (by kernel_rfl) (RegF.opS (w' := w7.drew.setCell ⟨l, 3, none⟩ (.int .u64 1)) rfl rfl (by go_simp) ⟨fun _ => hA, ?_⟩)
  simp only [List.getElem_toArray, List.getElem_cons_succ, List.getElem_cons_zero, Act.put]
  refine RegF.one 12 (by kernel_rfl) (RegF.opV (w' := w7.drew.setCell ⟨l, 3, none⟩ (.int .u64 1)) (.pointer (some ⟨l, 0, none⟩)) rfl rfl (by go_simp) ⟨fun _ => hA, ?_⟩)
  simp only [List.getElem_toArray, List.getElem_cons_succ, List.getElem_cons_zero, Act.put, List.setIfInBounds_toArray, List.set_cons_zero, List.set_cons_succ]
  refine RegF.one 13 (by kernel_rfl) (RegF.opV (w' := w7.drew.setCell ⟨l, 3, none⟩ (.int .u64 1)) (.pointer (some ⟨l, 4, none⟩)) rfl rfl (by go_simp) ⟨fun _ => hA, ?_⟩)
  simp only [List.getElem_toArray, List.getElem_cons_succ, List.getElem_cons_zero, Act.put, List.setIfInBounds_toArray, List.set_cons_zero, List.set_cons_succ]
  refine RegF.one 14 (by kernel_rfl) (RegF.opS (w' := (w7.drew.setCell ⟨l, 3, none⟩ (.int .u64 1)).setCell ⟨l, 4, none⟩ (.int .u64 1)) rfl rfl (by go_simp) ⟨fun _ => hB, ?_⟩)
  simp only [List.getElem_toArray, List.getElem_cons_succ, List.getElem_cons_zero, Act.put]
  refine RegF.one 15 (by kernel_rfl) (RegF.opV (w' := (w7.drew.setCell ⟨l, 3, none⟩ (.int .u64 1)).setCell ⟨l, 4, none⟩ (.int .u64 1)) (.pointer (some ⟨l, 0, none⟩)) rfl rfl (by go_simp) ⟨fun _ => hB, ?_⟩)
  simp only [List.getElem_toArray, List.getElem_cons_succ, List.getElem_cons_zero, Act.put, List.setIfInBounds_toArray, List.set_cons_zero, List.set_cons_succ]
  refine RegF.one 16 (by kernel_rfl) (RegF.opV (w' := (w7.drew.setCell ⟨l, 3, none⟩ (.int .u64 1)).setCell ⟨l, 4, none⟩ (.int .u64 1)) (.pointer (some ⟨l, 5, none⟩)) rfl rfl (by go_simp) ⟨fun _ => hB, ?_⟩)
  simp only [List.getElem_toArray, List.getElem_cons_succ, List.getElem_cons_zero, Act.put, List.setIfInBounds_toArray, List.set_cons_zero, List.set_cons_succ]
  refine RegF.one 17 (by kernel_rfl) (RegF.opS (w' := ((w7.drew.setCell ⟨l, 3, none⟩ (.int .u64 1)).setCell ⟨l, 4, none⟩ (.int .u64 1)).setCell ⟨l, 5, none⟩ (.int .i64 0)) rfl rfl (by go_simp) ⟨fun h => absurd rfl h, RegF.done (by kernel_rfl) ?_⟩)
  simp only [List.getElem_toArray, List.getElem_cons_succ, List.getElem_cons_zero, Act.put]
  have HC := count_zero _ l fr (by omega) e1
  have bC2 : BlkIs (((w7.drew.setCell ⟨l, 3, none⟩ (.int .u64 1)).setCell ⟨l, 4, none⟩ (.int .u64 1)).setCell ⟨l, 5, none⟩ (.int .i64 0)) l 57 (lgC (some ⟨d, 0, none⟩) fr pg 1 1 0 none 0 0) := bC
  clear x3 x4 x5 y3 y4 y5 a3 a4 a5 f3 f4 f5 hS0 hA hB bA bB bC hC dA dB bl7 bh7 hD7 j0 hG8
  generalize ((w7.drew.setCell ⟨l, 3, none⟩ (.int .u64 1)).setCell ⟨l, 4, none⟩ (.int .u64 1)).setCell ⟨l, 5, none⟩ (.int .i64 0) = w8 at *
  go_wp2_with (go_at_call 41; refine HC.mono ?_; rintro e w' ⟨rfl, rfl⟩)
  simp only [Exit.noGoto]
  exact ⟨by simp, _, results_tmp2 rfl _ _ _, ⟨l, rfl, hsl2, dC, bC2, gC⟩⟩
end Go.Proofs.YtocnabpplbeafaaGreat
/- wal: what lies on a new log's disk. -/
namespace Go.Proofs.YtocnabpplbeafaaGreat
open Go Go.RowKit Lou

theorem LI.begun : LI (laid (fun _ => zer64) (wrL 1 (hEnc 1 1 0 0) 1)) ⟨1, 1, 0, []⟩ 0 := by
  have e : wrL 1 (hEnc 1 1 0 0) 1 = [(1, headW 1 1 0 0)] := headL_one (s := 1) (e := 1) (z := 0) (c := 0) ⟨by omega, by omega⟩ ⟨by omega, by omega⟩
  have hL : ∀ k, laid (fun _ => zer64) [(1, headW 1 1 0 0)] k = if k = 1 then headW 1 1 0 0 else zer64 := fun k => laid_one _ [] _ _ k
  rw [e]
  generalize laid (fun _ => zer64) [(1, headW 1 1 0 0)] = G at *
  have h0 : G (1 - 1 % 2) = zer64 := hL 0
  refine ⟨⟨hL 1, by decide, by decide, by decide, by decide, by decide, ?_, rfl, ⟨fun j hj => absurd hj (Nat.not_lt_zero j), fun j hj => absurd hj (Nat.not_lt_zero j), fun x hx => by cases hx⟩⟩, ?_, ?_⟩
  · intro _
    show hdS (G (1 - 1 % 2)) < 1
    rw [h0]
    decide
  · intro k
    rw [hL]
    split
    · exact headW_length _ _ _ _
    · decide
  · show hdS2 (G (1 - 1 % 2)) < 1
    rw [h0]
    decide
end Go.Proofs.YtocnabpplbeafaaGreat
/- A function that ranges over functions in a loop: it leaves with many marks among its deferred calls. -/
namespace Go.Proofs.YtocnabpplbeafaaGreat
open Go Go.RowKit Lou Go.Shelf

/-- The marks of so many blocks for deferred calls. -/
def marksD (Ds : List Nat) : List Deferred := Ds.map fun D => { target := .collected D, args := #[] }
theorem leaves_marks {F : Fence} {n : Nat} {P : Program} {fn : Func} {tmps : Array Value} {R : Ending → World → Prop} (K : World → Prop) : ∀ (Ds : List Nat) (w : World), Ds.Nodup → (∀ D ∈ Ds, w.heap[D]? = some (.deferred (some []))) →
    (∀ D ∈ Ds, ∀ V, K V → V.heap[D]? = some (.deferred (some [])) → K (V.putObj D (.deferred none))) → K w →
    (∀ w', K w' → LeavesIn F n P fn tmps R [] .returning w') → LeavesInM F n P fn tmps R (marksD Ds) .returning w
  | [], w, _, _, _, hw, h => h w hw
  | D :: Ds, w, hn, hD, hK, hw, h => by
    rw [List.nodup_cons] at hn
    refine ⟨by simp, .inl ⟨D, w.putObj D (.deferred none), rfl, run_takeDeferred (hD D (by simp)), leaves_marks K Ds _ hn.2 (fun E hE => ?_) (fun E hE => hK E (by simp [hE])) (hK D (by simp) w hw (hD D (by simp))) h⟩⟩
    rw [putObj_oth _ _ _ (fun e => hn.1 (by rw [e]; exact hE))]
    exact hD E (by simp [hE])
end Go.Proofs.YtocnabpplbeafaaGreat
/- loupelaw07: page, num. -/
namespace Go.Proofs.YtocnabpplbeafaaGreat
open Go Go.RowKit Lou

theorem num7_gives (e : Int) (w : World) : Calls Tryz.prog 30 #[.int .i64 e] w fun x w' => x = .returned (.int .i64 e) ∧ w = w' := by
  go_enter Tryz.func30, Tryz.ntmps30
  go_wp2
  go_ret
  exact ⟨rfl, rfl⟩
set_option maxRecDepth 100000 in
set_option maxHeartbeats 2000000 in
theorem page7_gives (w : World) (v : UInt8) : Calls Tryz.prog 65 #[.int .u8 (v.toNat : Int)] w (GivesB w (pgL v)) := by
  have hv := v.toNat_lt
  have hu : UInt8.ofNat v.toNat = v := by simp
  obtain ⟨F, hF⟩ : ∃ F : Nat → List UInt8, F = fun k => List.replicate k v ++ List.replicate (512 - k) 0 := ⟨_, rfl⟩
  have hF0 : F 0 = List.replicate 512 0 := by rw [hF]; rfl
  have hFn : F 512 = pgL v := by rw [hF]; simp [pgL]
  have hFs : Hid (∀ k, k < 512 → (F k).set k (UInt8.ofNat v.toNat) = F (k + 1)) := Lib.hid (by rw [hF, hu]; exact fun k h => fill_nextP v k h)
  have hFl : Hid (∀ k, k ≤ 512 → (F k).length = 512) := Lib.hid (by rw [hF]; intro k h; simp; omega)
  obtain ⟨x, hx⟩ : ∃ x, x = v.toNat := ⟨_, rfl⟩
  rw [← hx] at hFs hv ⊢
  rw [← hFn]
  clear hF hu hx hFn
  go_enter Tryz.func65, Tryz.ntmps65
  go_wp2_with (refine wp_makeB rfl _ _ rfl w.heap.size .i64 .i64 512 rfl rfl (by omega) (Nat.le_refl _) ?_; intro w1 own1 hg1; have hB1 : Below w.heap.size w w1 := grown_below hg1 (Nat.le_refl _) (fun r hr => by cases hr))
  rw [← hF0] at own1
  have hgw : w.heap.size < w1.heap.size := by
    rcases own1.form with ⟨h1, _⟩ | ⟨g', cap', h1, h2, h3, h4⟩
    · cases h1
    · exact ownG_lt own1 w.heap.size rfl
  clear hF0
  go_loopw [4] (fun i wr => ∃ k : Nat, k ≤ 512 ∧ i = .int .i64 k ∧ OwnB wr w.heap.size (.slice (some ⟨w.heap.size, 0, none⟩) 512 512) (F k) ∧ Below w.heap.size w wr) (fun i _ => 512 - (intOf i).toNat)
  case atStart => exact ⟨0, by omega, rfl, own1, hB1⟩
  case round =>
    obtain ⟨k, hk, rfl, ownr, hBr⟩ := hrel
    by_cases hlt : k < 512
    · have hwk : IntKind.i64.wrap ((k : Int) + 1) = (k : Int) + 1 := wrap_i64_fr _ (by omega) (by omega)
      have hc := ownr.cell k (by rw [hFl.out k hk]; exact hlt)
      have hfz := ownr.free k
      have own2 := ownr.set k x hv
      rw [hFs.out k hlt] at own2
      go_wp2
      exact ⟨⟨k + 1, by omega, by simp, own2, hBr.setCell (p := ⟨w.heap.size, k, none⟩) (Nat.le_refl _) _⟩, by simp [intOf]; omega⟩
    · obtain rfl : k = 512 := by omega
      go_wp2
      go_ret
      exact ⟨_, rfl, ownr, hBr⟩
end Go.Proofs.YtocnabpplbeafaaGreat
/- loupelaw07: writes. -/
namespace Go.Proofs.YtocnabpplbeafaaGreat
open Go Go.RowKit Lou

set_option maxRecDepth 100000 in
set_option maxHeartbeats 8000000 in
theorem writes7_gives (w : World) (what size : Int) (Ap : Option Addr) (cp : Nat) (ps : List Int) (Ab : Option Addr) (cb : Nat) (bs : List UInt8) (Ak : Option Addr) (nk ck : Nat) (hp : InG w w.heap.size 1 Ap ps.length cp (ps.map (Value.int .i64))) (hb : InB w w.heap.size Ab cb bs) (hl : ps.length ≤ 1000) :
    Calls Tryz.prog 32 #[.agg #[.int .i64 what, .int .i64 size, .slice Ap ps.length cp, .slice Ab bs.length cb, .slice Ak nk ck]] w (WrsOut ps bs w) := by
  obtain ⟨W0, hW0⟩ : ∃ W0, W0 = w.alloc (.cells #[.int .i64 what, .int .i64 size, .slice Ap ps.length cp, .slice Ab bs.length cb, .slice Ak nk ck] 73) := ⟨_, rfl⟩
  have hB0 : Below w.heap.size w W0 := by rw [hW0]; exact (Below.refl _ w).alloc (Nat.le_refl _) _
  have b0 : BlkIs W0 w.heap.size 73 #[.int .i64 what, .int .i64 size, .slice Ap ps.length cp, .slice Ab bs.length cb, .slice Ak nk ck] := by rw [hW0]; exact BlkIs.new w _ _
  go_enter Tryz.func32, Tryz.ntmps32
  go_wp2
  rw [← hW0]
  clear hW0
  go_loopw [4, 3] (fun i v wr => PwRel W0.heap.size ps bs i v W0 wr) (fun i _ _ => ps.length - (intOf i).toNat)
  case atStart => exact ⟨0, by omega, rfl, Below.refl _ _, [], rfl, World.ownsRow_nil _ _ _ _, fun j h => absurd h (Nat.not_lt_zero j)⟩
  case round =>
    obtain ⟨k, hk, rfl, hB, vk, hvl, own, hvk⟩ := hrel
    have br := b0.below hB b0.lt
    have k2 : wr.cell? ⟨w.heap.size, 2, none⟩ = some (.slice Ap ps.length cp) := by rw [br.cell]; rfl
    by_cases hlt : k < ps.length
    · obtain ⟨gp, op, rfl, hgp, hrp⟩ := hp.lies (by omega)
      have hBW := hB0.trans (hB.mono hB0.size)
      have kp : ∀ W, Below W0.heap.size W0 W → W.cell? ⟨gp, op + k, none⟩ = some (.int .i64 (ps.getD k 0)) := fun W hW => by
        refine ((hB0.trans (hW.mono hB0.size)).cell (p := ⟨gp, op + k, none⟩) hgp).trans (hrp k _ ?_)
        rw [List.getElem?_map, List.getElem?_eq_getElem hlt, List.getD_eq_getElem?_getD, List.getElem?_eq_getElem hlt]
        rfl
      have hwk : IntKind.i64.wrap ((k : Int) + 1) = (k : Int) + 1 := wrap_i64_fr _ (by omega) (by omega)
      have k3 : wr.cell? ⟨w.heap.size, 3, none⟩ = some (.slice Ab bs.length cb) := by rw [br.cell]; rfl
      have T2 : ∀ W, Below W0.heap.size W0 W → W.cell? ⟨w.heap.size, 2, none⟩ = some (.slice (some ⟨gp, op, none⟩) ps.length cp) := fun W hW => by rw [(b0.below hW b0.lt).cell]; rfl
      have HPG : ∀ W, Calls Tryz.prog 65 #[.int .u8 ((bs.getD k 0).toNat : Int)] W fun e w' => ∃ A c, e = .returned (.slice A 512 c) ∧ InB w' w'.heap.size A c (pgL (bs.getD k 0)) ∧ TyB w' A ∧ Below W.heap.size W w' := fun W => by
        refine (page7_gives W (bs.getD k 0)).mono ?_
        rintro e w' ⟨v, rfl, own, hBc⟩
        have hty := ownG_ty own
        obtain ⟨A, c, rfl, hin⟩ := own.inB
        exact ⟨A, c, by simp [pgL], hin, fun g o e => by subst e; exact hty g rfl, hBc⟩
      have hS0 : Below W0.heap.size W0 wr.drew := hB.drew
      have hSr : Below wr.heap.size wr wr.drew := (Below.refl _ _).drew
      have HVL := Lib.hid hvl
      have hwl := hB.size
      obtain ⟨Av, cv, rfl, hinv⟩ := ownG_in own (pwsC_one vk)
      clear hvl hp hrp
      by_cases hbk : k < bs.length
      case' pos =>
        obtain ⟨gb, ob, rfl, hgb, hrb⟩ := hb.lies (by omega)
        have kb : wr.cell? ⟨gb, ob + k, none⟩ = some (.int .u8 ((bs.getD k 0).toNat : Int)) := by
          rw [List.getD_eq_getElem?_getD, List.getElem?_eq_getElem hbk]
          exact (hBW.cell (p := ⟨gb, ob + k, none⟩) hgb).trans (hrb k hbk)
        generalize hc : bs.getD k 0 = C at *
        have HC := Lib.hid hc
        clear hrb hc
        go_wp2
        refine RegF.start (fun W => Below W0.heap.size W0 W) 99 (by kernel_rfl) ?_
        refine RegF.take0 0 (.slice Av k cv) rfl (by kernel_rfl) (by kernel_rfl) (by kernel_rfl) rfl (fun _ _ _ h => h) hS0 (RegF.yld rfl (fun W hW => by go_simp)) ?_
        simp only [List.getElem_toArray, List.getElem_cons_zero, Act.put, List.setIfInBounds_toArray, List.set_cons_zero, List.set_cons_succ]
        refine RegF.take0 1 (.pointer (some ⟨w.heap.size, 2, none⟩)) rfl (by kernel_rfl) (by kernel_rfl) (by kernel_rfl) rfl (fun _ _ _ h => h) hS0 (RegF.yld rfl (fun W hW => by go_simp)) ?_
        simp only [List.getElem_toArray, List.getElem_cons_succ, List.getElem_cons_zero, Act.put, List.setIfInBounds_toArray, List.set_cons_zero, List.set_cons_succ]
        refine RegF.take0 2 (.slice (some ⟨gp, op, none⟩) ps.length cp) rfl (by kernel_rfl) (by kernel_rfl) (by kernel_rfl) rfl (fun _ _ _ h => h) hS0 (RegF.yld rfl (fun W hW => by have q := T2 W hW; go_simp)) ?_
        simp only [List.getElem_toArray, List.getElem_cons_succ, List.getElem_cons_zero, Act.put, List.setIfInBounds_toArray, List.set_cons_zero, List.set_cons_succ]
        refine RegF.take0 3 (.int .i64 (k : Int)) rfl (by kernel_rfl) (by kernel_rfl) (by kernel_rfl) rfl (fun _ _ _ h => h) hS0 (RegF.yld rfl (fun W hW => by go_simp)) ?_
        simp only [List.getElem_toArray, List.getElem_cons_succ, List.getElem_cons_zero, Act.put, List.setIfInBounds_toArray, List.set_cons_zero, List.set_cons_succ]
        refine RegF.take0 4 (.pointer (some ⟨gp, op + k, none⟩)) rfl (by kernel_rfl) (by kernel_rfl) (by kernel_rfl) rfl (fun _ _ _ h => h) hS0 (RegF.yld rfl (fun W hW => by go_simp)) ?_
        simp only [List.getElem_toArray, List.getElem_cons_succ, List.getElem_cons_zero, Act.put, List.setIfInBounds_toArray, List.set_cons_zero, List.set_cons_succ]
        refine RegF.take0 5 (.int .i64 (ps.getD k 0)) rfl (by kernel_rfl) (by kernel_rfl) (by kernel_rfl) rfl (fun _ _ _ h => h) hS0 (RegF.yld rfl (fun W hW => by have q := kp W hW; go_simp)) ?_
        simp only [List.getElem_toArray, List.getElem_cons_succ, List.getElem_cons_zero, Act.put, List.setIfInBounds_toArray, List.set_cons_zero, List.set_cons_succ]
        refine RegF.take0 6 (.int .u8 (C.toNat : Int)) rfl (by kernel_rfl) (by kernel_rfl) (by kernel_rfl) rfl (fun _ _ _ h => h) hS0 (RegF.yld rfl (fun W hW => by go_simp)) ?_
        simp only [List.getElem_toArray, List.getElem_cons_succ, List.getElem_cons_zero, Act.put, List.setIfInBounds_toArray, List.set_cons_zero, List.set_cons_succ]
      case' neg =>
        have hc0 : bs.getD k 0 = 0 := by rw [List.getD_eq_getElem?_getD, List.getElem?_eq_none (by omega)]; rfl
        rw [hc0] at HPG
        have HC := Lib.hid hc0
        have h00 : ((0 : UInt8).toNat : Int) = 0 := rfl
        rw [h00] at HPG
        clear hc0
        go_wp2
        refine RegF.start (fun W => Below W0.heap.size W0 W) 99 (by kernel_rfl) ?_
        refine RegF.take0 0 (.slice Av k cv) rfl (by kernel_rfl) (by kernel_rfl) (by kernel_rfl) rfl (fun _ _ _ h => h) hS0 (RegF.yld rfl (fun W hW => by go_simp)) ?_
        simp only [List.getElem_toArray, List.getElem_cons_zero, Act.put, List.setIfInBounds_toArray, List.set_cons_zero, List.set_cons_succ]
        refine RegF.take0 1 (.pointer (some ⟨w.heap.size, 2, none⟩)) rfl (by kernel_rfl) (by kernel_rfl) (by kernel_rfl) rfl (fun _ _ _ h => h) hS0 (RegF.yld rfl (fun W hW => by go_simp)) ?_
        simp only [List.getElem_toArray, List.getElem_cons_succ, List.getElem_cons_zero, Act.put, List.setIfInBounds_toArray, List.set_cons_zero, List.set_cons_succ]
        refine RegF.take0 2 (.slice (some ⟨gp, op, none⟩) ps.length cp) rfl (by kernel_rfl) (by kernel_rfl) (by kernel_rfl) rfl (fun _ _ _ h => h) hS0 (RegF.yld rfl (fun W hW => by have q := T2 W hW; go_simp)) ?_
        simp only [List.getElem_toArray, List.getElem_cons_succ, List.getElem_cons_zero, Act.put, List.setIfInBounds_toArray, List.set_cons_zero, List.set_cons_succ]
        refine RegF.take0 3 (.int .i64 (k : Int)) rfl (by kernel_rfl) (by kernel_rfl) (by kernel_rfl) rfl (fun _ _ _ h => h) hS0 (RegF.yld rfl (fun W hW => by go_simp)) ?_
        simp only [List.getElem_toArray, List.getElem_cons_succ, List.getElem_cons_zero, Act.put, List.setIfInBounds_toArray, List.set_cons_zero, List.set_cons_succ]
        refine RegF.take0 4 (.pointer (some ⟨gp, op + k, none⟩)) rfl (by kernel_rfl) (by kernel_rfl) (by kernel_rfl) rfl (fun _ _ _ h => h) hS0 (RegF.yld rfl (fun W hW => by go_simp)) ?_
        simp only [List.getElem_toArray, List.getElem_cons_succ, List.getElem_cons_zero, Act.put, List.setIfInBounds_toArray, List.set_cons_zero, List.set_cons_succ]
        refine RegF.take0 5 (.int .i64 (ps.getD k 0)) rfl (by kernel_rfl) (by kernel_rfl) (by kernel_rfl) rfl (fun _ _ _ h => h) hS0 (RegF.yld rfl (fun W hW => by have q := kp W hW; go_simp)) ?_
        simp only [List.getElem_toArray, List.getElem_cons_succ, List.getElem_cons_zero, Act.put, List.setIfInBounds_toArray, List.set_cons_zero, List.set_cons_succ]
        refine RegF.take0 6 (.int .u8 0) rfl (by kernel_rfl) (by kernel_rfl) (by kernel_rfl) rfl (fun _ _ _ h => h) hS0 (RegF.yld rfl (fun W hW => by go_simp)) ?_
        simp only [List.getElem_toArray, List.getElem_cons_succ, List.getElem_cons_zero, Act.put, List.setIfInBounds_toArray, List.set_cons_zero, List.set_cons_succ]
      all_goals
        refine RegF.one 7 (by kernel_rfl) ?_
        refine RegF.opC 65 #[.tmp 29] #[5] rfl rfl rfl (enters_of Tryz.func65 (by kernel_rfl) rfl) _ (by simp only [List.map_toArray, List.map_cons, List.map_nil]; rfl) ((HPG _).mono ?_)
        rintro e w7 ⟨A7, c7, rfl, hin7, hty7, hB7⟩
        have hB7w : Below W0.heap.size W0 w7 := hS0.trans (hB7.mono hS0.size)
        have hB7r : Below wr.heap.size wr w7 := hSr.trans (hB7.mono hSr.size)
        refine ⟨_, rfl, fun _ => hB7w, ?_⟩
        simp only [List.getElem_toArray, List.getElem_cons_succ, List.getElem_cons_zero, Act.put, List.setIfInBounds_toArray, List.set_cons_zero, List.set_cons_succ]
        refine RegF.take0 8 (.agg #[.int .i64 (ps.getD k 0), .slice A7 512 c7]) rfl (by kernel_rfl) (by kernel_rfl) (by kernel_rfl) rfl (fun _ _ _ h => h) hB7w (RegF.yld rfl (fun W hW => by go_simp)) ?_
        simp only [List.getElem_toArray, List.getElem_cons_succ, List.getElem_cons_zero, Act.put, List.setIfInBounds_toArray, List.set_cons_zero, List.set_cons_succ]
        have in8 : InG (w7.alloc (.cells (pwC (ps.getD k 0, A7, c7)).toArray 80)) (w7.alloc (.cells (pwC (ps.getD k 0, A7, c7)).toArray 80)).heap.size 2 (some ⟨w7.heap.size, 0, none⟩) 1 1 (pwC (ps.getD k 0, A7, c7)) :=
          ⟨Nat.le_refl _, by omega, (fun e => by cases e), rfl, (by intro v hv; simp [pwC] at hv; rcases hv with rfl | rfl <;> rfl), fun _ => ⟨w7.heap.size, 0, rfl, by simp, fun j v hj => by
            rw [(BlkIs.new w7 80 (pwC (ps.getD k 0, A7, c7)).toArray).cell, Nat.zero_add]
            simpa using hj⟩⟩
        have hBL : Below w7.heap.size w7 (w7.alloc (.cells (pwC (ps.getD k 0, A7, c7)).toArray 80)) := (Below.refl _ _).alloc (Nat.le_refl _) _
        have hB8 : Below W0.heap.size W0 (w7.alloc (.cells (pwC (ps.getD k 0, A7, c7)).toArray 80)) := hB7w.alloc hB7w.size _
        have own8 := ownG_grow (ownG_grow own hB7r) hBL
        refine RegF.one 9 (by kernel_rfl) (RegF.opV (w' := w7.alloc (.cells (pwC (ps.getD k 0, A7, c7)).toArray 80)) (.slice (some ⟨w7.heap.size, 0, none⟩) 1 1) rfl rfl (by unfold pwC; go_simp) ⟨fun _ => hB8, ?_⟩)
        simp only [List.getElem_toArray, List.getElem_cons_succ, List.getElem_cons_zero, Act.put, List.setIfInBounds_toArray, List.set_cons_zero, List.set_cons_succ]
        generalize w7.alloc (.cells (pwC (ps.getD k 0, A7, c7)).toArray 80) = w8 at *
        refine RegF.one 10 (by kernel_rfl) ?_
        refine opApp rfl rfl elPW (.tmp 23) (.tmp 32) rfl W0.heap.size (.slice Av k cv) k (pwsC vk) rfl own8 _ _ 1 1 (pwC (ps.getD k 0, A7, c7)) rfl in8 (by unfold maxLen; omega) (by omega) hB8.size ?_
        intro v9 w9 own9 hg9
        have hB9 : Below W0.heap.size W0 w9 := hB8.trans (grown_below hg9 hB8.size (ownG_ge own8))
        have G9 : GrowBut (fun g => (Value.slice Av k cv).ownBlock = some g) w7 w9 := (GrowBut.below hBL).trans (GrowBut.grown hg9 (fun r e => .inl e))
        have G9r : GrowBut (fun g => (Value.slice Av k cv).ownBlock = some g) wr w9 := (GrowBut.below hB7r).trans G9
        have hMu : ∀ (W : World) g cs, W.ownsRow W0.heap.size 80 2 (.slice Av k cv) k (pwsC vk) → BlkIs W g 5 cs → ¬ (Value.slice Av k cv).ownBlock = some g := fun W g cs ho hb h => by
          obtain ⟨cur, hcur⟩ := ownG_ty ho g h
          exact BlkIs.ne_type hcur hb (by decide) rfl
        have hnew : (ps.getD k 0, A7, c7).1 = ps.getD k 0 ∧ InB w9 w9.heap.size A7 c7 (pgL (bs.getD k 0)) ∧ TyB w9 A7 := by
          have h := keepB G9 hin7 hty7 (fun g cs hb => hMu w7 g cs (ownG_grow own hB7r) hb)
          rw [HC.out]
          exact ⟨rfl, h⟩
        have hold : ∀ j (h : j < vk.length), vk[j].1 = ps.getD j 0 ∧ InB w9 w9.heap.size vk[j].2.1 vk[j].2.2 (pgL (bs.getD j 0)) ∧ TyB w9 vk[j].2.1 := fun j h => by
          obtain ⟨h1, h2, h3⟩ := hvk j h
          exact ⟨h1, keepB G9r h2 h3 (fun g cs hb => hMu wr g cs own hb)⟩
        rw [← pwsC_snoc] at own9
        refine ⟨fun _ => hB9, ?_⟩
        simp only [List.getElem_toArray, List.getElem_cons_succ, List.getElem_cons_zero, Act.put, List.setIfInBounds_toArray, List.set_cons_zero, List.set_cons_succ]
        refine RegF.one 11 (by kernel_rfl) (RegF.opV (w' := w9) v9 rfl rfl (by go_simp) ⟨fun _ => hB9, RegF.done (by kernel_rfl) ?_⟩)
        simp only [List.getElem_toArray, List.getElem_cons_succ, List.getElem_cons_zero, Act.put, List.setIfInBounds_toArray, List.set_cons_zero, List.set_cons_succ]
        obtain ⟨A9, c9, rfl, _⟩ := ownG_in own9 (pwsC_one _)
        have hall : ∀ j (h : j < (vk ++ [(ps.getD k 0, A7, c7)]).length), (vk ++ [(ps.getD k 0, A7, c7)])[j].1 = ps.getD j 0 ∧ InB w9 w9.heap.size (vk ++ [(ps.getD k 0, A7, c7)])[j].2.1 (vk ++ [(ps.getD k 0, A7, c7)])[j].2.2 (pgL (bs.getD j 0)) ∧ TyB w9 (vk ++ [(ps.getD k 0, A7, c7)])[j].2.1 := fun j h => by
          by_cases hj : j < vk.length
          · rw [List.getElem_append_left hj]
            exact hold j hj
          · have hv := HVL.out
            have hj2 : j = vk.length := by rw [List.length_append, List.length_singleton] at h; omega
            subst hj2
            rw [List.getElem_append_right (Nat.le_refl _)]
            simp only [Nat.sub_self, List.getElem_cons_zero]
            rw [hv]
            exact hnew
        clear T2 kp HPG hS0 hSr hMu G9 G9r hold hnew own own8 hin7 hty7 hinv in8
        go_wp2
        exact ⟨⟨k + 1, by omega, by simp, hB9, vk ++ [(ps.getD k 0, A7, c7)], by rw [List.length_append, HVL.out]; rfl, own9, hall⟩, by simp [intOf]; omega⟩
    · have hkn : k = ps.length := by omega
      have HVL := Lib.hid hvl
      have HKN := Lib.hid hkn
      obtain ⟨Av, cv, rfl, hin⟩ := ownG_in own (pwsC_one vk)
      clear hvl hkn hp hb br
      go_wp2
      go_ret
      have hkn := HKN.out
      subst hkn
      have hvl := HVL.out
      have hx : ∀ j (h : j < ps.length), vk.getD j (0, none, 0) = vk[j]'(by omega) := fun j h => by rw [List.getD_eq_getElem?_getD, List.getElem?_eq_getElem (by omega)]; rfl
      refine ⟨Av, cv, fun j => vk.getD j (0, none, 0), rfl, fun h1 => ?_, fun j hj => ?_, hB0.trans (hB.mono hB0.size), fun g o e => Nat.le_trans hB0.size (ownG_ge own g (by rw [e]; rfl)), fun j hj => ?_⟩
      · obtain ⟨g, o, e, hg, hr⟩ := hin.lies (by omega)
        refine ⟨g, o, e, fun j hj q v hq => ?_, hg⟩
        have hq2 : (pwC (vk[j]'(by omega)))[q]? = some v := by rw [← hx j hj]; exact hq
        have := hr (j * 2 + q) v (pwsC_get vk j (by omega) q v hq2)
        rw [show o + j * 2 + q = o + (j * 2 + q) by omega]
        exact this
      · obtain ⟨h1, h2, _⟩ := hvk j (by omega)
        simp only [hx j hj]
        exact ⟨h1.symm, by simp [pwOf, pgL], h2⟩
      · obtain ⟨_, _, h3⟩ := hvk j (by omega)
        simp only [hx j hj]
        exact h3
end Go.Proofs.YtocnabpplbeafaaGreat
/- loupelaw07: rows of acts; small. -/
namespace Go.Proofs.YtocnabpplbeafaaGreat
open Go Go.RowKit Lou

theorem rowAc7 : RowTy Tryz.prog 73 5 := ⟨⟨_, Tryz.underlying73, rfl⟩, by kernel_rfl⟩
/-- Small enough. -/
def SmallP7 (fr pg : Int) (xs : List AcV) (most : Nat) : Prop := (∀ x ∈ xs, x.ps.length ≤ 6 ∧ x.ks.length ≤ 120) ∧ planOk fr pg = true ∧ fr ≤ 5 ∧ pg ≤ 4 ∧ xs.length ≤ most
set_option maxRecDepth 100000 in
set_option maxHeartbeats 4000000 in
theorem small7_gives (w : World) (fr pg : Int) (A : Option Addr) (c : Nat) (xs : List AcV) (h : InG w w.heap.size 5 A xs.length c (acsV xs)) (hl : xs.length ≤ 9223372036854775807) (most : Nat) :
    Calls Tryz.prog 27 #[.agg #[.int .i64 fr, .int .i64 pg], .slice A xs.length c, .int .i64 (most : Int)] w (SmallR w (SmallP7 fr pg xs most)) := by
  have HF : Hid (SmallP7 fr pg xs most ↔ ((∀ x ∈ xs, x.ps.length ≤ 6 ∧ x.ks.length ≤ 120) ∧ planOk fr pg = true ∧ fr ≤ 5 ∧ pg ≤ 4 ∧ xs.length ≤ most)) := Lib.hid Iff.rfl
  generalize SmallP7 fr pg xs most = PF at *
  obtain ⟨W0, hW0⟩ : ∃ W0, W0 = w.alloc (.cells #[.int .i64 fr, .int .i64 pg] 23) := ⟨_, rfl⟩
  have hB0 : Below w.heap.size w W0 := by rw [hW0]; exact (Below.refl _ w).alloc (Nat.le_refl _) _
  have b0 : BlkIs W0 w.heap.size 23 #[.int .i64 fr, .int .i64 pg] := by rw [hW0]; exact BlkIs.new w _ _
  have h0 := h.below hB0
  go_enter Tryz.func27, Tryz.ntmps27
  go_wp2
  rw [← hW0]
  clear hW0
  go_loopw [7] (fun i wr => ∃ k : Nat, k ≤ xs.length ∧ i = .int .i64 (k : Int) ∧ Hid (∀ j, (hj : j < xs.length) → j < k → xs[j].ps.length ≤ 6 ∧ xs[j].ks.length ≤ 120) ∧ wr = W0) (fun i _ => xs.length - (intOf i).toNat)
  case atStart => exact ⟨0, by omega, rfl, Lib.hid (fun j _ h => by omega), rfl⟩
  case round =>
    obtain ⟨k, hk, rfl, HA, rfl⟩ := hrel
    by_cases hlt : k < xs.length
    · obtain ⟨g, o, rfl, hg, _⟩ := h0.lies (by omega)
      have hr := h0.elem k hlt
      rw [acsV_elem xs k hlt] at hr
      have d2 : wr.cell? ⟨g, o + k * 5 + 2, none⟩ = some (.slice xs[k].P xs[k].ps.length xs[k].pc) := hr 2 _ rfl
      have d4 : wr.cell? ⟨g, o + k * 5 + 4, none⟩ = some (.slice xs[k].K xs[k].ks.length xs[k].kc) := hr 4 _ rfl
      have hwk : IntKind.i64.wrap ((k : Int) + 1) = (k : Int) + 1 := wrap_i64_fr _ (by omega) (by omega)
      by_cases h6 : xs[k].ps.length ≤ 6
      · have h6' : ¬ (6 : Int) < (xs[k].ps.length : Int) := by omega
        by_cases h80 : xs[k].ks.length ≤ 120
        · have HN : Hid (∀ j, (hj : j < xs.length) → j < k + 1 → xs[j].ps.length ≤ 6 ∧ xs[j].ks.length ≤ 120) := Lib.hid (fun j hj h1 => by
            by_cases e : j = k
            · subst e; exact ⟨h6, h80⟩
            · exact HA.out j hj (by omega))
          have h80' : ¬ (120 : Int) < (xs[k].ks.length : Int) := by omega
          clear hr
          generalize xs[k] = x at *
          go_wp2
          exact ⟨⟨k + 1, by omega, by simp, HN, by first | rfl | trivial⟩, by simp [intOf]; omega⟩
        · have HN : Hid (¬ PF) := Lib.hid (fun hP => h80 ((HF.out.1 hP).1 _ (List.getElem_mem hlt)).2)
          have h80' : (120 : Int) < (xs[k].ks.length : Int) := by omega
          clear hr
          generalize xs[k] = x at *
          go_wp2
          go_ret
          exact SmallR.no rfl hB0 HN.out
      · have HN : Hid (¬ PF) := Lib.hid (fun hP => h6 ((HF.out.1 hP).1 _ (List.getElem_mem hlt)).1)
        have h6' : (6 : Int) < (xs[k].ps.length : Int) := by omega
        clear hr
        generalize xs[k] = x at *
        go_wp2
        go_ret
        exact SmallR.no rfl hB0 HN.out
    · obtain rfl : k = xs.length := by omega
      have HAll : Hid (∀ x ∈ xs, x.ps.length ≤ 6 ∧ x.ks.length ≤ 120) := Lib.hid (fun x hx => by
        obtain ⟨j, hj, rfl⟩ := List.getElem_of_mem hx
        exact HA.out j hj hj)
      have hR := refRight_gives (fr := fr) (pg := pg) wr
      have hP : ∀ b, planOk fr pg = b → Hid (PF ↔ (b = true ∧ fr ≤ 5 ∧ pg ≤ 4 ∧ xs.length ≤ most)) := fun b hb => Lib.hid (HF.out.trans ⟨fun h => ⟨hb ▸ h.2.1, h.2.2⟩, fun h => ⟨HAll.out, hb ▸ h.1, h.2⟩⟩)
      have hE : ∀ {w2 : World}, Below wr.heap.size wr w2 → Below w.heap.size w w2 := fun {w2} hB => hB0.trans (hB.mono hB0.size)
      generalize planOk fr pg = b at *
      have HP := hP b rfl
      clear hP HF HA h h0
      cases b
      · go_wp2_with (first
          | (refine wp_loadW rfl 23 (.tmp 3) rfl w.heap.size rfl rowPlan b0 rfl ?_)
          | (go_at_call 20; refine hR.mono ?_; rintro e w2 ⟨rfl, hB2⟩; have b2 := b0.below hB2 b0.lt; have q0 : w2.cell? ⟨w.heap.size, 0, none⟩ = some (.int .i64 fr) := (by rw [b2.cell]; rfl); have q1 : w2.cell? ⟨w.heap.size, 1, none⟩ = some (.int .i64 pg) := (by rw [b2.cell]; rfl)))
        go_ret
        exact SmallR.no rfl (hE hB2) (fun h => absurd (HP.out.1 h).1 (by decide))
      · by_cases g1 : fr ≤ 5
        · by_cases g2 : pg ≤ 4
          · by_cases g3 : xs.length ≤ most
            · have g3' : (xs.length : Int) ≤ (most : Int) := by omega
              go_wp2_with (first
                | (refine wp_loadW rfl 23 (.tmp 3) rfl w.heap.size rfl rowPlan b0 rfl ?_)
                | (go_at_call 20; refine hR.mono ?_; rintro e w2 ⟨rfl, hB2⟩; have b2 := b0.below hB2 b0.lt; have q0 : w2.cell? ⟨w.heap.size, 0, none⟩ = some (.int .i64 fr) := (by rw [b2.cell]; rfl); have q1 : w2.cell? ⟨w.heap.size, 1, none⟩ = some (.int .i64 pg) := (by rw [b2.cell]; rfl)))
              go_ret
              exact SmallR.yes (by simp [g3]) (hE hB2) (HP.out.2 (by first | exact ⟨rfl, g1, g2, g3⟩ | exact ⟨trivial, g1, g2, g3⟩ | exact ⟨g1, g2, g3⟩))
            · have g3' : ¬ (xs.length : Int) ≤ (most : Int) := by omega
              go_wp2_with (first
                | (refine wp_loadW rfl 23 (.tmp 3) rfl w.heap.size rfl rowPlan b0 rfl ?_)
                | (go_at_call 20; refine hR.mono ?_; rintro e w2 ⟨rfl, hB2⟩; have b2 := b0.below hB2 b0.lt; have q0 : w2.cell? ⟨w.heap.size, 0, none⟩ = some (.int .i64 fr) := (by rw [b2.cell]; rfl); have q1 : w2.cell? ⟨w.heap.size, 1, none⟩ = some (.int .i64 pg) := (by rw [b2.cell]; rfl)))
              go_ret
              exact SmallR.no (by simp [g3]) (hE hB2) (fun h => absurd (HP.out.1 h).2.2.2 g3)
          · go_wp2_with (first
              | (refine wp_loadW rfl 23 (.tmp 3) rfl w.heap.size rfl rowPlan b0 rfl ?_)
              | (go_at_call 20; refine hR.mono ?_; rintro e w2 ⟨rfl, hB2⟩; have b2 := b0.below hB2 b0.lt; have q0 : w2.cell? ⟨w.heap.size, 0, none⟩ = some (.int .i64 fr) := (by rw [b2.cell]; rfl); have q1 : w2.cell? ⟨w.heap.size, 1, none⟩ = some (.int .i64 pg) := (by rw [b2.cell]; rfl)))
            go_ret
            exact SmallR.no rfl (hE hB2) (fun h => absurd (HP.out.1 h).2.2.1 (by omega))
        · go_wp2_with (first
            | (refine wp_loadW rfl 23 (.tmp 3) rfl w.heap.size rfl rowPlan b0 rfl ?_)
            | (go_at_call 20; refine hR.mono ?_; rintro e w2 ⟨rfl, hB2⟩; have b2 := b0.below hB2 b0.lt; have q0 : w2.cell? ⟨w.heap.size, 0, none⟩ = some (.int .i64 fr) := (by rw [b2.cell]; rfl); have q1 : w2.cell? ⟨w.heap.size, 1, none⟩ = some (.int .i64 pg) := (by rw [b2.cell]; rfl)))
          go_ret
          exact SmallR.no rfl (hE hB2) (fun h => absurd (HP.out.1 h).2.1 (by omega))
end Go.Proofs.YtocnabpplbeafaaGreat
/- loupelaw05.FramePlaces: the walk. -/
namespace Go.Proofs.YtocnabpplbeafaaGreat
open Go Go.RowKit Lou

section
variable (fr pg n : Int)
set_option maxRecDepth 100000 in
set_option maxHeartbeats 1000000 in
theorem refSectors_gives (w : World) (h1 : 1 ≤ fr ∧ fr ≤ 2000) (h2 : 1 ≤ pg ∧ pg ≤ 2000) : Calls Tryz.prog 10 #[.agg #[.int .i64 fr, .int .i64 pg]] w fun e w' => e = .returned (.int .i64 (2 + 9 * fr + 8 * pg)) ∧ Below w.heap.size w w' := by
  have e1 : IntKind.i64.wrap (9 * fr) = 9 * fr := wrap_i64_fr _ (by omega) (by omega)
  have e2 : IntKind.i64.wrap (2 + 9 * fr) = 2 + 9 * fr := wrap_i64_fr _ (by omega) (by omega)
  have e3 : IntKind.i64.wrap (8 * pg) = 8 * pg := wrap_i64_fr _ (by omega) (by omega)
  have e4 : IntKind.i64.wrap (2 + 9 * fr + 8 * pg) = 2 + 9 * fr + 8 * pg := wrap_i64_fr _ (by omega) (by omega)
  go_enter Tryz.func10, Tryz.ntmps10
  go_wp2
  go_ret
  exact ⟨rfl, (Below.refl _ _).alloc (Nat.le_refl _) _⟩
end
def planV (fr pg : Int) : Value := .agg #[.int .i64 fr, .int .i64 pg]
end Go.Proofs.YtocnabpplbeafaaGreat
/- From a row's own reading of acts (loupelaw06) that came in to their parts. -/
namespace Go.Proofs.YtocnabpplbeafaaGreat
open Go Lou Go.ChangeShapes Go.WideShapes Go.ChangeAt Go.RowKit

theorem flat_getC {α : Type} {C : α → List Value} {sz : Nat} (hC : ∀ x, (C x).length = sz) : ∀ (s : List α) (j : Nat) (v : Value), ((s.map C).flatten)[j]? = some v → ∃ i q, ∃ hi : i < s.length, j = i * sz + q ∧ q < sz ∧ (C s[i])[q]? = some v
  | [], j, v, h => by simp at h
  | x :: s, j, v, h => by
    have e : ((x :: s).map C).flatten = C x ++ (s.map C).flatten := rfl
    rw [e] at h
    by_cases hj : j < (C x).length
    · rw [List.getElem?_append_left hj] at h
      exact ⟨0, j, by simp, by omega, by rw [← hC x]; exact hj, by simpa using h⟩
    · rw [List.getElem?_append_right (by omega)] at h
      obtain ⟨i, q, hi, e1, hq, e2⟩ := flat_getC hC s _ v h
      rw [hC] at e1 hj
      refine ⟨i + 1, q, by simpa using hi, ?_, hq, by simpa using e2⟩
      rw [Nat.succ_mul]
      omega
section
variable {H : Type} {enc : TypeId × Value → H} {W : World} {r : Reach} {b0 b1 : Nat} {held : Bool} {v : Value} {d : DataW H} {p : List MemPlace}
set_option maxRecDepth 100000 in
/-- A row of elements of sz cells each. -/
theorem one_rowC {α : Type} [Inhabited α] (C : α → List Value) {sz : Nat} (hz : 0 < sz) (hC : ∀ x, (C x).length = sz) (h1 : ∀ x, ∀ v ∈ C x, v.oneCell' = true) {T E : TypeId} (hT : Tryz.prog.underlying T = some (.slice E)) (hE : Tryz.prog.cellsOf E = sz)
    (hel : ∀ (n : Nat) (cs : List Value) (x : DataW H × List MemPlace), cs.length = sz → DataW.trod enc Tryz.prog W b1 (fun _ => true) held n E cs = some x → ∃ y : α, cs = C y)
    {n : Nat} {c : Value} {x : DataW H × List MemPlace} (h : DataW.trod enc Tryz.prog W b1 (fun _ => true) held n T [c] = some x) : ∃ A k, ∃ s : List α, c = .slice A s.length k ∧ InG W W.heap.size sz A s.length k ((s.map C).flatten) ∧ (s = [] ∨ ∃ elems sp, x.1 = .slice elems sp ∧ elems.length = s.length) := by
  rcases Go.Deep.open_slice hT h with ⟨hcs, _⟩ | ⟨a, len, cap, m, n', D, Pl, hcs, hb, hl, hm, hmm, hxd, hx⟩
  · simp at hcs
    exact ⟨none, 0, [], hcs, InG.mt _ _ _, .inl rfl⟩
  · simp at hcs
    simp only [if_true] at hmm
    subst hmm
    rw [hE] at hx
    obtain ⟨B, hB⟩ := Go.Deep.choose_lt (α := α) (p := fun i y => ∀ j (hj : j < (C y).length), W.cell? ((a.add (i * sz)).add j) = some (C y)[j]) (fun i hi => by
      obtain ⟨cs', h3, h4⟩ := hx i hi
      obtain ⟨_, hlen, hcell⟩ := World.cells?_some h3
      obtain ⟨y, rfl⟩ := hel _ _ _ hlen h4
      exact ⟨y, fun j hj => (hcell j (by omega)).trans (List.getElem?_eq_getElem hj)⟩)
    refine ⟨some a, m, (List.range len).map B, by simpa using hcs, ?_⟩
    have hln : ((List.range len).map B).length = len := by simp
    refine ⟨?_, .inr ⟨_, _, congrArg Prod.fst hxd, by simp⟩⟩
    refine ⟨by rw [hln]; exact hl, by unfold maxLen at hm; omega, (fun e => by cases e), ?_, ?_, fun h0 => ?_⟩
    · rw [List.length_flatten, List.map_map, hln]
      have : (List.map (List.length ∘ C) ((List.range len).map B)) = List.replicate len sz := by
        rw [List.eq_replicate_iff]
        refine ⟨by simp, fun b hb => ?_⟩
        obtain ⟨y, _, rfl⟩ := List.mem_map.1 hb
        exact hC y
      rw [this, List.sum_replicate_nat]
    · intro v hv
      obtain ⟨l, hl', hv⟩ := List.mem_flatten.1 hv
      obtain ⟨y, _, rfl⟩ := List.mem_map.1 hl'
      exact h1 y v hv
    · rw [hln] at h0
      obtain ⟨b, off, spot⟩ := a
      have hc0 := hB 0 (by omega) 0 (by rw [hC]; exact hz)
      have hspot : spot = none := by simpa [Addr.add] using World.cell?_spot hc0
      subst hspot
      have hbl : b < W.heap.size := by simpa [Addr.add] using cell_block_lt hc0
      refine ⟨b, off, rfl, hbl, fun j v hj => ?_⟩
      obtain ⟨i, q, hi, rfl, hq, e⟩ := flat_getC hC _ j v hj
      have hi' := hi
      rw [hln] at hi'
      have hg : ((List.range len).map B)[i] = B i := by simp
      rw [hg] at e
      obtain ⟨hq2, e⟩ := List.getElem?_eq_some_iff.1 e
      have := hB i (by omega) q hq2
      rw [Addr.add_mid, Addr.add_mid, e] at this
      rw [← Nat.add_assoc]
      exact this
theorem flat_oneC {α : Type} (f : α → Value) : ∀ s : List α, (s.map fun x => [f x]).flatten = s.map f
  | [] => rfl
  | x :: s => by
    have e : ((x :: s).map fun x => [f x]).flatten = f x :: (s.map fun x => [f x]).flatten := rfl
    rw [e, flat_oneC f s]
    rfl
set_option maxRecDepth 100000 in
theorem row_truths {n : Nat} {c : Value} {x : DataW H × List MemPlace} (h : DataW.trod enc Tryz.prog W b1 (fun _ => true) held n 39 [c] = some x) : ∃ A k, ∃ s : List Bool, c = .slice A s.length k ∧ InG W W.heap.size 1 A s.length k (s.map Value.bool) := by
  have hc : Tryz.prog.cellsOf 4 = 1 := by kernel_rfl
  obtain ⟨A, k, s, e, hin, _⟩ := one_rowC (α := Bool) (fun x => [Value.bool x]) (by decide) (fun _ => rfl) (fun x v hv => by simp at hv; subst hv; rfl) Tryz.underlying39 hc (fun n cs x hl ht => by
    obtain ⟨s, g, _⟩ := DataW.trod_bool Tryz.underlying4 ht
    exact ⟨s, g⟩) h
  rw [flat_oneC] at hin
  exact ⟨A, k, s, e, hin⟩
theorem InG.toB {W : World} {B : Nat} {A : Option Addr} {c : Nat} {l : List UInt8} (h : InG W B 1 A l.length c (l.map fun b => Value.int .u8 (b.toNat : Int))) : InB W B A c l :=
  ⟨h.le, h.max, h.nil, fun h0 => by
    obtain ⟨g, o, e, hg, hr⟩ := h.lies h0
    exact ⟨g, o, e, hg, fun j hj => hr j _ (by rw [List.getElem?_map, List.getElem?_eq_getElem hj]; rfl)⟩⟩
set_option maxRecDepth 100000 in
theorem row_ints {n : Nat} {c : Value} {x : DataW H × List MemPlace} (h : DataW.trod enc Tryz.prog W b1 (fun _ => true) held n 37 [c] = some x) : ∃ A k, ∃ s : List Int, c = .slice A s.length k ∧ InG W W.heap.size 1 A s.length k (s.map (Value.int .i64)) := by
  have hc : Tryz.prog.cellsOf 3 = 1 := by kernel_rfl
  obtain ⟨A, k, s, e, hin, _⟩ := one_rowC (α := Int) (fun x => [Value.int .i64 x]) (by decide) (fun _ => rfl) (fun x v hv => by simp at hv; subst hv; rfl) Tryz.underlying37 hc (fun n cs x hl ht => by
    obtain ⟨s, g, _, _⟩ := DataW.trod_int Tryz.underlying3 ht
    exact ⟨s, g⟩) h
  rw [flat_oneC] at hin
  exact ⟨A, k, s, e, hin⟩
set_option maxRecDepth 100000 in
theorem row_bytes6 {n : Nat} {c : Value} {x : DataW H × List MemPlace} (h : DataW.trod enc Tryz.prog W b1 (fun _ => true) held n 38 [c] = some x) : ∃ A k, ∃ s : List UInt8, c = .slice A s.length k ∧ InB W W.heap.size A k s := by
  have hc : Tryz.prog.cellsOf 5 = 1 := by kernel_rfl
  obtain ⟨A, k, s, e, hin, _⟩ := one_rowC (α := UInt8) (fun x => [Value.int .u8 (x.toNat : Int)]) (by decide) (fun _ => rfl) (fun x v hv => by simp at hv; subst hv; rfl) Tryz.underlying38 hc (fun n cs x hl ht => by
    obtain ⟨s, g, _, w⟩ := DataW.trod_int Tryz.underlying5 ht
    have hu := u8_wf w
    refine ⟨UInt8.ofNat s.toNat, ?_⟩
    rw [g]
    congr 2
    simp
    omega) h
  rw [flat_oneC] at hin
  exact ⟨A, k, s, e, hin.toB⟩
instance {W : World} : Inhabited { x : AcV // AcIs W W.heap.size x } := ⟨⟨⟨0, 0, [], none, 0, [], none, 0, [], none, 0⟩, InG.mt _ _ _, InB.mt _ _, InG.mt _ _ _⟩⟩
end
end Go.Proofs.YtocnabpplbeafaaGreat
/- From a row's own reading of acts (loupelaw07) that came in to their parts. -/
namespace Go.Proofs.YtocnabpplbeafaaGreat
open Go Lou Go.ChangeShapes Go.WideShapes Go.ChangeAt Go.RowKit

section
variable {H : Type} {enc : TypeId × Value → H} {W : World} {r : Reach} {b0 b1 : Nat} {held : Bool} {v : Value} {d : DataW H} {p : List MemPlace}
set_option maxRecDepth 100000 in
theorem ac7_of {n : Nat} {cs : List Value} {x : DataW H × List MemPlace} (hl : cs.length = 5) (h : DataW.trod enc Tryz.prog W b1 (fun _ => true) held n 73 cs = some x) : ∃ y : { x : AcV // AcIs W W.heap.size x }, cs = acC y.1 := by
  have h1i : Tryz.prog.cellsOf 3 = 1 := by kernel_rfl
  have h1p : Tryz.prog.cellsOf 37 = 1 := by kernel_rfl
  have h1u : Tryz.prog.cellsOf 38 = 1 := by kernel_rfl
  have h1b : Tryz.prog.cellsOf 39 = 1 := by kernel_rfl
  obtain ⟨xs, m, _, _, _, hlx, hi⟩ := DataW.trod_struct Tryz.underlying73 h
  match cs, hl with
  | [c0, c1, c2, c3, c4], _ =>
    have hx5 : xs.length = 5 := hlx
    have e0 := hi 0 _ rfl
    have e1 := hi 1 _ rfl
    have e2 := hi 2 _ rfl
    have e3 := hi 3 _ rfl
    have e4 := hi 4 _ rfl
    rw [List.getElem?_eq_getElem (by omega)] at e0 e1 e2 e3 e4
    obtain ⟨z0, g0, _, _⟩ := DataW.trod_int Tryz.underlying3 e0
    obtain ⟨z1, g1, _, _⟩ := DataW.trod_int Tryz.underlying3 e1
    replace e2 : DataW.trod enc Tryz.prog W b1 (fun _ => true) held m 37 (([c0, c1, c2, c3, c4].drop 2).take (Tryz.prog.cellsOf 37)) = _ := e2
    rw [h1p] at e2
    obtain ⟨A2, k2, s2, g2, hin2⟩ := row_ints (show DataW.trod enc Tryz.prog W b1 (fun _ => true) held m 37 [c2] = _ from e2)
    replace e3 : DataW.trod enc Tryz.prog W b1 (fun _ => true) held m 38 (([c0, c1, c2, c3, c4].drop 3).take (Tryz.prog.cellsOf 38)) = _ := e3
    rw [h1u] at e3
    obtain ⟨A3, k3, s3, g3, hin3⟩ := row_bytes6 (show DataW.trod enc Tryz.prog W b1 (fun _ => true) held m 38 [c3] = _ from e3)
    replace e4 : DataW.trod enc Tryz.prog W b1 (fun _ => true) held m 39 (([c0, c1, c2, c3, c4].drop 4).take (Tryz.prog.cellsOf 39)) = _ := e4
    rw [h1b] at e4
    obtain ⟨A4, k4, s4, g4, hin4⟩ := row_truths (show DataW.trod enc Tryz.prog W b1 (fun _ => true) held m 39 [c4] = _ from e4)
    replace g0 : ([c0, c1, c2, c3, c4].drop 0).take (Tryz.prog.cellsOf 3) = _ := g0
    replace g1 : ([c0, c1, c2, c3, c4].drop 1).take (Tryz.prog.cellsOf 3) = _ := g1
    rw [h1i] at g0 g1
    simp at g0 g1
    subst g0 g1 g2 g3 g4
    exact ⟨⟨⟨z0, z1, s2, A2, k2, s3, A3, k3, s4, A4, k4⟩, hin2, hin3, hin4⟩, rfl⟩
set_option maxRecDepth 100000 in
theorem open_acts7 (hval : Value.okWide Tryz.prog W r b0 68 v) (h : DataW.Trod enc Tryz.prog W b1 (fun _ => true) held 68 v d p) : ∃ (A : Option Addr) (k : Nat) (xs : List AcV), v = .slice A xs.length k ∧ InG W W.heap.size 5 A xs.length k (acsV xs) ∧ (∀ x ∈ xs, AcIs W W.heap.size x) := by
  obtain ⟨A, n, k, rfl⟩ := okWide_slice Tryz.underlying68 hval
  obtain ⟨fuel, hf⟩ := h
  have hc : Tryz.prog.cellsOf 73 = 5 := by kernel_rfl
  obtain ⟨A', k', s, e, hin, _⟩ := one_rowC (α := { x : AcV // AcIs W W.heap.size x }) (fun x => acC x.1) (by decide) (fun _ => rfl) (fun x => acC_one x.1) Tryz.underlying68 hc (fun n cs x hl ht => ac7_of hl ht) (show DataW.trod enc Tryz.prog W b1 (fun _ => true) held fuel 68 [.slice A n k] = _ from hf)
  refine ⟨A', k', s.map (·.1), by rw [List.length_map]; exact e, ?_, fun x hx => ?_⟩
  · rw [List.length_map]
    unfold acsV
    rw [List.map_map]
    exact hin
  · obtain ⟨y, _, rfl⟩ := List.mem_map.1 hx
    exact y.2
end
end Go.Proofs.YtocnabpplbeafaaGreat
