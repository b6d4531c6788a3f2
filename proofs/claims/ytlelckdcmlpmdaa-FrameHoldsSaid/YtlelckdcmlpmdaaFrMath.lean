/- Heads' and frames' bytes, in plain lists. -/
import Derived.Test.YtlelckdcmlpmdaaOctetMath
namespace Go.Proofs.Ytlelckdcmlpmdaa
open Lou

/-- A head's first 24 bytes; with their sum; the whole sector. -/
def headB (s e z c : Nat) : List UInt8 := [fixL 8 s, fixL 8 e, fixL 4 z, fixL 4 c].flatten
theorem headB_eq (s e z c : Nat) : headB s e z c = fixL 8 s ++ (fixL 8 e ++ (fixL 4 z ++ fixL 4 c)) := by simp [headB]
theorem headB_length (s e z c : Nat) : (headB s e z c).length = 24 := by
  rw [headB_eq]; simp only [List.length_append, fixL_length]
def onceB (b : List UInt8) : List UInt8 := b ++ fixL 4 (sumL b)
theorem onceB_length (b : List UInt8) : (onceB b).length = b.length + 4 := by simp [onceB, fixL_length]
def twiceB (b : List UInt8) : List UInt8 := onceB b ++ onceB b ++ List.replicate 8 0
theorem twiceB_length (b : List UInt8) : (twiceB b).length = 2 * b.length + 16 := by simp [twiceB, onceB_length]; omega
def headW (s e z c : Nat) : List UInt8 := twiceB (headB s e z c)
theorem headW_length (s e z c : Nat) : (headW s e z c).length = 64 := by simp [headW, twiceB_length, headB_length]

theorem twiceB_take (b : List UInt8) : (twiceB b).take b.length = b := by
  simp [twiceB, onceB, List.append_assoc]
theorem twiceB_mid (b : List UInt8) : ((twiceB b).drop (b.length + 4)).take b.length = b := by
  have : twiceB b = onceB b ++ (b ++ (fixL 4 (sumL b) ++ List.replicate 8 0)) := by simp [twiceB, onceB, List.append_assoc]
  rw [this, List.drop_append_of_le_length (by rw [onceB_length]; omega), ← onceB_length, List.drop_length, List.nil_append]
  simp

theorem rfix_fixL_lt {k n : Nat} (h : n < 256 ^ k) : rfix (fixL k n) = n := by rw [rfix_fixL, Nat.mod_eq_of_lt h]
theorem headB_read {s e z c : Nat} (hs : s < 2 ^ 64) (he : e < 2 ^ 64) (hz : z < 2 ^ 32) (hc : c < 2 ^ 32) (r : List UInt8) :
    rfix ((headB s e z c ++ r).take 8) = s ∧ rfix (((headB s e z c ++ r).drop 8).take 8) = e ∧ rfix (((headB s e z c ++ r).drop 16).take 4) = z ∧ rfix (((headB s e z c ++ r).drop 20).take 4) = c := by
  have l8 : ∀ n, (fixL 8 n).length = 8 := fixL_length 8
  have l4 : ∀ n, (fixL 4 n).length = 4 := fixL_length 4
  have e8 : (256 : Nat) ^ 8 = 2 ^ 64 := by decide
  have e4 : (256 : Nat) ^ 4 = 2 ^ 32 := by decide
  have t8 : ∀ n (r : List UInt8), (fixL 8 n ++ r).take 8 = fixL 8 n := fun n r => by rw [List.take_append_of_le_length (by rw [l8]; omega)]; rw [List.take_of_length_le (by rw [l8]; omega)]
  have t4 : ∀ n (r : List UInt8), (fixL 4 n ++ r).take 4 = fixL 4 n := fun n r => by rw [List.take_append_of_le_length (by rw [l4]; omega)]; rw [List.take_of_length_le (by rw [l4]; omega)]
  have d8 : ∀ n (r : List UInt8), (fixL 8 n ++ r).drop 8 = r := fun n r => by have := List.drop_left (l₁ := fixL 8 n) (l₂ := r); rw [l8] at this; exact this
  have d4 : ∀ n (r : List UInt8), (fixL 4 n ++ r).drop 4 = r := fun n r => by have := List.drop_left (l₁ := fixL 4 n) (l₂ := r); rw [l4] at this; exact this
  have h16 : ∀ (l : List UInt8), l.drop 16 = (l.drop 8).drop 8 := fun l => by rw [List.drop_drop]
  have h20 : ∀ (l : List UInt8), l.drop 20 = ((l.drop 8).drop 8).drop 4 := fun l => by rw [List.drop_drop, List.drop_drop]
  rw [headB_eq]
  simp only [List.append_assoc]
  rw [h20, h16, t8, d8, t8, d8, t4, d4, t4]
  exact ⟨rfix_fixL_lt (by omega), rfix_fixL_lt (by omega), rfix_fixL_lt (by omega), rfix_fixL_lt (by omega)⟩

/-- What a head's bytes are read as. -/
def hdS (b : List UInt8) : Nat := rfix (b.take 8)
def hdE (b : List UInt8) : Nat := rfix ((b.drop 8).take 8)
def hdZ (b : List UInt8) : Nat := rfix ((b.drop 16).take 4)
def hdC (b : List UInt8) : Nat := rfix ((b.drop 20).take 4)
/-- Are bytes a head's? -/
def isHead (b : List UInt8) : Bool := decide (b.length = 64) && decide (hdZ b ≤ 2000) && decide (hdC b ≤ 2000) && decide (headW (hdS b) (hdE b) (hdZ b) (hdC b) = b)
theorem isHead_iff (b : List UInt8) : isHead b = true ↔ b.length = 64 ∧ hdZ b ≤ 2000 ∧ hdC b ≤ 2000 ∧ headW (hdS b) (hdE b) (hdZ b) (hdC b) = b := by
  simp [isHead, and_assoc]
theorem headW_split (s e z c : Nat) : ∃ r, headW s e z c = headB s e z c ++ r := ⟨_, by unfold headW twiceB onceB; simp only [List.append_assoc]; rfl⟩
theorem headW_read {s e z c : Nat} (hs : s < 2 ^ 64) (he : e < 2 ^ 64) (hz : z ≤ 2000) (hc : c ≤ 2000) : hdS (headW s e z c) = s ∧ hdE (headW s e z c) = e ∧ hdZ (headW s e z c) = z ∧ hdC (headW s e z c) = c := by
  obtain ⟨r, hr⟩ := headW_split s e z c
  unfold hdS hdE hdZ hdC
  rw [hr]
  exact headB_read hs he (by omega) (by omega) r
theorem isHead_headW {s e z c : Nat} (hs : s < 2 ^ 64) (he : e < 2 ^ 64) (hz : z ≤ 2000) (hc : c ≤ 2000) : isHead (headW s e z c) = true := by
  obtain ⟨h1, h2, h3, h4⟩ := headW_read hs he hz hc
  rw [isHead_iff, h1, h2, h3, h4]
  exact ⟨headW_length _ _ _ _, hz, hc, rfl⟩

/-- A head's bytes with one changed are none's. -/
theorem isHead_set {s e z c : Nat} (i : Nat) (hi : i < 64) (d : UInt8) (hd : (headW s e z c)[i]'(by rw [headW_length]; exact hi) ≠ d) : isHead ((headW s e z c).set i d) = false := by
  cases h : isHead ((headW s e z c).set i d) with
  | false => rfl
  | true =>
    exfalso
    obtain ⟨_, _, _, h4⟩ := (isHead_iff _).1 h
    revert h4
    generalize hdS ((headW s e z c).set i d) = s'
    generalize hdE ((headW s e z c).set i d) = e'
    generalize hdZ ((headW s e z c).set i d) = z'
    generalize hdC ((headW s e z c).set i d) = c'
    intro h4
    have key : headB s' e' z' c' = headB s e z c := by
      by_cases h24 : 24 ≤ i
      · have h5 := congrArg (List.take 24) h4
        have t : ∀ a b c d, (headW a b c d).take 24 = headB a b c d := fun a b c d => by have := twiceB_take (headB a b c d); rw [headB_length] at this; exact this
        rw [t, List.take_set_of_le h24, t] at h5
        exact h5
      · have h5 := congrArg (fun l => (List.drop 28 l).take 24) h4
        have t : ∀ a b c d, ((headW a b c d).drop 28).take 24 = headB a b c d := fun a b c d => by have := twiceB_mid (headB a b c d); rw [headB_length] at this; exact this
        simp only [t, List.drop_set_of_lt (show i < 28 by omega)] at h5
        exact h5
    have h6 : headW s e z c = (headW s e z c).set i d := by
      have : headW s' e' z' c' = headW s e z c := by unfold headW; rw [key]
      rw [← this]
      rw [this]
      rw [← h4, this]
    have h7 := List.getElem_of_eq h6 (i := i) (by rw [headW_length]; exact hi)
    rw [List.getElem_set_self] at h7
    exact hd h7

/-- The first bytes of one head, the others of another one: if they are a head's, one of both. -/
theorem isHead_torn {s e z c s' e' z' c' : Nat} (m : Nat) (h : isHead ((headW s e z c).take m ++ (headW s' e' z' c').drop m) = true) :
    (headW s e z c).take m ++ (headW s' e' z' c').drop m = headW s e z c ∨ (headW s e z c).take m ++ (headW s' e' z' c').drop m = headW s' e' z' c' := by
  obtain ⟨_, _, _, h4⟩ := (isHead_iff _).1 h
  revert h4
  generalize hdS ((headW s e z c).take m ++ (headW s' e' z' c').drop m) = s2
  generalize hdE ((headW s e z c).take m ++ (headW s' e' z' c').drop m) = e2
  generalize hdZ ((headW s e z c).take m ++ (headW s' e' z' c').drop m) = z2
  generalize hdC ((headW s e z c).take m ++ (headW s' e' z' c').drop m) = c2
  intro h4
  have l1 := headW_length s e z c
  have l2 := headW_length s' e' z' c'
  by_cases h24 : 24 ≤ m
  · left
    have h5 := congrArg (List.take 24) h4
    have t : ∀ a b c d, (headW a b c d).take 24 = headB a b c d := fun a b c d => by have := twiceB_take (headB a b c d); rw [headB_length] at this; exact this
    have t2 : ((headW s e z c).take m ++ (headW s' e' z' c').drop m).take 24 = (headW s e z c).take 24 := by
      by_cases hm : m ≤ 64
      · rw [List.take_append_of_le_length (by simp; omega), List.take_take, Nat.min_eq_left h24]
      · rw [List.take_of_length_le (i := m) (by omega), List.take_append_of_le_length (by omega)]
    rw [t, t2, t] at h5
    rw [← h4]
    unfold headW
    rw [h5]
  · right
    have h5 := congrArg (fun l => (List.drop 28 l).take 24) h4
    have t : ∀ a b c d, ((headW a b c d).drop 28).take 24 = headB a b c d := fun a b c d => by have := twiceB_mid (headB a b c d); rw [headB_length] at this; exact this
    have t2 : (((headW s e z c).take m ++ (headW s' e' z' c').drop m).drop 28).take 24 = ((headW s' e' z' c').drop 28).take 24 := by
      have hl : ((headW s e z c).take m).length = m := by simp; omega
      rw [List.drop_append, hl, List.drop_of_length_le (by omega), List.nil_append, List.drop_drop]
      congr 2
      omega
    simp only [t, t2] at h5
    rw [← h4]
    unfold headW
    rw [h5]

/-- A frame's parts ahead of the sum. -/
def partB (e i p : Nat) (f : Bool) (z l : Nat) : List UInt8 := [fixL 8 e, fixL 4 i, fixL 4 p, [if f then 1 else 0], fixL 4 z, fixL 4 l].flatten
theorem partB_eq (e i p : Nat) (f : Bool) (z l : Nat) : partB e i p f z l = fixL 8 e ++ (fixL 4 i ++ (fixL 4 p ++ ((if f then 1 else 0) :: (fixL 4 z ++ fixL 4 l)))) := by simp [partB]
theorem partB_length (e i p : Nat) (f : Bool) (z l : Nat) : (partB e i p f z l).length = 25 := by
  rw [partB_eq]; simp only [List.length_append, List.length_cons, fixL_length]
/-- A frame's first sector; the whole of it. -/
def sectB (p y : List UInt8) : List UInt8 := p ++ fixL 4 (sumL (p ++ y)) ++ List.replicate 35 0
theorem sectB_length (p y : List UInt8) : (sectB p y).length = p.length + 39 := by simp [sectB, fixL_length]
def frameB (p y : List UInt8) : List UInt8 := sectB p y ++ y

theorem fixL4_inj {a b : Nat} (ha : a < 4294967296) (hb : b < 4294967296) (h : fixL 4 a = fixL 4 b) : a = b := by
  have := congrArg rfix h
  rw [rfix_fixL_lt (by have : (256 : Nat) ^ 4 = 4294967296 := by decide
                       omega), rfix_fixL_lt (by have : (256 : Nat) ^ 4 = 4294967296 := by decide
                                                omega)] at this
  exact this
/-- A frame's bytes with one changed are none's. -/
theorem frameB_set {p y p' y' : List UInt8} (hp : p.length = 25) (hp' : p'.length = 25) (hy : y.length = 512) (hy' : y'.length = 512) (i : Nat) (hi : i < 576) (d : UInt8)
    (hd : (frameB p y)[i]'(by simp [frameB, sectB_length]; omega) ≠ d) : frameB p' y' ≠ (frameB p y).set i d := by
  intro h
  have hl : (frameB p y).length = 576 := by simp [frameB, sectB_length]; omega
  have tp : ∀ (p y : List UInt8), p.length = 25 → (frameB p y).take 25 = p := fun p y hp => by
    rw [← hp]; simp [frameB, sectB, List.append_assoc]
  have ty : ∀ (p y : List UInt8), p.length = 25 → (frameB p y).drop 64 = y := fun p y hp => by
    have : (sectB p y).length = 64 := by rw [sectB_length]; omega
    unfold frameB
    rw [← this, List.drop_left]
  have ts : ∀ (p y : List UInt8), p.length = 25 → ((frameB p y).drop 25).take 4 = fixL 4 (sumL (p ++ y)) := fun p y hp => by
    rw [← hp]
    simp only [frameB, sectB, List.append_assoc, List.drop_left]
    rw [List.take_append_of_le_length (by rw [fixL_length]; omega), List.take_of_length_le (by rw [fixL_length]; omega)]
  have hne : ∀ l : List UInt8, l = frameB p y → l ≠ (frameB p y).set i d := by
    rintro l rfl e
    have h7 := List.getElem_of_eq e (i := i) (by omega)
    rw [List.getElem_set_self] at h7
    exact hd h7
  have hset : ∀ (l : List UInt8) (i : Nat) (hi : i < l.length), l.set i d = l → l[i] = d := fun l i hi e => by
    have h7 := List.getElem_of_eq e (i := i) (by simpa using hi)
    rw [List.getElem_set_self] at h7
    exact h7.symm
  by_cases h25 : i < 25
  · have e1 : y' = y := by
      have := congrArg (List.drop 64) h
      rw [ty _ _ hp', List.drop_set_of_lt (by omega), ty _ _ hp] at this
      exact this
    have e2 : p' = p.set i d := by
      have := congrArg (List.take 25) h
      rw [tp _ _ hp', List.take_set, tp _ _ hp] at this
      exact this
    have e3 : sumL (p' ++ y') = sumL (p ++ y) := by
      have := congrArg (fun l => (List.drop 25 l).take 4) h
      simp only [ts _ _ hp', List.drop_set_of_lt h25, ts _ _ hp] at this
      exact fixL4_inj (sumL_lt _) (sumL_lt _) this
    have hx : (p ++ y)[i]'(by simp; omega) ≠ d := by
      intro e
      apply hd
      rw [← e]
      simp [frameB, sectB, List.getElem_append_left, List.append_assoc, show i < p.length by omega]
    refine sumL_set (p ++ y) i (by simp; omega) d hx ?_
    rw [← e3, e1, e2, List.set_append_left _ _ (by omega)]
  · have e2 : p' = p := by
      have := congrArg (List.take 25) h
      rw [tp _ _ hp', List.take_set_of_le (by omega), tp _ _ hp] at this
      exact this
    by_cases h64 : i < 64
    · have e1 : y' = y := by
        have := congrArg (List.drop 64) h
        rw [ty _ _ hp', List.drop_set_of_lt (by omega), ty _ _ hp] at this
        exact this
      exact hne _ (by rw [e1, e2]) h
    · have e1 : y' = y.set (i - 64) d := by
        have := congrArg (List.drop 64) h
        rw [ty _ _ hp', List.drop_set, if_neg (by omega), ty _ _ hp] at this
        exact this
      have e3 : sumL (p' ++ y') = sumL (p ++ y) := by
        have := congrArg (fun l => (List.drop 25 l).take 4) h
        simp only [ts _ _ hp', List.drop_set, if_neg (show ¬ i < 25 by omega)] at this
        rw [List.take_set_of_le (by omega), ts _ _ hp] at this
        exact fixL4_inj (sumL_lt _) (sumL_lt _) this
      have hj : 25 + (i - 64) < (p ++ y).length := by simp; omega
      have hx : (p ++ y)[25 + (i - 64)]'hj ≠ d := by
        intro e
        apply hd
        rw [← e]
        have h1 : (frameB p y)[i]'(by omega) = y[i - 64]'(by omega) := by
          have : (sectB p y).length = 64 := by rw [sectB_length]; omega
          unfold frameB
          rw [List.getElem_append_right (by omega)]
          simp only [this]
        rw [h1, List.getElem_append_right (by omega)]
        simp only [hp]
        congr 1
        omega
      refine sumL_set (p ++ y) (25 + (i - 64)) hj d hx ?_
      rw [← e3, e1, e2, List.set_append_right _ _ (by omega)]
      congr 3
      omega
end Go.Proofs.Ytlelckdcmlpmdaa
