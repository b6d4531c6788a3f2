/- Texts that the proof of DiskHolds leans on, part 5. -/
import Derived.Deep.RegionHeld3
import Derived.Deep.DrawnRows
import Derived.Lib.AppendZerosOnto
import Derived.Test.YtlelckdcmlpmdaaDiskHoldsB4
/- Heads' and frames' bytes, in plain lists. -/
namespace Go.Proofs.Ytlelckdcmlpmdaa
open Lou

/-- A head's first 24 bytes; with their sum; the whole sector. -/
def headB (s e z c : Nat) : List UInt8 := [fixL 8 s, fixL 8 e, fixL 4 z, fixL 4 c].flatten
theorem headB_eq (s e z c : Nat) : headB s e z c = fixL 8 s ++ (fixL 8 e ++ (fixL 4 z ++ fixL 4 c)) := by simp [headB]
theorem headB_length (s e z c : Nat) : (headB s e z c).length = 24 := by
  rw [headB_eq]; simp only [List.length_append, fixL_length]
def onceB (b : List UInt8) : List UInt8 := b ++ fixL 4 (sumL b)
theorem onceB_length (b : List UInt8) : (onceB b).length = b.length + 4 := by simp [onceB, fixL_length]
def twiceB (b : List UInt8) : List UInt8 := onceB b ++ onceB b ++ List.replicate 8 0
theorem twiceB_length (b : List UInt8) : (twiceB b).length = 2 * b.length + 16 := by simp [twiceB, onceB_length]; omega
def headW (s e z c : Nat) : List UInt8 := twiceB (headB s e z c)
theorem headW_length (s e z c : Nat) : (headW s e z c).length = 64 := by simp [headW, twiceB_length, headB_length]

theorem twiceB_take (b : List UInt8) : (twiceB b).take b.length = b := by
  simp [twiceB, onceB, List.append_assoc]
theorem twiceB_mid (b : List UInt8) : ((twiceB b).drop (b.length + 4)).take b.length = b := by
  have : twiceB b = onceB b ++ (b ++ (fixL 4 (sumL b) ++ List.replicate 8 0)) := by simp [twiceB, onceB, List.append_assoc]
  rw [this, List.drop_append_of_le_length (by rw [onceB_length]; omega), ← onceB_length, List.drop_length, List.nil_append]
  simp

theorem rfix_fixL_lt {k n : Nat} (h : n < 256 ^ k) : rfix (fixL k n) = n := by rw [rfix_fixL, Nat.mod_eq_of_lt h]
theorem headB_read {s e z c : Nat} (hs : s < 2 ^ 64) (he : e < 2 ^ 64) (hz : z < 2 ^ 32) (hc : c < 2 ^ 32) (r : List UInt8) :
    rfix ((headB s e z c ++ r).take 8) = s ∧ rfix (((headB s e z c ++ r).drop 8).take 8) = e ∧ rfix (((headB s e z c ++ r).drop 16).take 4) = z ∧ rfix (((headB s e z c ++ r).drop 20).take 4) = c := by
  have l8 : ∀ n, (fixL 8 n).length = 8 := fixL_length 8
  have l4 : ∀ n, (fixL 4 n).length = 4 := fixL_length 4
  have e8 : (256 : Nat) ^ 8 = 2 ^ 64 := by decide
  have e4 : (256 : Nat) ^ 4 = 2 ^ 32 := by decide
  have t8 : ∀ n (r : List UInt8), (fixL 8 n ++ r).take 8 = fixL 8 n := fun n r => by rw [List.take_append_of_le_length (by rw [l8]; omega)]; rw [List.take_of_length_le (by rw [l8]; omega)]
  have t4 : ∀ n (r : List UInt8), (fixL 4 n ++ r).take 4 = fixL 4 n := fun n r => by rw [List.take_append_of_le_length (by rw [l4]; omega)]; rw [List.take_of_length_le (by rw [l4]; omega)]
  have d8 : ∀ n (r : List UInt8), (fixL 8 n ++ r).drop 8 = r := fun n r => by have := List.drop_left (l₁ := fixL 8 n) (l₂ := r); rw [l8] at this; exact this
  have d4 : ∀ n (r : List UInt8), (fixL 4 n ++ r).drop 4 = r := fun n r => by have := List.drop_left (l₁ := fixL 4 n) (l₂ := r); rw [l4] at this; exact this
  have h16 : ∀ (l : List UInt8), l.drop 16 = (l.drop 8).drop 8 := fun l => by rw [List.drop_drop]
  have h20 : ∀ (l : List UInt8), l.drop 20 = ((l.drop 8).drop 8).drop 4 := fun l => by rw [List.drop_drop, List.drop_drop]
  rw [headB_eq]
  simp only [List.append_assoc]
  rw [h20, h16, t8, d8, t8, d8, t4, d4, t4]
  exact ⟨rfix_fixL_lt (by omega), rfix_fixL_lt (by omega), rfix_fixL_lt (by omega), rfix_fixL_lt (by omega)⟩

/-- What a head's bytes are read as. -/
def hdS (b : List UInt8) : Nat := rfix (b.take 8)
def hdE (b : List UInt8) : Nat := rfix ((b.drop 8).take 8)
def hdZ (b : List UInt8) : Nat := rfix ((b.drop 16).take 4)
def hdC (b : List UInt8) : Nat := rfix ((b.drop 20).take 4)
/-- Are bytes a head's? -/
def isHead (b : List UInt8) : Bool := decide (b.length = 64) && decide (hdZ b ≤ 2000) && decide (hdC b ≤ 2000) && decide (headW (hdS b) (hdE b) (hdZ b) (hdC b) = b)
theorem isHead_iff (b : List UInt8) : isHead b = true ↔ b.length = 64 ∧ hdZ b ≤ 2000 ∧ hdC b ≤ 2000 ∧ headW (hdS b) (hdE b) (hdZ b) (hdC b) = b := by
  simp [isHead, and_assoc]
theorem headW_split (s e z c : Nat) : ∃ r, headW s e z c = headB s e z c ++ r := ⟨_, by unfold headW twiceB onceB; simp only [List.append_assoc]; rfl⟩
theorem headW_read {s e z c : Nat} (hs : s < 2 ^ 64) (he : e < 2 ^ 64) (hz : z ≤ 2000) (hc : c ≤ 2000) : hdS (headW s e z c) = s ∧ hdE (headW s e z c) = e ∧ hdZ (headW s e z c) = z ∧ hdC (headW s e z c) = c := by
  obtain ⟨r, hr⟩ := headW_split s e z c
  unfold hdS hdE hdZ hdC
  rw [hr]
  exact headB_read hs he (by omega) (by omega) r
theorem isHead_headW {s e z c : Nat} (hs : s < 2 ^ 64) (he : e < 2 ^ 64) (hz : z ≤ 2000) (hc : c ≤ 2000) : isHead (headW s e z c) = true := by
  obtain ⟨h1, h2, h3, h4⟩ := headW_read hs he hz hc
  rw [isHead_iff, h1, h2, h3, h4]
  exact ⟨headW_length _ _ _ _, hz, hc, rfl⟩

/-- A head's bytes with one changed are none's. -/
theorem isHead_set {s e z c : Nat} (i : Nat) (hi : i < 64) (d : UInt8) (hd : (headW s e z c)[i]'(by rw [headW_length]; exact hi) ≠ d) : isHead ((headW s e z c).set i d) = false := by
  cases h : isHead ((headW s e z c).set i d) with
  | false => rfl
  | true =>
    exfalso
    obtain ⟨_, _, _, h4⟩ := (isHead_iff _).1 h
    revert h4
    generalize hdS ((headW s e z c).set i d) = s'
    generalize hdE ((headW s e z c).set i d) = e'
    generalize hdZ ((headW s e z c).set i d) = z'
    generalize hdC ((headW s e z c).set i d) = c'
    intro h4
    have key : headB s' e' z' c' = headB s e z c := by
      by_cases h24 : 24 ≤ i
      · have h5 := congrArg (List.take 24) h4
        have t : ∀ a b c d, (headW a b c d).take 24 = headB a b c d := fun a b c d => by have := twiceB_take (headB a b c d); rw [headB_length] at this; exact this
        rw [t, List.take_set_of_le h24, t] at h5
        exact h5
      · have h5 := congrArg (fun l => (List.drop 28 l).take 24) h4
        have t : ∀ a b c d, ((headW a b c d).drop 28).take 24 = headB a b c d := fun a b c d => by have := twiceB_mid (headB a b c d); rw [headB_length] at this; exact this
        simp only [t, List.drop_set_of_lt (show i < 28 by omega)] at h5
        exact h5
    have h6 : headW s e z c = (headW s e z c).set i d := by
      have : headW s' e' z' c' = headW s e z c := by unfold headW; rw [key]
      rw [← this]
      rw [this]
      rw [← h4, this]
    have h7 := List.getElem_of_eq h6 (i := i) (by rw [headW_length]; exact hi)
    rw [List.getElem_set_self] at h7
    exact hd h7

/-- The first bytes of one head, the others of another one: if they are a head's, one of both. -/
theorem isHead_torn {s e z c s' e' z' c' : Nat} (m : Nat) (h : isHead ((headW s e z c).take m ++ (headW s' e' z' c').drop m) = true) :
    (headW s e z c).take m ++ (headW s' e' z' c').drop m = headW s e z c ∨ (headW s e z c).take m ++ (headW s' e' z' c').drop m = headW s' e' z' c' := by
  obtain ⟨_, _, _, h4⟩ := (isHead_iff _).1 h
  revert h4
  generalize hdS ((headW s e z c).take m ++ (headW s' e' z' c').drop m) = s2
  generalize hdE ((headW s e z c).take m ++ (headW s' e' z' c').drop m) = e2
  generalize hdZ ((headW s e z c).take m ++ (headW s' e' z' c').drop m) = z2
  generalize hdC ((headW s e z c).take m ++ (headW s' e' z' c').drop m) = c2
  intro h4
  have l1 := headW_length s e z c
  have l2 := headW_length s' e' z' c'
  by_cases h24 : 24 ≤ m
  · left
    have h5 := congrArg (List.take 24) h4
    have t : ∀ a b c d, (headW a b c d).take 24 = headB a b c d := fun a b c d => by have := twiceB_take (headB a b c d); rw [headB_length] at this; exact this
    have t2 : ((headW s e z c).take m ++ (headW s' e' z' c').drop m).take 24 = (headW s e z c).take 24 := by
      by_cases hm : m ≤ 64
      · rw [List.take_append_of_le_length (by simp; omega), List.take_take, Nat.min_eq_left h24]
      · rw [List.take_of_length_le (i := m) (by omega), List.take_append_of_le_length (by omega)]
    rw [t, t2, t] at h5
    rw [← h4]
    unfold headW
    rw [h5]
  · right
    have h5 := congrArg (fun l => (List.drop 28 l).take 24) h4
    have t : ∀ a b c d, ((headW a b c d).drop 28).take 24 = headB a b c d := fun a b c d => by have := twiceB_mid (headB a b c d); rw [headB_length] at this; exact this
    have t2 : (((headW s e z c).take m ++ (headW s' e' z' c').drop m).drop 28).take 24 = ((headW s' e' z' c').drop 28).take 24 := by
      have hl : ((headW s e z c).take m).length = m := by simp; omega
      rw [List.drop_append, hl, List.drop_of_length_le (by omega), List.nil_append, List.drop_drop]
      congr 2
      omega
    simp only [t, t2] at h5
    rw [← h4]
    unfold headW
    rw [h5]

/-- A frame's parts ahead of the sum. -/
def partB (e i p : Nat) (f : Bool) (z l : Nat) : List UInt8 := [fixL 8 e, fixL 4 i, fixL 4 p, [if f then 1 else 0], fixL 4 z, fixL 4 l].flatten
theorem partB_eq (e i p : Nat) (f : Bool) (z l : Nat) : partB e i p f z l = fixL 8 e ++ (fixL 4 i ++ (fixL 4 p ++ ((if f then 1 else 0) :: (fixL 4 z ++ fixL 4 l)))) := by simp [partB]
theorem partB_length (e i p : Nat) (f : Bool) (z l : Nat) : (partB e i p f z l).length = 25 := by
  rw [partB_eq]; simp only [List.length_append, List.length_cons, fixL_length]
/-- A frame's first sector; the whole of it. -/
def sectB (p y : List UInt8) : List UInt8 := p ++ fixL 4 (sumL (p ++ y)) ++ List.replicate 35 0
theorem sectB_length (p y : List UInt8) : (sectB p y).length = p.length + 39 := by simp [sectB, fixL_length]
def frameB (p y : List UInt8) : List UInt8 := sectB p y ++ y

theorem fixL4_inj {a b : Nat} (ha : a < 4294967296) (hb : b < 4294967296) (h : fixL 4 a = fixL 4 b) : a = b := by
  have := congrArg rfix h
  rw [rfix_fixL_lt (by have : (256 : Nat) ^ 4 = 4294967296 := by decide
                       omega), rfix_fixL_lt (by have : (256 : Nat) ^ 4 = 4294967296 := by decide
                                                omega)] at this
  exact this
/-- A frame's bytes with one changed are none's. -/
theorem frameB_set {p y p' y' : List UInt8} (hp : p.length = 25) (hp' : p'.length = 25) (hy : y.length = 512) (hy' : y'.length = 512) (i : Nat) (hi : i < 576) (d : UInt8)
    (hd : (frameB p y)[i]'(by simp [frameB, sectB_length]; omega) ≠ d) : frameB p' y' ≠ (frameB p y).set i d := by
  intro h
  have hl : (frameB p y).length = 576 := by simp [frameB, sectB_length]; omega
  have tp : ∀ (p y : List UInt8), p.length = 25 → (frameB p y).take 25 = p := fun p y hp => by
    rw [← hp]; simp [frameB, sectB, List.append_assoc]
  have ty : ∀ (p y : List UInt8), p.length = 25 → (frameB p y).drop 64 = y := fun p y hp => by
    have : (sectB p y).length = 64 := by rw [sectB_length]; omega
    unfold frameB
    rw [← this, List.drop_left]
  have ts : ∀ (p y : List UInt8), p.length = 25 → ((frameB p y).drop 25).take 4 = fixL 4 (sumL (p ++ y)) := fun p y hp => by
    rw [← hp]
    simp only [frameB, sectB, List.append_assoc, List.drop_left]
    rw [List.take_append_of_le_length (by rw [fixL_length]; omega), List.take_of_length_le (by rw [fixL_length]; omega)]
  have hne : ∀ l : List UInt8, l = frameB p y → l ≠ (frameB p y).set i d := by
    rintro l rfl e
    have h7 := List.getElem_of_eq e (i := i) (by omega)
    rw [List.getElem_set_self] at h7
    exact hd h7
  have hset : ∀ (l : List UInt8) (i : Nat) (hi : i < l.length), l.set i d = l → l[i] = d := fun l i hi e => by
    have h7 := List.getElem_of_eq e (i := i) (by simpa using hi)
    rw [List.getElem_set_self] at h7
    exact h7.symm
  by_cases h25 : i < 25
  · have e1 : y' = y := by
      have := congrArg (List.drop 64) h
      rw [ty _ _ hp', List.drop_set_of_lt (by omega), ty _ _ hp] at this
      exact this
    have e2 : p' = p.set i d := by
      have := congrArg (List.take 25) h
      rw [tp _ _ hp', List.take_set, tp _ _ hp] at this
      exact this
    have e3 : sumL (p' ++ y') = sumL (p ++ y) := by
      have := congrArg (fun l => (List.drop 25 l).take 4) h
      simp only [ts _ _ hp', List.drop_set_of_lt h25, ts _ _ hp] at this
      exact fixL4_inj (sumL_lt _) (sumL_lt _) this
    have hx : (p ++ y)[i]'(by simp; omega) ≠ d := by
      intro e
      apply hd
      rw [← e]
      simp [frameB, sectB, List.getElem_append_left, List.append_assoc, show i < p.length by omega]
    refine sumL_set (p ++ y) i (by simp; omega) d hx ?_
    rw [← e3, e1, e2, List.set_append_left _ _ (by omega)]
  · have e2 : p' = p := by
      have := congrArg (List.take 25) h
      rw [tp _ _ hp', List.take_set_of_le (by omega), tp _ _ hp] at this
      exact this
    by_cases h64 : i < 64
    · have e1 : y' = y := by
        have := congrArg (List.drop 64) h
        rw [ty _ _ hp', List.drop_set_of_lt (by omega), ty _ _ hp] at this
        exact this
      exact hne _ (by rw [e1, e2]) h
    · have e1 : y' = y.set (i - 64) d := by
        have := congrArg (List.drop 64) h
        rw [ty _ _ hp', List.drop_set, if_neg (by omega), ty _ _ hp] at this
        exact this
      have e3 : sumL (p' ++ y') = sumL (p ++ y) := by
        have := congrArg (fun l => (List.drop 25 l).take 4) h
        simp only [ts _ _ hp', List.drop_set, if_neg (show ¬ i < 25 by omega)] at this
        rw [List.take_set_of_le (by omega), ts _ _ hp] at this
        exact fixL4_inj (sumL_lt _) (sumL_lt _) this
      have hj : 25 + (i - 64) < (p ++ y).length := by simp; omega
      have hx : (p ++ y)[25 + (i - 64)]'hj ≠ d := by
        intro e
        apply hd
        rw [← e]
        have h1 : (frameB p y)[i]'(by omega) = y[i - 64]'(by omega) := by
          have : (sectB p y).length = 64 := by rw [sectB_length]; omega
          unfold frameB
          rw [List.getElem_append_right (by omega)]
          simp only [this]
        rw [h1, List.getElem_append_right (by omega)]
        simp only [hp]
        congr 1
        omega
      refine sumL_set (p ++ y) (25 + (i - 64)) hj d hx ?_
      rw [← e3, e1, e2, List.set_append_right _ _ (by omega)]
      congr 3
      omega
end Go.Proofs.Ytlelckdcmlpmdaa
/- Steps of a region that draws its order, for go_region_held3: append and copy of bytes. -/
namespace Go.Proofs.Ytlelckdcmlpmdaa
open Go Go.RowKit Lou

theorem run_appB {w : World} (ty : TypeId) (base : Nat) (v : Value) (l : List UInt8) (hown : OwnB w base v l) (B : Nat) (A : Option Addr) (c : Nat) (l2 : List UInt8) (hin : InB w B A c l2)
    (hbytes : l.length + l2.length ≤ 140737488355328) (hbase : base ≤ w.heap.size) :
    ∃ v' w', (Builtin.append_ #[30, 30] ty #[v, .slice A l2.length c]).run Try.prog w = .ok v' w' ∧ OwnB w' base v' (l ++ l2) ∧ w.grownBy w' v.ownBlock ∧ (v'.ownBlock = v.ownBlock ∨ v'.ownBlock = some w.heap.size) := by
  obtain ⟨i0, hi, hz0, hz1, hz2⟩ := info_parts inf_u8
  have hle := hin.le
  rcases A with _ | ad
  · have hc0 := hin.nil rfl
    obtain rfl : l2 = [] := List.eq_nil_of_length_eq_zero (by omega)
    subst hc0
    have hr := run_append_owned_none (P := Try.prog) w base 30 ty 5 i0 1 Try.underlying30 hi v l.length (l.map b8) hown
    exact ⟨v, w, hr, by rw [List.append_nil]; exact hown, World.grownBy.refl _ _, .inl rfl⟩
  · have hnews : ∀ j u, (l2.map b8)[j]? = some u → w.cell? (ad.add j) = some u := by
      intro j u hu
      have hj : j < l2.length := by
        rcases Nat.lt_or_ge j l2.length with h | h
        · exact h
        · rw [List.getElem?_eq_none (by simpa using h)] at hu; cases hu
      obtain ⟨g, o', hA, _, hc⟩ := hin.lies (by omega)
      obtain rfl : ad = ⟨g, o', none⟩ := by simpa using hA
      have e : (⟨g, o', none⟩ : Addr).add j = ⟨g, o' + j, none⟩ := by unfold Addr.add; split <;> simp_all
      rw [e, hc j hj]
      simpa [hj, b8] using hu
    obtain ⟨v', w', hr, h2, h3, _, h5⟩ := run_append_own_at (P := Try.prog) w base 30 ty 5 i0 (.int .u8 0) 1 1 Try.underlying30 hi hz0 hz1 hz2 rfl (by decide) v l.length (l.map b8) hown ad l2.length c (l2.map b8) (by simp) hnews (by simp [b8, Value.oneCell']) (by unfold maxLen; omega) (by omega) hbase
    refine ⟨v', w', hr, ?_, h3, h5⟩
    unfold OwnB
    simpa using h2

theorem zeroCells_b8 (k : Nat) : Builtin.zeroCells (Value.int .u8 0).cells k = ((List.replicate k (0 : UInt8)).map b8).toArray := by
  apply Array.ext'
  have : (Value.int .u8 0).cells = #[.int .u8 0] := rfl
  rw [this]
  have h : (Builtin.zeroCells #[Value.int .u8 0] k).toList = List.replicate k (.int .u8 0) := by
    unfold Builtin.zeroCells
    simp only [Array.toList_map, List.toList_toArray, List.map_map, Array.toList_range]
    apply List.ext_getElem
    · simp
    · intro i h1 h2
      simp [Nat.mod_one]
  rw [h]
  simp [b8]
/-- append(v, make([]byte, k)...), v the call's own. -/
theorem run_appZ {w : World} (ty : TypeId) (base : Nat) (v : Value) (l : List UInt8) (hown : OwnB w base v l) (k : Nat) (h0 : 0 < k) (hbytes : l.length + k ≤ 1000000000) (hbase : base ≤ w.heap.size) :
    ∃ v' w', (Builtin.append_ #[30, 3] ty #[v, .int .i64 (k : Int)]).run Try.prog w = .ok v' w' ∧ OwnB w' base v' (l ++ List.replicate k 0) ∧ w.grownBy w' v.ownBlock ∧ (v'.ownBlock = v.ownBlock ∨ v'.ownBlock = some w.heap.size) := by
  obtain ⟨i0, hi, hz0, hz1, hz2⟩ := info_parts inf_u8
  have fresh : ∀ (old : Nat) (l' : List UInt8), (h : old < l'.length + k) → l'.length + k ≤ 1000000000 →
      OwnB (w.drew.alloc (.cells ((l'.map b8).toArray ++ Builtin.zeroCells (Value.int .u8 0).cells k ++ Builtin.zeroCells (Value.int .u8 0).cells (grownCap w (l'.length + k) old 5 - (l'.length + k))) 5)) base (.slice (some ⟨w.heap.size, 0, none⟩) (l'.length + k) (grownCap w (l'.length + k) old 5)) (l' ++ List.replicate k 0) := by
    intro old l' ho hb
    have hcap := grownCap_le_maxLen w (l'.length + k) old 5 (by unfold maxLen; omega)
    have hge := grownCap_ge w (l'.length + k) old 5
    generalize grownCap w (l'.length + k) old 5 = cap at *
    rw [zeroCells_b8, zeroCells_b8]
    refine ⟨by simp, .inr ⟨w.heap.size, cap, _, by simp, hbase, heap_alloc_new w.drew _, by simp; omega, hcap, by simp; omega, ?_⟩⟩
    have e : ∀ d, List.replicate (k + d) (b8 0) = List.replicate k (b8 0) ++ List.replicate d (b8 0) := fun d => by simp
    simp only [List.length_append, List.length_replicate, Nat.mul_one, Array.toList_append, List.map_append, List.map_replicate, List.append_assoc]
    rw [← List.append_assoc, List.take_append_of_le_length (by simp), List.take_of_length_le (by simp)]
  rcases hown.2 with ⟨rfl, h1⟩ | ⟨g, cap, cur, rfl, hb, hg, hle, hm, hs, ht⟩
  · obtain rfl := List.eq_nil_of_length_eq_zero h1
    have hr := Lib.run_append_nil_zeros (P := Try.prog) w 30 3 ty 5 i0 (.int .u8 0) .i64 .i64 Try.underlying30 Try.underlying3 hi hz0 k h0 (by omega) (by omega) (by rw [hz2]; simp at hbytes; omega)
    have hf := fresh 0 [] (by simp; omega) hbytes
    simp only [List.length_nil, Nat.zero_add, List.map_nil, List.nil_append] at hf
    refine ⟨_, _, hr, ?_, ⟨rfl, rfl, rfl, by simp, fun j hj _ => heap_alloc_old w.drew _ hj⟩, .inr rfl⟩
    simpa using hf
  · by_cases hroom : l.length + k ≤ cap
    · have hst := run_storeCells_at (P := Try.prog) g l.length 5 ((List.replicate k (0 : UInt8)).map b8) 0 cur w hg (by simp; omega) (fun v hv => by simp at hv; obtain ⟨_, rfl⟩ := hv; rfl)
      have e1 : (cur.toList.take (l.length + 0) ++ (List.replicate k (0 : UInt8)).map b8 ++ cur.toList.drop (l.length + 0 + ((List.replicate k (0 : UInt8)).map b8).length)).toArray.toList.take (l.length + k) = (l ++ List.replicate k 0).map b8 := by
        have e2 : cur.toList.take l.length = l.map b8 := by simpa using ht
        simp only [Nat.add_zero, e2, List.map_append]
        rw [List.take_append_of_le_length (by simp)]
        rw [List.take_of_length_le (by simp)]
      have hCs : (cur.toList.take (l.length + 0) ++ (List.replicate k (0 : UInt8)).map b8 ++ cur.toList.drop (l.length + 0 + ((List.replicate k (0 : UInt8)).map b8).length)).toArray.size = cap := by
        simp
        omega
      generalize (cur.toList.take (l.length + 0) ++ (List.replicate k (0 : UInt8)).map b8 ++ cur.toList.drop (l.length + 0 + ((List.replicate k (0 : UInt8)).map b8).length)).toArray = C at hst e1 hCs
      refine ⟨.slice (some ⟨g, 0, none⟩) (l.length + k) cap, w.setRow g C, ?_, ?_, ⟨rfl, rfl, rfl, by simp [World.setRow], fun j _ hj => setRow_other w g j _ (fun e => hj (by simp [Value.ownBlock, e]))⟩, .inl rfl⟩
      · have hk : k ≠ 0 := by omega
        have hw : IntKind.i64.wrap (k : Int) = k := by rw [IntKind.wrap_i64]; omega
        have h48i : ¬ (281474976710656 < (k : Int) * (i0.bytes : Int)) := by rw [hz2]; omega
        have hneg : ¬ ((k : Int) < 0) := by omega
        have hns : ¬ (k * i0.size = 0) := by rw [hz1]; omega
        have ea : (⟨g, 0, none⟩ : Addr).add (l.length * i0.size) = ⟨g, l.length, none⟩ := by rw [hz1, Nat.mul_one]; unfold Addr.add; split <;> simp_all
        have hzc := zeroCells_b8 k
        have hst' : (storeCells ⟨g, l.length, none⟩ (Builtin.zeroCells (Value.int .u8 0).cells k).toList).run Try.prog w = .ok () (w.setRow g C) := by
          rw [hzc]
          simpa using hst
        simp [Builtin.append_, run_underlying Try.underlying30, run_underlying Try.underlying3, sizeOf, typeInfo, zeroValue, hi, hz0, asInt, asIntOf, hw, hroom, hneg, hns, h48i, ea, hst']
      · refine ⟨by simp, .inr ⟨g, cap, _, by simp, hb, setRow_heap w g cur _ _ _ hg, by simpa using hroom, hm, by omega, ?_⟩⟩
        simpa using e1
    · have hold : (Builtin.firstCells i0.size l.length (.slice (some ⟨g, 0, none⟩) l.length cap)).run Try.prog w.drew = .ok (l.map b8).toArray w.drew := by
        have hl := run_loadCells_list (P := Try.prog) w.drew ⟨g, 0, none⟩ (l.map b8) (fun j u hj => by
          have hj' : j < l.length := by
            have := (List.getElem?_eq_some_iff.1 hj).1
            simpa using this
          have hc := OwnB.cell (w := w) hown j hj'
          have ea : (⟨g, 0, none⟩ : Addr).add j = ⟨g, j, none⟩ := by unfold Addr.add; split <;> simp_all
          rw [ea]
          have hc2 : w.drew.cell? ⟨g, j, none⟩ = some (.int .u8 (l[j].toNat : Int)) := hc
          rw [hc2]
          rw [List.getElem?_map, List.getElem?_eq_getElem hj'] at hj
          simpa [b8] using hj)
        simp only [List.length_map] at hl
        simp [Builtin.firstCells, hz1, hl]
      have hr := Lib.run_append_grow_zeros (P := Try.prog) w 30 3 ty 5 i0 (.int .u8 0) .i64 .i64 Try.underlying30 Try.underlying3 hi hz0 (some ⟨g, 0, none⟩) l.length cap (l.map b8) hold k h0 (by rw [hz1]; omega) (by omega) (by omega) (by rw [hz2]; omega) (growslice_fits (by omega) (by rw [hz2]; omega))
      refine ⟨_, _, hr, ?_, ⟨rfl, rfl, rfl, by simp, fun j hj _ => heap_alloc_old w.drew _ hj⟩, .inr rfl⟩
      have := fresh cap l (by omega) hbytes
      simpa using this
theorem OwnB.later {w w' : World} {base : Nat} {v : Value} {l : List UInt8} (h : OwnB w base v l) (hB : Below w.heap.size w w') : OwnB w' base v l := by
  refine ⟨h.1, ?_⟩
  rcases h.2 with h | ⟨g, cap, cur, h1, h2, h3, h4⟩
  · exact .inl h
  · exact .inr ⟨g, cap, cur, h1, h2, (hB.block g (Array.getElem?_eq_some_iff.1 h3).1).trans h3, h4⟩
/-- A row's block lies at the base or behind it. -/
theorem OwnB.ownGe {w : World} {base : Nat} {v : Value} {l : List UInt8} (h : OwnB w base v l) : ∀ r, v.ownBlock = some r → base ≤ r := by
  intro r hr
  rcases h.form with ⟨rfl, _⟩ | ⟨g, cap, rfl, hb, _⟩
  · cases hr
  · injection hr with hr
    subst hr
    exact hb
theorem grown_below {w w' : World} {B : Nat} {row : Option Nat} (hg : w.grownBy w' row) (hB : B ≤ w.heap.size) (hr : ∀ r, row = some r → B ≤ r) : Below B w w' :=
  ⟨hg.os, hg.tape, hg.output, hg.size, fun k hk => hg.block k (by omega) (fun e => by have := hr k e.symm; omega)⟩
/-- What a region's loads read, behind what turns nothing that was there. -/
theorem keepB1 {w1 W W' : World} {g i : Nat} {x : Value} (hB : Below w1.heap.size W W') (h : Below w1.heap.size w1 W ∧ W.cell? ⟨g, i, none⟩ = some x) (hg : g < w1.heap.size) : Below w1.heap.size w1 W' ∧ W'.cell? ⟨g, i, none⟩ = some x :=
  ⟨h.1.trans hB, (hB.cell (p := ⟨g, i, none⟩) hg).trans h.2⟩
theorem keepB2 {w1 W W' : World} {g i j : Nat} {x y : Value} (hB : Below w1.heap.size W W') (h : Below w1.heap.size w1 W ∧ W.cell? ⟨g, i, none⟩ = some x ∧ W.cell? ⟨g, j, none⟩ = some y) (hg : g < w1.heap.size) :
    Below w1.heap.size w1 W' ∧ W'.cell? ⟨g, i, none⟩ = some x ∧ W'.cell? ⟨g, j, none⟩ = some y :=
  ⟨h.1.trans hB, (hB.cell (p := ⟨g, i, none⟩) hg).trans h.2.1, (hB.cell (p := ⟨g, j, none⟩) hg).trans h.2.2⟩

section
variable {w : World} {ops : Array Oper} {o : Oper} {a : Act} {K : Act → World → Prop} {Q : Exit → Act → World → Prop} {E : Prop}
theorem oper_appB (s x : Operand) (ho : o.op = .call { callee := .builtin .append, args := #[s, x], argTypes := #[30, 30] })
    (base : Nat) (v : Value) (l : List UInt8) (hs : a.eval s = v) (hown : OwnB w base v l) (B : Nat) (A : Option Addr) (c : Nat) (l2 : List UInt8) (hx : a.eval x = .slice A l2.length c) (hin : InB w B A c l2)
    (hbytes : l.length + l2.length ≤ 140737488355328) (hbase : base ≤ w.heap.size)
    (h : ∀ v' w', OwnB w' base v' (l ++ l2) → w.grownBy w' v.ownBlock → (v'.ownBlock = v.ownBlock ∨ v'.ownBlock = some w.heap.size) → K (a.put o.dst v') w') : o.wp Try.prog a w K Q := by
  obtain ⟨v', w', hr, h2, h3, h4⟩ := run_appB o.type base v l hown B A c l2 hin hbytes hbase
  unfold Oper.wp execOp
  simp only [ho, resolve, invoke, builtin, Sem.run_bind, Sem.run_pure, Result.andThen_ok, List.map_toArray, List.map_cons, List.map_nil, hs, hx, hr]
  exact h v' w' h2 h3 h4
theorem step_appB (hgd : o.guard = none) (s x : Operand) (ho : o.op = .call { callee := .builtin .append, args := #[s, x], argTypes := #[30, 30] })
    (base : Nat) (v : Value) (l : List UInt8) (hs : a.eval s = v) (hown : OwnB w base v l) (B : Nat) (A : Option Addr) (c : Nat) (l2 : List UInt8) (hx : a.eval x = .slice A l2.length c) (hin : InB w B A c l2)
    (hbytes : l.length + l2.length ≤ 140737488355328) (hbase : base ≤ w.heap.size)
    (h : ∀ v' w', OwnB w' base v' (l ++ l2) → w.grownBy w' v.ownBlock → (v'.ownBlock = v.ownBlock ∨ v'.ownBlock = some w.heap.size) → K (a.put o.dst v') w') :
    if Region.wanted o (yielded ops a.tmps) = true then Oper.wp Try.prog o a w K Q else E := by
  have hw : Region.wanted o (yielded ops a.tmps) = true := by simp [Region.wanted, hgd]
  rw [if_pos hw]
  exact oper_appB s x ho base v l hs hown B A c l2 hx hin hbytes hbase h
theorem oper_appZ (s x : Operand) (ho : o.op = .call { callee := .builtin .append, args := #[s, x], argTypes := #[30, 3] })
    (base : Nat) (v : Value) (l : List UInt8) (hs : a.eval s = v) (hown : OwnB w base v l) (k : Nat) (hx : a.eval x = .int .i64 (k : Int)) (h0 : 0 < k) (hbytes : l.length + k ≤ 1000000000) (hbase : base ≤ w.heap.size)
    (h : ∀ v' w', OwnB w' base v' (l ++ List.replicate k 0) → w.grownBy w' v.ownBlock → (v'.ownBlock = v.ownBlock ∨ v'.ownBlock = some w.heap.size) → K (a.put o.dst v') w') : o.wp Try.prog a w K Q := by
  obtain ⟨v', w', hr, h2, h3, h4⟩ := run_appZ o.type base v l hown k h0 hbytes hbase
  unfold Oper.wp execOp
  simp only [ho, resolve, invoke, builtin, Sem.run_bind, Sem.run_pure, Result.andThen_ok, List.map_toArray, List.map_cons, List.map_nil, hs, hx, hr]
  exact h v' w' h2 h3 h4
theorem wp_appZ {rest : List Oper} (hgd : o.guard = none) (s x : Operand) (ho : o.op = .call { callee := .builtin .append, args := #[s, x], argTypes := #[30, 3] })
    (base : Nat) (v : Value) (l : List UInt8) (hs : a.eval s = v) (hown : OwnB w base v l) (k : Nat) (hx : a.eval x = .int .i64 (k : Int)) (h0 : 0 < k) (hbytes : l.length + k ≤ 1000000000) (hbase : base ≤ w.heap.size)
    (h : ∀ v' w', OwnB w' base v' (l ++ List.replicate k 0) → w.grownBy w' v.ownBlock → (v'.ownBlock = v.ownBlock ∨ v'.ownBlock = some w.heap.size) → wpList Try.prog ops Q rest (a.put o.dst v') w') : wpList Try.prog ops Q (o :: rest) a w :=
  wpList_plain hgd fun _ hK => oper_appZ s x ho base v l hs hown k hx h0 hbytes hbase fun v' w' h1 h2 h3 => hK _ _ (h v' w' h1 h2 h3)
theorem step_copyB (hgd : o.guard = none) (d s : Operand) (ho : o.op = .call { callee := .builtin .copy, args := #[d, s], argTypes := #[30, 30] })
    (g off : Nat) (l src : List UInt8) (A : Option Addr) (c B dLen dCap : Nat) (hd : a.eval d = .slice (some ⟨g, off, none⟩) dLen dCap) (hs : a.eval s = .slice A src.length c)
    {T : TypeId} (hb : BlkIs w g T (l.map b8).toArray) (hin : InB w B A c src) (hfit : off + dLen ≤ l.length)
    (h : K (a.put o.dst (.int .i64 ((min src.length dLen : Nat) : Int))) (w.setRow g ((spliceB l off dLen src).map b8).toArray)) :
    if Region.wanted o (yielded ops a.tmps) = true then Oper.wp Try.prog o a w K Q else E := by
  have hw : Region.wanted o (yielded ops a.tmps) = true := by simp [Region.wanted, hgd]
  rw [if_pos hw]
  exact oper_copyB d s ho g off l src A c B dLen dCap hd hs hb hin hfit h
end
end Go.Proofs.Ytlelckdcmlpmdaa
/- frame.head: a head's sector. -/
namespace Go.Proofs.Ytlelckdcmlpmdaa
open Go Go.RowKit Lou

theorem conv_3_45 (r : Nat) (h : r < 4294967296) (w : World) : (convert 3 45 (.int .i64 r)).run Try.prog w = .ok (.int .u32 r) w := by
  have e : IntKind.u32.wrap (r : Int) = r := by
    show (r : Int) % 4294967296 = r
    omega
  have k : Try.prog.intKind 45 = .u32 := by kernel_rfl
  have h := run_convert_int (P := Try.prog) (w := w) 3 45 .i64 r (by kernel_rfl) (by kernel_rfl)
  rw [k, e] at h
  exact h

set_option maxRecDepth 100000 in
set_option maxHeartbeats 4000000 in
theorem head_gives (s e z c : Nat) (hz : z ≤ 2000) (hc : c ≤ 2000) (w : World) :
    Calls Try.prog 137 #[.agg #[.int .u64 (s : Int), .int .u64 (e : Int), .int .i64 (z : Int), .int .i64 (c : Int)]] w fun x w' => x = .returned (.agg ((headW s e z c).map b8).toArray) ∧ Below w.heap.size w w' := by
  have hz32 := conv_3_45 z (by omega)
  have hc32 := conv_3_45 c (by omega)
  have hcat : ∀ w u, Lists [fixL 8 s, fixL 8 e, fixL 4 z, fixL 4 c] u w → Calls Try.prog 142 #[u] w fun e' w' => ∃ v, e' = .returned v ∧ Grow w w' ∧ (Fact.res (headB s e z c)).holds v w' := fun w u hu =>
    Reg.gives_res (concatL_gives hu (by simp) (by have := headB_length s e z c; unfold headB at this; omega))
  have hBw : Below w.heap.size w ((w.alloc (.cells #[.int .u64 (s : Int), .int .u64 (e : Int), .int .i64 (z : Int), .int .i64 (c : Int)] 109)).alloc (.cells #[.int .u8 0, .int .u8 0, .int .u8 0, .int .u8 0, .int .u8 0, .int .u8 0, .int .u8 0, .int .u8 0, .int .u8 0, .int .u8 0, .int .u8 0, .int .u8 0, .int .u8 0, .int .u8 0, .int .u8 0, .int .u8 0, .int .u8 0, .int .u8 0, .int .u8 0, .int .u8 0, .int .u8 0, .int .u8 0, .int .u8 0, .int .u8 0, .int .u8 0, .int .u8 0, .int .u8 0, .int .u8 0, .int .u8 0, .int .u8 0, .int .u8 0, .int .u8 0, .int .u8 0, .int .u8 0, .int .u8 0, .int .u8 0, .int .u8 0, .int .u8 0, .int .u8 0, .int .u8 0, .int .u8 0, .int .u8 0, .int .u8 0, .int .u8 0, .int .u8 0, .int .u8 0, .int .u8 0, .int .u8 0, .int .u8 0, .int .u8 0, .int .u8 0, .int .u8 0, .int .u8 0, .int .u8 0, .int .u8 0, .int .u8 0, .int .u8 0, .int .u8 0, .int .u8 0, .int .u8 0, .int .u8 0, .int .u8 0, .int .u8 0, .int .u8 0] 236)) := ((Below.refl _ w).alloc (Nat.le_refl _) _).alloc (by simp) _
  have hbh : BlkIs ((w.alloc (.cells #[.int .u64 (s : Int), .int .u64 (e : Int), .int .i64 (z : Int), .int .i64 (c : Int)] 109)).alloc (.cells #[.int .u8 0, .int .u8 0, .int .u8 0, .int .u8 0, .int .u8 0, .int .u8 0, .int .u8 0, .int .u8 0, .int .u8 0, .int .u8 0, .int .u8 0, .int .u8 0, .int .u8 0, .int .u8 0, .int .u8 0, .int .u8 0, .int .u8 0, .int .u8 0, .int .u8 0, .int .u8 0, .int .u8 0, .int .u8 0, .int .u8 0, .int .u8 0, .int .u8 0, .int .u8 0, .int .u8 0, .int .u8 0, .int .u8 0, .int .u8 0, .int .u8 0, .int .u8 0, .int .u8 0, .int .u8 0, .int .u8 0, .int .u8 0, .int .u8 0, .int .u8 0, .int .u8 0, .int .u8 0, .int .u8 0, .int .u8 0, .int .u8 0, .int .u8 0, .int .u8 0, .int .u8 0, .int .u8 0, .int .u8 0, .int .u8 0, .int .u8 0, .int .u8 0, .int .u8 0, .int .u8 0, .int .u8 0, .int .u8 0, .int .u8 0, .int .u8 0, .int .u8 0, .int .u8 0, .int .u8 0, .int .u8 0, .int .u8 0, .int .u8 0, .int .u8 0] 236)) w.heap.size 109 #[.int .u64 (s : Int), .int .u64 (e : Int), .int .i64 (z : Int), .int .i64 (c : Int)] := (BlkIs.new w 109 _).alloc _
  have hbs : BlkIs ((w.alloc (.cells #[.int .u64 (s : Int), .int .u64 (e : Int), .int .i64 (z : Int), .int .i64 (c : Int)] 109)).alloc (.cells #[.int .u8 0, .int .u8 0, .int .u8 0, .int .u8 0, .int .u8 0, .int .u8 0, .int .u8 0, .int .u8 0, .int .u8 0, .int .u8 0, .int .u8 0, .int .u8 0, .int .u8 0, .int .u8 0, .int .u8 0, .int .u8 0, .int .u8 0, .int .u8 0, .int .u8 0, .int .u8 0, .int .u8 0, .int .u8 0, .int .u8 0, .int .u8 0, .int .u8 0, .int .u8 0, .int .u8 0, .int .u8 0, .int .u8 0, .int .u8 0, .int .u8 0, .int .u8 0, .int .u8 0, .int .u8 0, .int .u8 0, .int .u8 0, .int .u8 0, .int .u8 0, .int .u8 0, .int .u8 0, .int .u8 0, .int .u8 0, .int .u8 0, .int .u8 0, .int .u8 0, .int .u8 0, .int .u8 0, .int .u8 0, .int .u8 0, .int .u8 0, .int .u8 0, .int .u8 0, .int .u8 0, .int .u8 0, .int .u8 0, .int .u8 0, .int .u8 0, .int .u8 0, .int .u8 0, .int .u8 0, .int .u8 0, .int .u8 0, .int .u8 0, .int .u8 0] 236)) (w.heap.size + 1) 236 ((List.replicate 64 (0 : UInt8)).map b8).toArray := by
    have h := BlkIs.new (w.alloc (.cells #[.int .u64 (s : Int), .int .u64 (e : Int), .int .i64 (z : Int), .int .i64 (c : Int)] 109)) 236 #[.int .u8 0, .int .u8 0, .int .u8 0, .int .u8 0, .int .u8 0, .int .u8 0, .int .u8 0, .int .u8 0, .int .u8 0, .int .u8 0, .int .u8 0, .int .u8 0, .int .u8 0, .int .u8 0, .int .u8 0, .int .u8 0, .int .u8 0, .int .u8 0, .int .u8 0, .int .u8 0, .int .u8 0, .int .u8 0, .int .u8 0, .int .u8 0, .int .u8 0, .int .u8 0, .int .u8 0, .int .u8 0, .int .u8 0, .int .u8 0, .int .u8 0, .int .u8 0, .int .u8 0, .int .u8 0, .int .u8 0, .int .u8 0, .int .u8 0, .int .u8 0, .int .u8 0, .int .u8 0, .int .u8 0, .int .u8 0, .int .u8 0, .int .u8 0, .int .u8 0, .int .u8 0, .int .u8 0, .int .u8 0, .int .u8 0, .int .u8 0, .int .u8 0, .int .u8 0, .int .u8 0, .int .u8 0, .int .u8 0, .int .u8 0, .int .u8 0, .int .u8 0, .int .u8 0, .int .u8 0, .int .u8 0, .int .u8 0, .int .u8 0, .int .u8 0]
    rw [World.size_alloc] at h
    exact h
  go_enter Try.func137, Try.ntmps137
  go_wp2_with fail
  generalize (w.alloc (.cells #[.int .u64 (s : Int), .int .u64 (e : Int), .int .i64 (z : Int), .int .i64 (c : Int)] 109)).alloc (.cells #[.int .u8 0, .int .u8 0, .int .u8 0, .int .u8 0, .int .u8 0, .int .u8 0, .int .u8 0, .int .u8 0, .int .u8 0, .int .u8 0, .int .u8 0, .int .u8 0, .int .u8 0, .int .u8 0, .int .u8 0, .int .u8 0, .int .u8 0, .int .u8 0, .int .u8 0, .int .u8 0, .int .u8 0, .int .u8 0, .int .u8 0, .int .u8 0, .int .u8 0, .int .u8 0, .int .u8 0, .int .u8 0, .int .u8 0, .int .u8 0, .int .u8 0, .int .u8 0, .int .u8 0, .int .u8 0, .int .u8 0, .int .u8 0, .int .u8 0, .int .u8 0, .int .u8 0, .int .u8 0, .int .u8 0, .int .u8 0, .int .u8 0, .int .u8 0, .int .u8 0, .int .u8 0, .int .u8 0, .int .u8 0, .int .u8 0, .int .u8 0, .int .u8 0, .int .u8 0, .int .u8 0, .int .u8 0, .int .u8 0, .int .u8 0, .int .u8 0, .int .u8 0, .int .u8 0, .int .u8 0, .int .u8 0, .int .u8 0, .int .u8 0, .int .u8 0] 236) = w1 at *
  have hc0 : ∀ w', Grow w1 w' → w'.cell? ⟨w.heap.size, 0, none⟩ = some (.int .u64 s) := fun w' hg => (hg.cell (p := ⟨w.heap.size, 0, none⟩) hbh.lt).trans (by rw [hbh.cell]; rfl)
  have hc1 : ∀ w', Grow w1 w' → w'.cell? ⟨w.heap.size, 1, none⟩ = some (.int .u64 e) := fun w' hg => (hg.cell (p := ⟨w.heap.size, 1, none⟩) hbh.lt).trans (by rw [hbh.cell]; rfl)
  have hc2 : ∀ w', Grow w1 w' → w'.cell? ⟨w.heap.size, 2, none⟩ = some (.int .i64 z) := fun w' hg => (hg.cell (p := ⟨w.heap.size, 2, none⟩) hbh.lt).trans (by rw [hbh.cell]; rfl)
  have hc3 : ∀ w', Grow w1 w' → w'.cell? ⟨w.heap.size, 3, none⟩ = some (.int .i64 c) := fun w' hg => (hg.cell (p := ⟨w.heap.size, 3, none⟩) hbh.lt).trans (by rw [hbh.cell]; rfl)
  open Reg in
  refine region_acts (by kernel_rfl) (by kernel_rfl) 33 rfl (by kernel_rfl) [5, 6, 7, 8, 9, 10, 11, 12, 13, 14, 15, 16, 17, 18, 19, 20, 3] (by kernel_rfl)
    [(1, .val (.pointer (some ⟨w.heap.size, 0, none⟩)))]
    [(5, .val (.pointer (some ⟨w.heap.size, 0, none⟩))), (6, .val (.int .u64 (s : Int))), (7, .res (fixL 8 s)), (8, .val (.pointer (some ⟨w.heap.size, 1, none⟩))), (9, .val (.int .u64 (e : Int))), (10, .res (fixL 8 e)), (11, .val (.pointer (some ⟨w.heap.size, 2, none⟩))), (12, .val (.int .i64 (z : Int))), (13, .val (.int .u32 (z : Int))), (14, .res (fixL 4 z)), (15, .val (.pointer (some ⟨w.heap.size, 3, none⟩))), (16, .val (.int .i64 (c : Int))), (17, .val (.int .u32 (c : Int))), (18, .res (fixL 4 c)), (19, .pred (Lists [fixL 8 s, fixL 8 e, fixL 4 z, fixL 4 c]) (lists_stable _)), (20, .res (headB s e z c)), (3, .res (headB s e z c))]
    ⟨rfl, trivial⟩ (by kernel_rfl)
    (allOk_cons (ok_none rfl (l_run1 (.tmp 1) (.pointer (some ⟨w.heap.size, 0, none⟩)) (.pointer (some ⟨w.heap.size, 0, none⟩)) (hs 1 _ (by kernel_rfl) (by kernel_rfl)) (fun ρ w h => by simp [execOp, h, go_sem, Result.andThen]) (by kernel_rfl)))
    <| allOk_cons (ok_none rfl (l_load (.tmp 5) (⟨w.heap.size, 0, none⟩) _ (.int .u64 (s : Int)) (by intro w; simp [go_sem, Try.underlying41]) rfl (hs 5 (.pointer (some ⟨w.heap.size, 0, none⟩)) (by kernel_rfl) (by kernel_rfl)) (fun w hg => hc0 w hg) (by kernel_rfl)))
    <| allOk_cons (ok_none rfl (l_call 45 _ _ rfl (enters_of Try.func45 (by kernel_rfl) rfl) #[.int .u64 (s : Int)] (.res (fixL 8 s)) (args1 (hs 6 (.int .u64 (s : Int)) (by kernel_rfl) (by kernel_rfl))) (fun w hg => gives_res (eight_gives s w)) (by kernel_rfl)))
    <| allOk_cons (ok_none rfl (l_run1 (.tmp 1) (.pointer (some ⟨w.heap.size, 0, none⟩)) (.pointer (some ⟨w.heap.size, 1, none⟩)) (hs 1 _ (by kernel_rfl) (by kernel_rfl)) (fun ρ w h => by simp [execOp, h, go_sem, Result.andThen]) (by kernel_rfl)))
    <| allOk_cons (ok_none rfl (l_load (.tmp 8) (⟨w.heap.size, 1, none⟩) _ (.int .u64 (e : Int)) (by intro w; simp [go_sem, Try.underlying41]) rfl (hs 8 (.pointer (some ⟨w.heap.size, 1, none⟩)) (by kernel_rfl) (by kernel_rfl)) (fun w hg => hc1 w hg) (by kernel_rfl)))
    <| allOk_cons (ok_none rfl (l_call 45 _ _ rfl (enters_of Try.func45 (by kernel_rfl) rfl) #[.int .u64 (e : Int)] (.res (fixL 8 e)) (args1 (hs 9 (.int .u64 (e : Int)) (by kernel_rfl) (by kernel_rfl))) (fun w hg => gives_res (eight_gives e w)) (by kernel_rfl)))
    <| allOk_cons (ok_none rfl (l_run1 (.tmp 1) (.pointer (some ⟨w.heap.size, 0, none⟩)) (.pointer (some ⟨w.heap.size, 2, none⟩)) (hs 1 _ (by kernel_rfl) (by kernel_rfl)) (fun ρ w h => by simp [execOp, h, go_sem, Result.andThen]) (by kernel_rfl)))
    <| allOk_cons (ok_none rfl (l_load (.tmp 11) (⟨w.heap.size, 2, none⟩) _ (.int .i64 (z : Int)) (by intro w; simp [go_sem, Try.underlying3]) rfl (hs 11 (.pointer (some ⟨w.heap.size, 2, none⟩)) (by kernel_rfl) (by kernel_rfl)) (fun w hg => hc2 w hg) (by kernel_rfl)))
    <| allOk_cons (ok_none rfl (l_convS (.tmp 12) _ _ (.int .i64 (z : Int)) (.int .u32 (z : Int)) rfl (hs 12 (.int .i64 (z : Int)) (by kernel_rfl) (by kernel_rfl)) (fun w hg => hz32 w) (by kernel_rfl)))
    <| allOk_cons (ok_none rfl (l_call 43 _ _ rfl (enters_of Try.func43 (by kernel_rfl) rfl) #[.int .u32 (z : Int)] (.res (fixL 4 z)) (args1 (hs 13 (.int .u32 (z : Int)) (by kernel_rfl) (by kernel_rfl))) (fun w hg => gives_res (four_gives z w)) (by kernel_rfl)))
    <| allOk_cons (ok_none rfl (l_run1 (.tmp 1) (.pointer (some ⟨w.heap.size, 0, none⟩)) (.pointer (some ⟨w.heap.size, 3, none⟩)) (hs 1 _ (by kernel_rfl) (by kernel_rfl)) (fun ρ w h => by simp [execOp, h, go_sem, Result.andThen]) (by kernel_rfl)))
    <| allOk_cons (ok_none rfl (l_load (.tmp 15) (⟨w.heap.size, 3, none⟩) _ (.int .i64 (c : Int)) (by intro w; simp [go_sem, Try.underlying3]) rfl (hs 15 (.pointer (some ⟨w.heap.size, 3, none⟩)) (by kernel_rfl) (by kernel_rfl)) (fun w hg => hc3 w hg) (by kernel_rfl)))
    <| allOk_cons (ok_none rfl (l_convS (.tmp 16) _ _ (.int .i64 (c : Int)) (.int .u32 (c : Int)) rfl (hs 16 (.int .i64 (c : Int)) (by kernel_rfl) (by kernel_rfl)) (fun w hg => hc32 w) (by kernel_rfl)))
    <| allOk_cons (ok_none rfl (l_call 43 _ _ rfl (enters_of Try.func43 (by kernel_rfl) rfl) #[.int .u32 (c : Int)] (.res (fixL 4 c)) (args1 (hs 17 (.int .u32 (c : Int)) (by kernel_rfl) (by kernel_rfl))) (fun w hg => gives_res (four_gives c w)) (by kernel_rfl)))
    <| allOk_cons (ok_none rfl (l_build4 7 10 14 18 (fixL 8 s) (fixL 8 e) (fixL 4 z) (fixL 4 c) rfl (by kernel_rfl) (by kernel_rfl) (by kernel_rfl) (by kernel_rfl) (by kernel_rfl) (by kernel_rfl) (by kernel_rfl) (by kernel_rfl) (by kernel_rfl)))
    <| allOk_cons (ok_none rfl (l_callP 142 19 (Lists [fixL 8 s, fixL 8 e, fixL 4 z, fixL 4 c]) (lists_stable _) _ rfl (enters_of Try.func142 (by kernel_rfl) rfl) (.res (headB s e z c)) (by kernel_rfl) (by kernel_rfl) (fun w u hg hu => hcat w u hu) (by kernel_rfl)))
    <| allOk_cons (ok_none rfl (l_mvF 20 (.res (headB s e z c)) (.inr rfl) (by kernel_rfl) (by kernel_rfl) (by kernel_rfl)))
    <| allOk_nil) ?_
  intro a w3 hsz hdef hGw3 hF hU
  obtain ⟨A3, c3, e3, hin3⟩ := hF 3
  have ha := Reg.acts_eq [5, 6, 7, 8, 9, 10, 11, 12, 13, 14, 15, 16, 17, 18, 19, 20, 3] hsz hdef hU
  clear hF hU hdef
  simp only [List.foldl_cons, List.foldl_nil, e3] at ha
  clear e3 hsz
  generalize a.eval (.tmp 5) = v5 at *
  generalize a.eval (.tmp 6) = v6 at *
  generalize a.eval (.tmp 7) = v7 at *
  generalize a.eval (.tmp 8) = v8 at *
  generalize a.eval (.tmp 9) = v9 at *
  generalize a.eval (.tmp 10) = v10 at *
  generalize a.eval (.tmp 11) = v11 at *
  generalize a.eval (.tmp 12) = v12 at *
  generalize a.eval (.tmp 13) = v13 at *
  generalize a.eval (.tmp 14) = v14 at *
  generalize a.eval (.tmp 15) = v15 at *
  generalize a.eval (.tmp 16) = v16 at *
  generalize a.eval (.tmp 17) = v17 at *
  generalize a.eval (.tmp 18) = v18 at *
  generalize a.eval (.tmp 19) = v19 at *
  generalize a.eval (.tmp 20) = v20 at *
  simp only [Act.put, List.setIfInBounds_toArray, List.set_cons_succ, List.set_cons_zero] at ha
  subst ha
  simp only [Exit.then]
  refine ‹∀ (a : Act) (w : World), Code.wp Try.prog _ _ a w → _› _ w3 ?_
  have hs3 := hbs.below hGw3 hbs.lt
  have hB3 : Below w.heap.size w w3 := hBw.trans (hGw3.mono hBw.size)
  have hl24 := headB_length s e z c
  generalize hbd : headB s e z c = b at *
  have HB := Lib.hid hbd
  clear hbd
  have HL := Lib.hid hl24
  clear hl24 hcat hz32 hc32 hc0 hc1 hc2 hc3 hbh hbs
  go_wp2_with fail
  refine (sum1_gives w3 A3 c3 b hin3).mono ?_
  rintro e4 w4 ⟨rfl, hB4⟩
  have hin4 := (hin3.below hB4).more hB4.size
  have hs4 := hs3.below hB4 hs3.lt
  go_wp2_with fail
  refine (four_gives _ _).mono ?_
  rintro e5 w5 ⟨v, rfl, hown5, hB5⟩
  obtain ⟨A5, k5, rfl, hin5⟩ := hown5.inB
  have hc2 := concat2_gives w5 A3 A5 c3 k5 b _ ((hin4.below hB5).more hB5.size) hin5 (by have := HL.out; simp [fixL_length]; omega)
  rw [fixL_length] at hc2
  have hs5 := hs4.below hB5 hs4.lt
  have hB45 : Below w.heap.size w w5 := (hB3.trans (hB4.mono hB3.size)).trans (hB5.mono (hB3.trans (hB4.mono hB3.size)).size)
  rw [fixL_length]
  go_wp2_with fail
  refine hc2.mono ?_
  rintro e6 w6 ⟨v6, rfl, hown6, hB6⟩
  obtain ⟨A6, k6, rfl, hin6⟩ := hown6.inB
  have hs6 := hs5.below hB6 hs5.lt
  have hB06 : Below w.heap.size w w6 := hB45.trans (hB6.mono hB45.size)
  have honce : b ++ fixL 4 (sumL b) = onceB b := rfl
  rw [honce] at hin6 ⊢
  have hol : (onceB b).length = 28 := by rw [onceB_length, HL.out]
  have HO := Lib.hid hol
  clear hol honce hs3 hs4 hs5 hB3 hB4 hB5 hB45 hin3 hin4 hin5 hown5 hown6 hc2 hB6
  go_wp2_with fail
  have HR := repeat2_gives w6.drew A6 k6 (onceB b) hin6.drew (by have := HO.out; omega) (by have := HO.out; omega)
  obtain ⟨d, hd⟩ : ∃ d, onceB b ++ onceB b = d := ⟨_, rfl⟩
  rw [hd] at HR
  have HD := Lib.hid hd
  clear hd
  go_region_held3 (fun _ => True) (trivial) (first
    | (go_at_call 181; refine HR.mono ?_; rintro e7 w7 ⟨v7, rfl, hown7, hB7⟩; obtain ⟨A7, k7, rfl, hin7⟩ := hown7.inB; have hs7 := hs6.drew.below hB7 hs6.lt)
    | (refine step_copyB (by rfl) (.tmp 28) (.tmp 30) (by rfl) (w.heap.size + 1) 0 (List.replicate 64 0) d A7 k7 _ 64 64 (by rfl) (by rfl) hs7 hin7 (by simp) ?_))
  have hsp : spliceB (List.replicate 64 0) 0 64 d = twiceB b := by
    have := HO.out
    rw [← HD.out]
    simp only [spliceB, twiceB, List.take_zero, List.nil_append, Nat.zero_add, List.drop_replicate, List.length_append]
    rw [List.take_of_length_le (by simp; omega), Nat.min_eq_left (by omega), this]
  rw [hsp]
  have hs8 := hs7.setRow ((twiceB b).map b8).toArray
  have hB8 : Below w.heap.size w (w7.setRow (w.heap.size + 1) ((twiceB b).map b8).toArray) := below_setRow (hB06.drew.trans (hB7.mono hB06.size)) (by omega) _
  generalize w7.setRow (w.heap.size + 1) ((twiceB b).map b8).toArray = w8 at *
  clear hs7 hB7 hin7 hown7 HR hsp
  have h64 : ((twiceB b).map b8).toArray.size = 64 := by
    have := HL.out
    simp [twiceB_length]; omega
  have hRow : RowTy Try.prog 236 ((twiceB b).map b8).toArray.size := by rw [h64]; exact rowSector
  clear h64
  go_wp2_with (first
    | (refine wp_loadW rfl 236 (.tmp 2) rfl (w.heap.size + 1) rfl hRow hs8 rfl ?_)
    | (refine wp_storeW rfl 236 (.tmp 2) (.tmp 32) rfl (w.heap.size + 1) rfl rfl hRow hs8 rfl rfl (b8_one _) ?_))
  have hself : w8.setRow (w.heap.size + 1) ((twiceB b).map b8).toArray = w8 := setRow_self w8 _ _ _ _ hs8
  rw [hself]
  refine bodyPost_ret_by (results_cellW 2 rfl rfl hRow hs8 rfl) rfl ⟨?_, hB8⟩
  unfold headW
  rw [HB.out]
end Go.Proofs.Ytlelckdcmlpmdaa
/- frame.EncodeHead and the reference's. -/
namespace Go.Proofs.Ytlelckdcmlpmdaa
open Go Go.RowKit Lou

/-- Bytes and an error that a call gives. -/
def GivesBE (w0 : World) (l : List UInt8) (n : Int) (e : Ending) (w' : World) : Prop :=
  ∃ A c, e = .returned (.tuple #[.slice A l.length c, .int .i64 n]) ∧ InB w' w'.heap.size A c l ∧ Below w0.heap.size w0 w'
def hEnc (s e : Nat) (z c : Int) : List UInt8 := if headOk z c then headW s e z.toNat c.toNat else []
def hErr (z c : Int) : Int := if headOk z c then 0 else 2
theorem hEnc_ok {s e : Nat} {z c : Nat} (hz : z ≤ 2000) (hc : c ≤ 2000) : hEnc s e z c = headW s e z c ∧ hErr z c = 0 := by
  have : headOk z c = true := by rw [headOk_iff]; omega
  simp [hEnc, hErr, this]
theorem InB.mt (w : World) (B : Nat) : InB w B none 0 [] := ⟨by simp, by omega, fun _ => rfl, fun h => by simp at h⟩
theorem BlkIs.inBT {w : World} {g : Nat} {T : TypeId} {l : List UInt8} (h : BlkIs w g T (l.map b8).toArray) (hm : l.length ≤ 9223372036854775807) : InB w w.heap.size (some ⟨g, 0, none⟩) l.length l :=
  ⟨Nat.le_refl _, hm, (fun e => by cases e), fun _ => ⟨g, 0, rfl, h.lt, fun j hj => by
    rw [h.cell]
    simp [hj, b8]⟩⟩

set_option maxRecDepth 100000 in
set_option maxHeartbeats 4000000 in
theorem encodeHead_gives (s e : Nat) (z c : Int) (w : World) :
    Calls Try.prog 70 #[.agg #[.int .u64 (s : Int), .int .u64 (e : Int), .int .i64 z, .int .i64 c]] w (GivesBE w (hEnc s e z c) (hErr z c)) := by
  have hBw : Below w.heap.size w (w.alloc (.cells #[.int .u64 (s : Int), .int .u64 (e : Int), .int .i64 z, .int .i64 c] 109)) := (Below.refl _ w).alloc (Nat.le_refl _) _
  have hbh := BlkIs.new w 109 #[.int .u64 (s : Int), .int .u64 (e : Int), .int .i64 z, .int .i64 c]
  cases hk : headOk z c with
  | false =>
    have H := fits_gives s e z c (w.alloc (.cells #[.int .u64 (s : Int), .int .u64 (e : Int), .int .i64 z, .int .i64 c] 109))
    rw [hk] at H
    have h1 : hEnc s e z c = [] := by simp [hEnc, hk]
    have h2 : hErr z c = 2 := by simp [hErr, hk]
    rw [h1, h2]
    clear h1 h2 hk
    go_enter Try.func70, Try.ntmps70
    go_wp2_with (first
      | (go_at_call 136; refine H.mono ?_; rintro x w2 ⟨rfl, hB2⟩)
      | (refine wp_loadW rfl 109 (.tmp 1) rfl w.heap.size rfl rowHead hbh (by rfl) ?_))
    refine bodyPost_ret (results_tmp2 rfl _ _ _) rfl ?_
    exact ⟨none, 0, rfl, InB.mt _ _, hBw.trans (hB2.mono hBw.size)⟩
  | true =>
    obtain ⟨⟨hz0, hz1⟩, hc0, hc1⟩ := (headOk_iff z c).1 hk
    obtain ⟨zn, rfl⟩ : ∃ zn : Nat, z = zn := ⟨z.toNat, by omega⟩
    obtain ⟨cn, rfl⟩ : ∃ cn : Nat, c = cn := ⟨c.toNat, by omega⟩
    have H := fits_gives s e zn cn (w.alloc (.cells #[.int .u64 (s : Int), .int .u64 (e : Int), .int .i64 zn, .int .i64 cn] 109))
    rw [hk] at H
    have h1 : hEnc s e zn cn = headW s e zn cn := by simp [hEnc, hk]
    have h2 : hErr zn cn = 0 := by simp [hErr, hk]
    rw [h1, h2]
    clear h1 h2 hk
    have hlen := headW_length s e zn cn
    have HH := fun W => head_gives s e zn cn (by omega) (by omega) W
    generalize headW s e zn cn = L at *
    have HL := Lib.hid hlen
    have hRow : RowTy Try.prog 236 (L.map b8).toArray.size := by
      have : (L.map b8).toArray.size = 64 := by simp [hlen]
      rw [this]
      exact rowSector
    clear hlen
    go_enter Try.func70, Try.ntmps70
    go_wp2_with (first
      | (go_at_call 136; refine H.mono ?_; rintro x w2 ⟨rfl, hB2⟩; have hbh2 := hbh.below hB2 hbh.lt; have hB02 := hBw.trans (hB2.mono hBw.size); clear H hbh)
      | (go_at_call 137; refine (HH _).mono ?_; rintro x w3 ⟨rfl, hB3⟩; have hB03 := hB02.trans (hB3.mono hB02.size))
      | (refine wp_loadW rfl 109 (.tmp 1) rfl w.heap.size rfl rowHead (by assumption) (by rfl) ?_)
      | (refine wp_storeW rfl 236 (.tmp 4) (.tmp 9) rfl w3.heap.size rfl rfl rowSector (BlkIs.new w3 236 #[.int .u8 0, .int .u8 0, .int .u8 0, .int .u8 0, .int .u8 0, .int .u8 0, .int .u8 0, .int .u8 0, .int .u8 0, .int .u8 0, .int .u8 0, .int .u8 0, .int .u8 0, .int .u8 0, .int .u8 0, .int .u8 0, .int .u8 0, .int .u8 0, .int .u8 0, .int .u8 0, .int .u8 0, .int .u8 0, .int .u8 0, .int .u8 0, .int .u8 0, .int .u8 0, .int .u8 0, .int .u8 0, .int .u8 0, .int .u8 0, .int .u8 0, .int .u8 0, .int .u8 0, .int .u8 0, .int .u8 0, .int .u8 0, .int .u8 0, .int .u8 0, .int .u8 0, .int .u8 0, .int .u8 0, .int .u8 0, .int .u8 0, .int .u8 0, .int .u8 0, .int .u8 0, .int .u8 0, .int .u8 0, .int .u8 0, .int .u8 0, .int .u8 0, .int .u8 0, .int .u8 0, .int .u8 0, .int .u8 0, .int .u8 0, .int .u8 0, .int .u8 0, .int .u8 0, .int .u8 0, .int .u8 0, .int .u8 0, .int .u8 0, .int .u8 0]) (by rfl) (by have := HL.out; simp; omega) (b8_one _) ?_))
    have hb4 := (BlkIs.new w3 236 #[.int .u8 0, .int .u8 0, .int .u8 0, .int .u8 0, .int .u8 0, .int .u8 0, .int .u8 0, .int .u8 0, .int .u8 0, .int .u8 0, .int .u8 0, .int .u8 0, .int .u8 0, .int .u8 0, .int .u8 0, .int .u8 0, .int .u8 0, .int .u8 0, .int .u8 0, .int .u8 0, .int .u8 0, .int .u8 0, .int .u8 0, .int .u8 0, .int .u8 0, .int .u8 0, .int .u8 0, .int .u8 0, .int .u8 0, .int .u8 0, .int .u8 0, .int .u8 0, .int .u8 0, .int .u8 0, .int .u8 0, .int .u8 0, .int .u8 0, .int .u8 0, .int .u8 0, .int .u8 0, .int .u8 0, .int .u8 0, .int .u8 0, .int .u8 0, .int .u8 0, .int .u8 0, .int .u8 0, .int .u8 0, .int .u8 0, .int .u8 0, .int .u8 0, .int .u8 0, .int .u8 0, .int .u8 0, .int .u8 0, .int .u8 0, .int .u8 0, .int .u8 0, .int .u8 0, .int .u8 0, .int .u8 0, .int .u8 0, .int .u8 0, .int .u8 0]).setRow (L.map b8).toArray
    have hB4 : Below w.heap.size w ((w3.alloc (.cells #[.int .u8 0, .int .u8 0, .int .u8 0, .int .u8 0, .int .u8 0, .int .u8 0, .int .u8 0, .int .u8 0, .int .u8 0, .int .u8 0, .int .u8 0, .int .u8 0, .int .u8 0, .int .u8 0, .int .u8 0, .int .u8 0, .int .u8 0, .int .u8 0, .int .u8 0, .int .u8 0, .int .u8 0, .int .u8 0, .int .u8 0, .int .u8 0, .int .u8 0, .int .u8 0, .int .u8 0, .int .u8 0, .int .u8 0, .int .u8 0, .int .u8 0, .int .u8 0, .int .u8 0, .int .u8 0, .int .u8 0, .int .u8 0, .int .u8 0, .int .u8 0, .int .u8 0, .int .u8 0, .int .u8 0, .int .u8 0, .int .u8 0, .int .u8 0, .int .u8 0, .int .u8 0, .int .u8 0, .int .u8 0, .int .u8 0, .int .u8 0, .int .u8 0, .int .u8 0, .int .u8 0, .int .u8 0, .int .u8 0, .int .u8 0, .int .u8 0, .int .u8 0, .int .u8 0, .int .u8 0, .int .u8 0, .int .u8 0, .int .u8 0, .int .u8 0] 236)).setRow w3.heap.size (L.map b8).toArray) := below_setRow (hB03.alloc hB03.size _) hB03.size _
    have hin4 := hb4.inBT (by rw [HL.out]; omega)
    rw [HL.out] at hin4
    refine bodyPost_ret (results_tmp2 rfl _ _ _) rfl ?_
    exact ⟨_, 64, by rw [HL.out]; rfl, hin4, hB4⟩

/-- What appends of a call's own row leave as it was. -/
theorem OwnB.belowG {w0 w w' : World} {v : Value} {l : List UInt8} {b : Nat} (h : OwnB w b v l) (hb : Below w0.heap.size w0 w) (hB : w0.heap.size ≤ b) (hg : w.grownBy w' v.ownBlock) : Below w0.heap.size w0 w' :=
  (h.base hB).below hb hg
theorem InB.grown {w w' : World} {B : Nat} {A : Option Addr} {c : Nat} {l : List UInt8} {row : Option Nat} (h : InB w B A c l) (hB : B ≤ w.heap.size) (hg : w.grownBy w' row) (hr : ∀ r, row = some r → B ≤ r) : InB w' B A c l :=
  h.keep fun p hp => World.cell?_of_block (hg.block p.block (by omega) (fun e => by have := hr _ e.symm; omega))

set_option maxRecDepth 100000 in
set_option maxHeartbeats 4000000 in
theorem refEncodeHead_bad (s e : Nat) (z c : Int) (w : World) (hk : headOk z c = false) :
    Calls Try.prog 71 #[.agg #[.int .u64 (s : Int), .int .u64 (e : Int), .int .i64 z, .int .i64 c]] w (GivesBE w (hEnc s e z c) (hErr z c)) := by
  have hBw : Below w.heap.size w (w.alloc (.cells #[.int .u64 (s : Int), .int .u64 (e : Int), .int .i64 z, .int .i64 c] 109)) := (Below.refl _ w).alloc (Nat.le_refl _) _
  have h1 : hEnc s e z c = [] := by simp [hEnc, hk]
  have h2 : hErr z c = 2 := by simp [hErr, hk]
  rw [h1, h2]
  have h3 : ¬ ((0 ≤ z ∧ z ≤ 2000) ∧ (0 ≤ c ∧ c ≤ 2000)) := by rw [← headOk_iff, hk]; simp
  clear h1 h2 hk
  by_cases a1 : z < 0
  · go_enter Try.func71, Try.ntmps71
    go_wp2
    exact bodyPost_ret (results_tmp2 rfl _ _ _) rfl ⟨none, 0, rfl, InB.mt _ _, hBw⟩
  · by_cases a2 : 2000 < z
    · go_enter Try.func71, Try.ntmps71
      go_wp2
      exact bodyPost_ret (results_tmp2 rfl _ _ _) rfl ⟨none, 0, rfl, InB.mt _ _, hBw⟩
    · by_cases a3 : c < 0
      · go_enter Try.func71, Try.ntmps71
        go_wp2
        exact bodyPost_ret (results_tmp2 rfl _ _ _) rfl ⟨none, 0, rfl, InB.mt _ _, hBw⟩
      · have a4 : 2000 < c := by omega
        go_enter Try.func71, Try.ntmps71
        go_wp2
        exact bodyPost_ret (results_tmp2 rfl _ _ _) rfl ⟨none, 0, rfl, InB.mt _ _, hBw⟩

set_option maxRecDepth 100000 in
set_option maxHeartbeats 4000000 in
theorem refEncodeHead_ok (s e z c : Nat) (w : World) (hs : s < 2 ^ 64) (he : e < 2 ^ 64) (hz : z ≤ 2000) (hc : c ≤ 2000) :
    Calls Try.prog 71 #[.agg #[.int .u64 (s : Int), .int .u64 (e : Int), .int .i64 z, .int .i64 c]] w (GivesBE w (headW s e z c) 0) := by
  have hBw : Below w.heap.size w (w.alloc (.cells #[.int .u64 (s : Int), .int .u64 (e : Int), .int .i64 (z : Int), .int .i64 (c : Int)] 109)) := (Below.refl _ w).alloc (Nat.le_refl _) _
  have hbh := BlkIs.new w 109 #[.int .u64 (s : Int), .int .u64 (e : Int), .int .i64 (z : Int), .int .i64 (c : Int)]
  have F8 : ∀ n : Nat, n < 2 ^ 64 → ∀ W, Calls Try.prog 44 #[.int .u64 (n : Int), .int .i64 8] W (GivesB W (fixL 8 n)) := fun n h W => refFixed_gives 8 n (by omega) h W
  have F4 : ∀ n : Nat, n < 2 ^ 64 → ∀ W, Calls Try.prog 44 #[.int .u64 (n : Int), .int .i64 4] W (GivesB W (fixL 4 n)) := fun n h W => refFixed_gives 4 n (by omega) h W
  have FS := F8 s hs
  have FE := F8 e he
  have FZ := F4 z (by omega)
  have FC := F4 c (by omega)
  clear F8 F4 hs he
  have z0 : (0 : Int) ≤ (z : Int) := by omega
  have c0 : (0 : Int) ≤ (c : Int) := by omega
  have z1 : (z : Int) ≤ 2000 := by omega
  have c1 : (c : Int) ≤ 2000 := by omega
  go_enter Try.func71, Try.ntmps71
  go_wp2_with fail
  generalize w.alloc (.cells #[.int .u64 (s : Int), .int .u64 (e : Int), .int .i64 (z : Int), .int .i64 (c : Int)] 109) = w1 at *
  have hg1 := hbh.lt
  have hc0 : w1.cell? ⟨w.heap.size, 0, none⟩ = some (.int .u64 (s : Int)) := by rw [hbh.cell]; rfl
  have hc1 : w1.cell? ⟨w.heap.size, 1, none⟩ = some (.int .u64 (e : Int)) := by rw [hbh.cell]; rfl
  go_region_held3 (fun W => Below w1.heap.size w1 W ∧ W.cell? ⟨w.heap.size, 0, none⟩ = some (.int .u64 (s : Int)) ∧ W.cell? ⟨w.heap.size, 1, none⟩ = some (.int .u64 (e : Int)))
    (first | exact ⟨(Below.refl _ _).drew, hc0, hc1⟩ | exact keepB2 (by assumption) (by assumption) hg1)
    (first
      | (go_at_call 44; first
        | (with_reducible refine (FS _).mono ?_); rintro x W2 ⟨v2, rfl, own2, hB2⟩; have hB2' : Below w1.heap.size w1.drew W2 := hB2
        | (with_reducible refine (FE _).mono ?_); rintro x W3 ⟨v3, rfl, own3, hB3⟩; have own2' := own2.later hB3; obtain ⟨A3, c3, rfl, hin3⟩ := own3.inB; have hB3' : Below w1.heap.size W2 W3 := hB3.mono hB2'.size)
      | (revert own2'; intro own2'; refine step_appB (by rfl) (.tmp 25) (.tmp 28) (by rfl) w1.heap.size v2 (fixL 8 s) (by rfl) own2' _ A3 c3 (fixL 8 e) (by rfl) hin3 (by simp [fixL_length]) (by have := hB2'.size; have := hB3'.size; simp at *; omega) ?_; intro v4 W4 own4 hg4 hat4; have hB4' : Below w1.heap.size W3 W4 := grown_below hg4 (by have := hB2'.size; have := hB3'.size; simp at *; omega) own2'.ownGe))
  rename_i hS4
  have hB14 := hS4.1
  have hc2 : W4.cell? ⟨w.heap.size, 2, none⟩ = some (.int .i64 (z : Int)) := (hB14.cell (p := ⟨w.heap.size, 2, none⟩) hg1).trans (by rw [hbh.cell]; rfl)
  have hc3 : W4.cell? ⟨w.heap.size, 3, none⟩ = some (.int .i64 (c : Int)) := (hB14.cell (p := ⟨w.heap.size, 3, none⟩) hg1).trans (by rw [hbh.cell]; rfl)
  clear hS4 hB2' hB3' hB4' hB2 hB3 own2 own2' own3 hin3 hg4 hat4 hc0 hc1
  go_wp2_with fail
  have s14 := hB14.size
  have hzw : IntKind.u64.wrap (z : Int) = (z : Int) := by
    show (z : Int) % 18446744073709551616 = _
    omega
  have hcw : IntKind.u64.wrap (c : Int) = (c : Int) := by
    show (c : Int) % 18446744073709551616 = _
    omega
  have hl8 : ∀ n, (fixL 8 n).length = 8 := fixL_length 8
  have hl4 : ∀ n, (fixL 4 n).length = 4 := fixL_length 4
  have L8 := Lib.hid hl8
  have L4 := Lib.hid hl4
  clear hl8 hl4
  go_region_held3 (fun W => Below w1.heap.size w1 W ∧ W.cell? ⟨w.heap.size, 2, none⟩ = some (.int .i64 (z : Int)) ∧ W.cell? ⟨w.heap.size, 3, none⟩ = some (.int .i64 (c : Int)))
    (first | exact ⟨hB14.drew, hc2, hc3⟩ | exact keepB2 (by assumption) (by assumption) hg1)
    (first
      | (go_at_call 44; first
        | ((with_reducible refine (FZ _).mono ?_); rintro x W5 ⟨v5, rfl, own5, hB5⟩; have own4' := OwnB.later (w := W4.drew) own4 hB5; obtain ⟨A5, c5, rfl, hin5⟩ := own5.inB; have hB5' : Below w1.heap.size W4.drew W5 := hB5.mono s14; have s15 := Nat.le_trans s14 hB5.size)
        | ((with_reducible refine (FC _).mono ?_); rintro x W7 ⟨v7, rfl, own7, hB7⟩; have own6' := own6.later hB7; obtain ⟨A7, c7, rfl, hin7⟩ := own7.inB; have hB7' : Below w1.heap.size W6 W7 := hB7.mono s16; have s17 := Nat.le_trans s16 hB7.size))
      | (revert own4'; intro own4'; refine step_appB (by rfl) (.tmp 30) (.tmp 34) (by rfl) w1.heap.size v4 (fixL 8 s ++ fixL 8 e) (by rfl) own4' _ A5 c5 (fixL 4 z) (by rfl) hin5 (by simp only [List.length_append, L8.out, L4.out]; omega) s15 ?_; clear own4'; intro v6 W6 own6 hg6 hat6; have hB6' : Below w1.heap.size W5 W6 := grown_below hg6 s15 own4.ownGe; have s16 := Nat.le_trans s15 hB6'.size)
      | (revert own6'; intro own6'; refine step_appB (by rfl) (.tmp 35) (.tmp 39) (by rfl) w1.heap.size v6 (fixL 8 s ++ fixL 8 e ++ fixL 4 z) (by rfl) own6' _ A7 c7 (fixL 4 c) (by rfl) hin7 (by simp only [List.length_append, L8.out, L4.out]; omega) s17 ?_; clear own6'; intro v8 W8 own8 hg8 hat8; have hB8' : Below w1.heap.size W7 W8 := grown_below hg8 s17 own6.ownGe; have s18 := Nat.le_trans s17 hB8'.size))
  rename_i hS8
  have hB08 : Below w.heap.size w W8 := hBw.trans (hS8.1.mono hBw.size)
  have hBs := hBw.size
  have hb : fixL 8 s ++ fixL 8 e ++ fixL 4 z ++ fixL 4 c = headB s e z c := by rw [headB_eq]; simp only [List.append_assoc]
  have hl24 := headB_length s e z c
  have hWd : headW s e z c = twiceB (headB s e z c) := rfl
  rw [hb] at own8
  clear hS8 hB14 hc2 hc3 hzw hcw own4 hg6 hat6 own6 hB5' own5 hin5 own7 hin7 hB7 hB7' hB6' hg8 hat8 hB8' hb FS FE FZ FC
  generalize headB s e z c = b at *
  have HL := Lib.hid hl24
  have HW := Lib.hid hWd
  clear hWd
  have hsl := sumL_lt b
  have FX : ∀ W, Calls Try.prog 44 #[.int .u64 (sumL b : Int), .int .i64 4] W (GivesB W (fixL 4 (sumL b))) := fun W => refFixed_gives 4 (sumL b) (by omega) (by omega) W
  obtain ⟨S, hS⟩ : ∃ S, S = sumL b := ⟨_, rfl⟩
  have hon : b ++ fixL 4 S = onceB b := by rw [hS]; rfl
  rw [← hS] at hsl FX
  have HON := Lib.hid hon
  have hsw : IntKind.u64.wrap (S : Int) = (S : Int) := by
    show (S : Int) % 18446744073709551616 = _
    omega
  have hol : (b ++ fixL 4 S).length = 28 := by rw [hon, onceB_length, hl24]
  have HO := Lib.hid hol
  obtain ⟨A8, c8, rfl, hin8⟩ := own8.inB
  have HS := refSum_gives W8 _ A8 c8 b hin8
  rw [← hS] at HS
  clear hl24 hS hon hol hsl
  go_wp2_with fail
  refine HS.mono ?_
  rintro x w' ⟨rfl, rfl⟩
  go_wp2_with fail
  refine (FX _).mono ?_
  rintro x W9 ⟨v9, rfl, own9, hB9⟩
  have own8' := own8.later hB9
  obtain ⟨A9, c9, rfl, hin9⟩ := own9.inB
  have s19 := Nat.le_trans s18 hB9.size
  have hB09 : Below w.heap.size w W9 := hB08.trans (hB9.mono hB08.size)
  go_wp2_with (first
    | (at_builtin; refine wp_appB rfl (.tmp 41) (.tmp 45) rfl w1.heap.size (.slice A8 b.length c8) b rfl own8' _ A9 c9 (fixL 4 S) rfl hin9 (by rw [HL.out, L4.out]; omega) s19 ?_; intro v10 W10 own10 hg10; have hB10 : Below w.heap.size w W10 := hB09.trans (grown_below hg10 hB09.size (fun r hr => Nat.le_trans hBs (own8'.ownGe r hr))); rw [HON.out] at own10; obtain ⟨A10, c10, rfl, hin10⟩ := own10.inB; have e0 : OwnB (W10.alloc (.cells #[] 5)) W10.heap.size (.slice (some ⟨W10.heap.size, 0, none⟩) 0 0) [] := World.ownsRow_lit W10 #[] 0 (Nat.le_refl _) (by unfold maxLen; omega) rfl; have hin10' := hin10.below ((Below.refl _ W10).alloc (Nat.le_refl _) (.cells #[] 5)); have hB10' : Below w.heap.size w (W10.alloc (.cells #[] 5)) := hB10.alloc hB10.size _)
    | (revert e0; intro e0; at_builtin; refine wp_appB rfl (.tmp 47) (.tmp 48) rfl W10.heap.size (.slice (some ⟨W10.heap.size, 0, none⟩) 0 0) [] rfl e0 _ A10 c10 (onceB b) rfl hin10' (by rw [onceB_length, HL.out]; simp) (by simp) ?_; intro v11 W11 own11 hg11; have hB11 : Below w.heap.size w W11 := hB10'.trans (grown_below hg11 hB10'.size (fun r hr => Nat.le_trans hB10.size (e0.ownGe r hr))); have hin11 := hin10'.grown (by simp) hg11 e0.ownGe; have s11 : W10.heap.size ≤ W11.heap.size := Nat.le_trans (by simp) hg11.size; rw [List.nil_append] at own11; clear e0)
    | (revert own11; intro own11; at_builtin; refine wp_appB rfl (.tmp 49) (.tmp 50) rfl W10.heap.size v11 (onceB b) rfl own11 _ A10 c10 (onceB b) rfl hin11 (by rw [onceB_length, HL.out]; omega) s11 ?_; intro v12 W12 own12 hg12; have hB12 : Below w.heap.size w W12 := hB11.trans (grown_below hg12 hB11.size (fun r hr => Nat.le_trans hB10.size (own11.ownGe r hr))); have s12 : W10.heap.size ≤ W12.heap.size := Nat.le_trans s11 hg12.size; clear own11)
    | (revert own12; intro own12; refine wp_appZ rfl (.tmp 51) (.const (.int .i64 8)) rfl W10.heap.size v12 (onceB b ++ onceB b) rfl own12 8 rfl (by omega) (by simp only [List.length_append]; rw [onceB_length, HL.out]; omega) s12 ?_; intro v13 W13 own13 hg13 hat13; have hB13 : Below w.heap.size w W13 := hB12.trans (grown_below hg13 hB12.size (fun r hr => Nat.le_trans hB10.size (own12.ownGe r hr)))))
  obtain ⟨A13, c13, rfl, hin13⟩ := own13.inB
  refine bodyPost_ret (results_tmp2 rfl _ _ _) rfl ?_
  show GivesBE w (headW s e z c) 0 _ _
  rw [HW.out]
  exact ⟨A13, c13, rfl, hin13, hB13⟩
/-- .. whatever the head. -/
theorem refEncodeHead_gives (s e : Nat) (z c : Int) (w : World) (hs : s < 2 ^ 64) (he : e < 2 ^ 64) :
    Calls Try.prog 71 #[.agg #[.int .u64 (s : Int), .int .u64 (e : Int), .int .i64 z, .int .i64 c]] w (GivesBE w (hEnc s e z c) (hErr z c)) := by
  cases hk : headOk z c with
  | false => exact refEncodeHead_bad s e z c w hk
  | true =>
    obtain ⟨⟨hz0, hz1⟩, hc0, hc1⟩ := (headOk_iff z c).1 hk
    obtain ⟨zn, rfl⟩ : ∃ zn : Nat, z = zn := ⟨z.toNat, by omega⟩
    obtain ⟨cn, rfl⟩ : ∃ cn : Nat, c = cn := ⟨c.toNat, by omega⟩
    obtain ⟨h1, h2⟩ := hEnc_ok (s := s) (e := e) (z := zn) (c := cn) (by omega) (by omega)
    rw [h1, h2]
    exact refEncodeHead_ok s e zn cn w hs he (by omega) (by omega)
end Go.Proofs.Ytlelckdcmlpmdaa
/- frame.laid. -/
namespace Go.Proofs.Ytlelckdcmlpmdaa
open Go Go.RowKit Lou

set_option maxRecDepth 100000 in
set_option maxHeartbeats 4000000 in
theorem laid_gives (w : World) (A : Option Addr) (k : Nat) (y : List UInt8) (ls : List (List UInt8)) (u : Value) (hin : InB w w.heap.size A k y) (hu : Lists ls u w) (hm : ls.length ≤ 1000) (hp : ls.flatten.length = 25) (hy : y.length ≤ 100000) :
    Calls Try.prog 182 #[.slice A y.length k, u] w fun x w' => x = .returned (.agg ((sectB ls.flatten y).map b8).toArray) ∧ Below w.heap.size w w' := by
  have hB1 : Below w.heap.size w (w.alloc (.cells #[.int .u8 0, .int .u8 0, .int .u8 0, .int .u8 0, .int .u8 0, .int .u8 0, .int .u8 0, .int .u8 0, .int .u8 0, .int .u8 0, .int .u8 0, .int .u8 0, .int .u8 0, .int .u8 0, .int .u8 0, .int .u8 0, .int .u8 0, .int .u8 0, .int .u8 0, .int .u8 0, .int .u8 0, .int .u8 0, .int .u8 0, .int .u8 0, .int .u8 0, .int .u8 0, .int .u8 0, .int .u8 0, .int .u8 0, .int .u8 0, .int .u8 0, .int .u8 0, .int .u8 0, .int .u8 0, .int .u8 0, .int .u8 0, .int .u8 0, .int .u8 0, .int .u8 0, .int .u8 0, .int .u8 0, .int .u8 0, .int .u8 0, .int .u8 0, .int .u8 0, .int .u8 0, .int .u8 0, .int .u8 0, .int .u8 0, .int .u8 0, .int .u8 0, .int .u8 0, .int .u8 0, .int .u8 0, .int .u8 0, .int .u8 0, .int .u8 0, .int .u8 0, .int .u8 0, .int .u8 0, .int .u8 0, .int .u8 0, .int .u8 0, .int .u8 0] 236)) := (Below.refl _ w).alloc (Nat.le_refl _) _
  have hb1 : BlkIs (w.alloc (.cells #[.int .u8 0, .int .u8 0, .int .u8 0, .int .u8 0, .int .u8 0, .int .u8 0, .int .u8 0, .int .u8 0, .int .u8 0, .int .u8 0, .int .u8 0, .int .u8 0, .int .u8 0, .int .u8 0, .int .u8 0, .int .u8 0, .int .u8 0, .int .u8 0, .int .u8 0, .int .u8 0, .int .u8 0, .int .u8 0, .int .u8 0, .int .u8 0, .int .u8 0, .int .u8 0, .int .u8 0, .int .u8 0, .int .u8 0, .int .u8 0, .int .u8 0, .int .u8 0, .int .u8 0, .int .u8 0, .int .u8 0, .int .u8 0, .int .u8 0, .int .u8 0, .int .u8 0, .int .u8 0, .int .u8 0, .int .u8 0, .int .u8 0, .int .u8 0, .int .u8 0, .int .u8 0, .int .u8 0, .int .u8 0, .int .u8 0, .int .u8 0, .int .u8 0, .int .u8 0, .int .u8 0, .int .u8 0, .int .u8 0, .int .u8 0, .int .u8 0, .int .u8 0, .int .u8 0, .int .u8 0, .int .u8 0, .int .u8 0, .int .u8 0, .int .u8 0] 236)) w.heap.size 236 ((List.replicate 64 (0 : UInt8)).map b8).toArray := BlkIs.new w 236 #[.int .u8 0, .int .u8 0, .int .u8 0, .int .u8 0, .int .u8 0, .int .u8 0, .int .u8 0, .int .u8 0, .int .u8 0, .int .u8 0, .int .u8 0, .int .u8 0, .int .u8 0, .int .u8 0, .int .u8 0, .int .u8 0, .int .u8 0, .int .u8 0, .int .u8 0, .int .u8 0, .int .u8 0, .int .u8 0, .int .u8 0, .int .u8 0, .int .u8 0, .int .u8 0, .int .u8 0, .int .u8 0, .int .u8 0, .int .u8 0, .int .u8 0, .int .u8 0, .int .u8 0, .int .u8 0, .int .u8 0, .int .u8 0, .int .u8 0, .int .u8 0, .int .u8 0, .int .u8 0, .int .u8 0, .int .u8 0, .int .u8 0, .int .u8 0, .int .u8 0, .int .u8 0, .int .u8 0, .int .u8 0, .int .u8 0, .int .u8 0, .int .u8 0, .int .u8 0, .int .u8 0, .int .u8 0, .int .u8 0, .int .u8 0, .int .u8 0, .int .u8 0, .int .u8 0, .int .u8 0, .int .u8 0, .int .u8 0, .int .u8 0, .int .u8 0]
  have hC := concatL_gives (lists_stable ls u w _ hu hB1) hm (by rw [hp]; omega)
  have hin1 := (hin.below hB1).more hB1.size
  generalize ls.flatten = p at *
  have HP := Lib.hid hp
  clear hp hu hm hin
  go_enter Try.func182, Try.ntmps182
  go_wp2_with fail
  refine hC.mono ?_
  rintro x W2 ⟨v2, rfl, own2, hB⟩
  obtain ⟨A2, c2, rfl, hin2⟩ := own2.inB
  have hB2 := hB1.trans (hB.mono hB1.size)
  have hb2 := hb1.below hB hb1.lt
  have hy2 := (hin1.below hB).more hB.size
  clear hB hB1 hb1 hin1 hC own2
  go_wp2_with fail
  have S2 := sum2_gives W2.drew A2 A c2 k p y hin2.drew hy2.drew
  have s2 := hB2.size
  obtain ⟨S, hS⟩ : ∃ S, sumL (p ++ y) = S := ⟨_, rfl⟩
  rw [hS] at S2
  have HS := Lib.hid hS
  clear hS
  obtain ⟨d, hd⟩ : ∃ d, p ++ fixL 4 S = d := ⟨_, rfl⟩
  have HD := Lib.hid hd
  clear hd
  go_region_held3 (fun _ => True) (trivial) (first
    | (go_at_call 29; refine S2.mono ?_; rintro x W3 ⟨rfl, hB3⟩; have hb3 := hb2.drew.below hB3 hb2.lt; have hp3 := (hin2.drew.below hB3).more hB3.size)
    | (go_at_call 43; refine (four_gives _ _).mono ?_; rintro x W4 ⟨v4, rfl, own4, hB4⟩; have hb4 := hb3.below hB4 hb3.lt; have hp4 := (hp3.below hB4).more hB4.size; obtain ⟨A4, c4, rfl, hin4⟩ := own4.inB; have C5 := concat2_gives W4 A2 A4 c2 c4 p (fixL 4 S) hp4 hin4 (by rw [HP.out, fixL_length]; omega); rw [HD.out] at C5)
    | (go_at_call 142; refine C5.mono ?_; rintro x W5 ⟨v5, rfl, own5, hB5⟩; have hb5 := hb4.below hB5 hb4.lt; obtain ⟨A5, c5, rfl, hin5⟩ := own5.inB)
    | (revert hb5; intro hb5; refine step_copyB (by rfl) (.tmp 8) (.tmp 16) (by rfl) w.heap.size 0 (List.replicate 64 0) d A5 c5 _ 64 64 (by rfl) (by rfl) hb5 hin5 (by simp) ?_))
  have hsp : spliceB (List.replicate 64 0) 0 64 d = sectB p y := by
    have := HP.out
    rw [← HD.out]
    simp only [spliceB, sectB, HS.out, List.take_zero, List.nil_append, Nat.zero_add, List.drop_replicate, List.length_append, fixL_length]
    rw [List.take_of_length_le (by simp [fixL_length]; omega), Nat.min_eq_left (by omega), this]
  rw [hsp]
  have hb6 := hb5.setRow ((sectB p y).map b8).toArray
  have hB5' : Below w.heap.size w W5 := hB2.drew.trans ((hB3.trans ((hB4.trans (hB5.mono hB4.size)).mono hB3.size)).mono s2)
  have hB6 : Below w.heap.size w (W5.setRow w.heap.size ((sectB p y).map b8).toArray) := below_setRow hB5' (Nat.le_refl _) _
  generalize W5.setRow w.heap.size ((sectB p y).map b8).toArray = W6 at *
  clear hb5 hB5 hin5 own5 hsp C5 hB5' hb4 hB4 hp4 own4 hin4 hb3 hB3 hp3
  have h64 : ((sectB p y).map b8).toArray.size = 64 := by
    have := HP.out
    simp [sectB_length]; omega
  have hRow : RowTy Try.prog 236 ((sectB p y).map b8).toArray.size := by rw [h64]; exact rowSector
  clear h64
  go_wp2_with (first
    | (refine wp_loadW rfl 236 (.tmp 4) rfl w.heap.size rfl hRow hb6 rfl ?_)
    | (refine wp_storeW rfl 236 (.tmp 4) (.tmp 18) rfl w.heap.size rfl rfl hRow hb6 rfl rfl (b8_one _) ?_))
  have hself : W6.setRow w.heap.size ((sectB p y).map b8).toArray = W6 := setRow_self W6 _ _ _ _ hb6
  rw [hself]
  exact bodyPost_ret_by (results_cellW 4 rfl rfl hRow hb6 rfl) rfl ⟨rfl, hB6⟩
end Go.Proofs.Ytlelckdcmlpmdaa
/- frame.right. -/
namespace Go.Proofs.Ytlelckdcmlpmdaa
open Go Go.RowKit Lou

/-- A frame, as cells. -/
def frCells (e : Nat) (i p : Int) (f : Bool) (z : Int) (n : Nat) (A : Option Addr) (len k : Nat) : Array Value := #[.int .u64 (e : Int), .int .i64 i, .int .i64 p, .bool f, .int .i64 z, .int .u32 (n : Int), .slice A len k]
def frOk (len : Nat) (i p : Int) (f : Bool) (z : Int) : Bool := decide (len = 512) && isIn 0 2000 [i] && isIn 0 2000 [p, z] && (f || z == 0)
theorem frOk_iff (len : Nat) (i p : Int) (f : Bool) (z : Int) : frOk len i p f z = true ↔ len = 512 ∧ (0 ≤ i ∧ i ≤ 2000) ∧ (0 ≤ p ∧ p ≤ 2000) ∧ (0 ≤ z ∧ z ≤ 2000) ∧ (f = true ∨ z = 0) := by
  simp [frOk, isIn_one, isIn_two, and_assoc]
theorem rowFrame : RowTy Try.prog 120 7 := ⟨⟨_, Try.underlying120, rfl⟩, by kernel_rfl⟩
theorem InN.two (W : World) (x y : Int) : InN (W.alloc (.cells #[.int .i64 x, .int .i64 y] 3)) (some ⟨W.heap.size, 0, none⟩) [x, y] := ⟨fun _ => ⟨_, _, rfl, fun j hj => by
  rw [(BlkIs.new W 3 #[.int .i64 x, .int .i64 y]).cell]
  rcases (show j = 0 ∨ j = 1 from by simp at hj; omega) with rfl | rfl <;> rfl⟩⟩
theorem withinTwo_gives (W : World) (lo hi x y : Int) :
    Calls Try.prog 126 #[.int .i64 lo, .int .i64 hi, .slice (some ⟨W.heap.size, 0, none⟩) 2 2] (W.alloc (.cells #[.int .i64 x, .int .i64 y] 3)) fun e w' => e = .returned (.bool (isIn lo hi [x, y])) ∧ Below W.heap.size W w' :=
  (within_gives (W.alloc (.cells #[.int .i64 x, .int .i64 y] 3)) (some ⟨W.heap.size, 0, none⟩) 2 [x, y] (InN.two W x y) (fun g o e => by injection e with e; injection e with e1; subst e1; simp) (by simp) lo hi).mono fun e w' ⟨he, hB⟩ =>
    ⟨he, ((Below.refl _ W).alloc (Nat.le_refl _) _).trans (hB.mono (by simp))⟩
set_option maxRecDepth 100000 in
set_option maxHeartbeats 4000000 in
theorem right_gives (e : Nat) (i p : Int) (f : Bool) (z : Int) (n : Nat) (A : Option Addr) (len k : Nat) (w : World) :
    Calls Try.prog 140 #[.agg (frCells e i p f z n A len k)] w fun x w' => x = .returned (.bool (frOk len i p f z)) ∧ Below w.heap.size w w' := by
  have hb0 := BlkIs.new w 120 (frCells e i p f z n A len k)
  have hB0 : Below w.heap.size w (w.alloc (.cells (frCells e i p f z n A len k) 120)) := (Below.refl _ w).alloc (Nat.le_refl _) _
  have H1 := withinOne_gives (w.alloc (.cells (frCells e i p f z n A len k) 120)) 0 2000 i
  rw [World.size_alloc] at H1
  obtain ⟨v, hv⟩ : ∃ v, v = frOk len i p f z := ⟨_, rfl⟩
  rw [← hv]
  unfold frOk at hv
  have hV := Lib.hid hv
  clear hv
  unfold frCells at *
  by_cases hl : len = 512
  · have hq : ((len : Int) == 512) = true := by simp; omega
    generalize hq1 : isIn 0 2000 [i] = b1 at *
    cases b1 with
    | false =>
      have ev : v = false := by rw [hV.out]; simp
      subst ev
      clear hV hl
      go_enter Try.func140, Try.ntmps140
      go_wp2_with (go_at_call 126; refine H1.mono ?_; rintro x w1 ⟨rfl, hB⟩)
      go_ret
      exact ⟨rfl, hB0.trans (hB.mono (by simp))⟩
    | true =>
      have ev : v = (isIn 0 2000 [p, z] && (f || z == 0)) := by rw [hV.out]; simp [hl]
      clear hV hl
      generalize hq2 : isIn 0 2000 [p, z] = b2 at *
      have H2 := fun W => withinTwo_gives W 0 2000 p z
      rw [hq2] at H2
      clear hq1 hq2
      have EV := Lib.hid ev
      clear ev
      cases b2 with
      | false =>
        have ev : v = false := by rw [EV.out]; simp
        subst ev
        clear EV
        go_enter Try.func140, Try.ntmps140
        go_wp2_with fail
        refine H1.mono ?_
        rintro x w1 ⟨rfl, hB⟩
        have hb1 := hb0.below hB (by simp)
        have hB1 := hB0.trans (hB.mono (by simp))
        have hc2 : w1.cell? ⟨w.heap.size, 2, none⟩ = some (.int .i64 p) := by rw [hb1.cell]; rfl
        have hc4 : w1.cell? ⟨w.heap.size, 4, none⟩ = some (.int .i64 z) := by rw [hb1.cell]; rfl
        clear hB hb0 hb1 hB0 H1
        go_wp2_with (go_at_call 126; refine (H2 _).mono ?_; rintro x w2 ⟨rfl, hB⟩)
        go_ret
        exact ⟨rfl, hB1.trans (hB.mono hB1.size)⟩
      | true =>
        have ev : v = (f || z == 0) := by rw [EV.out]; simp
        clear EV
        have hz : f = false → ∃ q, (z == 0) = q ∧ v = q := fun h => ⟨_, rfl, by rw [ev, h]; rfl⟩
        cases f with
        | true =>
          replace ev : v = true := by rw [ev]; rfl
          subst ev
          clear hz
          go_enter Try.func140, Try.ntmps140
          go_wp2_with fail
          refine H1.mono ?_
          rintro x w1 ⟨rfl, hB⟩
          have hb1 := hb0.below hB (by simp)
          have hB1 := hB0.trans (hB.mono (by simp))
          have hc2 : w1.cell? ⟨w.heap.size, 2, none⟩ = some (.int .i64 p) := by rw [hb1.cell]; rfl
          have hc4 : w1.cell? ⟨w.heap.size, 4, none⟩ = some (.int .i64 z) := by rw [hb1.cell]; rfl
          clear hB hb0 hB0 H1
          go_wp2_with fail
          refine (H2 _).mono ?_
          rintro x w2 ⟨rfl, hB⟩
          have hb2 := hb1.below hB hb1.lt
          have hB2 := hB1.trans (hB.mono hB1.size)
          have hc3 : w2.cell? ⟨w.heap.size, 3, none⟩ = some (.bool true) := by rw [hb2.cell]; rfl
          clear hB hb1 hB1 hc2 hc4
          go_wp2
          go_ret
          exact ⟨rfl, hB2⟩
        | false =>
          obtain ⟨q, hq3, rfl⟩ := hz rfl
          clear ev hz
          go_enter Try.func140, Try.ntmps140
          go_wp2_with fail
          refine H1.mono ?_
          rintro x w1 ⟨rfl, hB⟩
          have hb1 := hb0.below hB (by simp)
          have hB1 := hB0.trans (hB.mono (by simp))
          have hc2 : w1.cell? ⟨w.heap.size, 2, none⟩ = some (.int .i64 p) := by rw [hb1.cell]; rfl
          have hc4 : w1.cell? ⟨w.heap.size, 4, none⟩ = some (.int .i64 z) := by rw [hb1.cell]; rfl
          clear hB hb0 hB0 H1
          go_wp2_with fail
          refine (H2 _).mono ?_
          rintro x w2 ⟨rfl, hB⟩
          have hb2 := hb1.below hB hb1.lt
          have hB2 := hB1.trans (hB.mono hB1.size)
          have hc3 : w2.cell? ⟨w.heap.size, 3, none⟩ = some (.bool false) := by rw [hb2.cell]; rfl
          have hc4 : w2.cell? ⟨w.heap.size, 4, none⟩ = some (.int .i64 z) := by rw [hb2.cell]; rfl
          clear hB hb1 hB1 hc2
          go_wp2
          go_ret
          exact ⟨rfl, hB2⟩
  · have hq : ((len : Int) == 512) = false := by simp; omega
    have ev : v = false := by rw [hV.out]; simp [hl]
    subst ev
    clear hV hl
    go_enter Try.func140, Try.ntmps140
    go_wp2
    go_ret
    exact ⟨rfl, hB0⟩
end Go.Proofs.Ytlelckdcmlpmdaa
/- frame.flags: a map of two closures. -/
namespace Go.Proofs.Ytlelckdcmlpmdaa
open Go Go.RowKit Lou

set_option maxRecDepth 100000 in
set_option maxHeartbeats 1000000 in
theorem flag1_gives (w : World) (c : UInt8) : Calls Try.prog 206 #[.int .u8 (c.toNat : Int)] w fun x w' => x = .returned (.func (.func 207) #[] #[.pointer (some ⟨w.heap.size, 0, none⟩)]) ∧ w' = w.alloc (.cells #[.int .u8 (c.toNat : Int)] 5) := by
  go_enter Try.func206, Try.ntmps206
  go_wp2
  go_ret
  exact ⟨rfl, rfl⟩
set_option maxRecDepth 100000 in
set_option maxHeartbeats 1000000 in
theorem flag11_gives (w : World) (g : Nat) (c : UInt8) (hb : BlkIs w g 5 #[.int .u8 (c.toNat : Int)]) : Calls Try.prog 207 #[.pointer (some ⟨g, 0, none⟩)] w (GivesB w [c]) := by
  have hc := hb.boxed
  go_enter Try.func207, Try.ntmps207
  go_wp2
  go_ret
  refine ⟨_, rfl, ?_, (Below.refl _ _).alloc (Nat.le_refl _) _⟩
  exact World.ownsRow_lit w #[.int .u8 (c.toNat : Int)] 1 (Nat.le_refl _) (by unfold maxLen; omega) rfl
/-- The two flags' bytes lie behind closures in a map. -/
def FlagsAt (w : World) (v : Value) : Prop := ∃ r g0 g1 clock, v = .map (some r) ∧ MapIs w r #[⟨.bool false, .func (.func 207) #[] #[.pointer (some ⟨g0, 0, none⟩)], 0⟩, ⟨.bool true, .func (.func 207) #[] #[.pointer (some ⟨g1, 0, none⟩)], 1⟩] clock ∧
  BlkIs w g0 5 #[.int .u8 0] ∧ BlkIs w g1 5 #[.int .u8 1]
theorem FlagsAt.below {w w' : World} {v : Value} (h : FlagsAt w v) (hB : Below w.heap.size w w') : FlagsAt w' v := by
  obtain ⟨r, g0, g1, clock, hv, h1, h2, h3⟩ := h
  exact ⟨r, g0, g1, clock, hv, h1.below hB h1.lt, h2.below hB h2.lt, h3.below hB h3.lt⟩
theorem key_bool (b : Bool) : MapKept.IsKey .bool (.bool b) := trivial
set_option maxRecDepth 100000 in
set_option maxHeartbeats 1000000 in
theorem flags_gives (w : World) : Calls Try.prog 183 #[] w fun x w' => ∃ v, x = .returned v ∧ FlagsAt w' v ∧ Below w.heap.size w w' := by
  have F0 : ∀ W, Calls Try.prog 206 #[.int .u8 0] W fun x w' => x = .returned (.func (.func 207) #[] #[.pointer (some ⟨W.heap.size, 0, none⟩)]) ∧ w' = W.alloc (.cells #[.int .u8 0] 5) := fun W => flag1_gives W 0
  have F1 : ∀ W, Calls Try.prog 206 #[.int .u8 1] W fun x w' => x = .returned (.func (.func 207) #[] #[.pointer (some ⟨W.heap.size, 0, none⟩)]) ∧ w' = W.alloc (.cells #[.int .u8 1] 5) := fun W => flag1_gives W 1
  have hu := Try.underlying283
  have hk := Try.underlying4
  go_enter Try.func183, Try.ntmps183
  go_wp2_with (first
    | (refine wp_makeMap rfl rfl ?_; intro hm1; have hB1 : Below w.heap.size w (w.alloc (.map #[] 0)) := (Below.refl _ w).alloc (Nat.le_refl _) _)
    | (go_at_call 206; (with_reducible refine (F0 _).mono ?_); rintro x w2 ⟨rfl, rfl⟩; have hm2 := hm1.below ((Below.refl _ _).alloc (Nat.le_refl _) (.cells #[.int .u8 0] 5)) hm1.lt; have hg2 := BlkIs.new (w.alloc (.map #[] 0)) 5 #[.int .u8 0]; have hB2 := hB1.alloc hB1.size (.cells #[.int .u8 0] 5))
    | (go_at_call 206; (with_reducible refine (F1 _).mono ?_); rintro x w4 ⟨rfl, rfl⟩; have hm4 := hm3.below ((Below.refl _ _).alloc (Nat.le_refl _) (.cells #[.int .u8 1] 5)) hm3.lt; have hg4 := hg3.alloc (.cells #[.int .u8 1] 5); have hq4 := BlkIs.new w3 5 #[.int .u8 1]; have hB4 := hB3.alloc hB3.size (.cells #[.int .u8 1] 5))
    | (revert hm2; intro hm2; refine wp_put_new (by rfl) (.tmp 2) (.const (.bool false)) (.tmp 4) (.inl (by rfl)) hu hk (key_bool false) (by rfl) (by rfl) (by rfl) hm2 (by rfl) ?_; intro w3 hm3 hr3; have hg3 := hg2.grownMap hm2 hr3; have hB3 : Below w.heap.size w w3 := hB2.trans (grown_below hr3 hB2.size (fun r hr => by injection hr with hr; omega)); clear hm1 hm2 hg2)
    | (revert hm4; intro hm4; refine wp_put_new (by rfl) (.tmp 2) (.const (.bool true)) (.tmp 6) (.inl (by rfl)) hu hk (key_bool true) (by rfl) (by rfl) (by rfl) hm4 (by rfl) ?_; intro w5 hm5 hr5; have hg5 := hg4.grownMap hm4 hr5; have hq5 := hq4.grownMap hm4 hr5; have hB5 : Below w.heap.size w w5 := hB4.trans (grown_below hr5 hB4.size (fun r hr => by injection hr with hr; omega))))
  go_ret
  rw [World.size_alloc] at hg5
  exact ⟨_, rfl, ⟨_, _, _, _, rfl, hm5, hg5, hq5⟩, hB5⟩
end Go.Proofs.Ytlelckdcmlpmdaa
