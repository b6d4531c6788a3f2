/- Texts that the proof of NodeReads leans on, part 1. -/
import Derived.WalkKit
import Derived.Maps.AppendAt
import Derived.Lib.Hide
import Derived.WalkSpells
import Derived.WalkLawsBesides
import Derived.Laws.AppendOwnNone
import Derived.Lib.AppendStr
import Derived.Test.YtlelckdcmlpmdaaProg
import Derived.ProofKit
import Derived.OpenShut
import Derived.ShutString
import Derived.ChangeOld
import Derived.Below
import Derived.Defers
import Derived.Laws.LoneSync
import Derived.RegionTactic
import Derived.RegionCalls
import Derived.ChangeAlike
import Derived.RangeFuncBox
import Derived.RangeFuncNested
import Derived.RangeFuncBound
import Derived.RangeFuncCalls
import Derived.RangeFuncLeaves
import Derived.Shelf.Abstract
import Derived.Shelf.RegionOpen
import Derived.OwnWalkIn
import Derived.TacticsInMore
import Derived.LoopNIn
import Derived.LoopIn
/- The plain mathematics of layer 3: numbers' bytes and their reading, fixed bytes, the sum of bytes. No program in sight. -/
namespace Lou

/-! ### Numbers' bytes -/
def numF : Nat → Nat → List UInt8
  | 0, _ => []
  | f + 1, n => if n < 128 then [UInt8.ofNat n] else UInt8.ofNat (n % 128 + 128) :: numF f (n / 128)
def num (n : Nat) : List UInt8 := numF 10 n

def rdF : Nat → Nat → Nat → List UInt8 → Option (Nat × Nat)
  | 0, _, _, _ => none
  | _ + 1, _, _, [] => none
  | f + 1, i, acc, c :: r =>
    if i = 9 ∧ 1 < c.toNat then none
    else if 128 ≤ c.toNat then rdF f (i + 1) (acc + c.toNat % 128 * 128 ^ i) r
    else if c.toNat = 0 ∧ 0 < i then none
    else some (acc + c.toNat % 128 * 128 ^ i, i + 1)
def rd (l : List UInt8) : Option (Nat × Nat) := rdF 10 0 0 l

theorem toNat_ofNat_lt {n : Nat} (h : n < 256) : (UInt8.ofNat n).toNat = n := by
  simp [UInt8.toNat_ofNat']; omega

theorem numF_length (f n : Nat) : (numF f n).length ≤ f := by
  induction f generalizing n with
  | zero => simp [numF]
  | succ f ih => unfold numF; split <;> simp; exact ih _

theorem numF_pos (f n : Nat) (hf : 0 < f) : 0 < (numF f n).length := by
  cases f with
  | zero => omega
  | succ f => unfold numF; split <;> simp

theorem num_length (n : Nat) : (num n).length ≤ 10 := numF_length 10 n
theorem num_pos (n : Nat) : 0 < (num n).length := numF_pos 10 n (by omega)

theorem rdF_numF (f : Nat) (n i acc : Nat) (r : List UInt8) (hf : f + i = 10) (h1 : 1 ≤ f) (hn : n < 2 ^ (7 * f - 6)) (hz : n = 0 → i = 0) :
    rdF f i acc (numF f n ++ r) = some (acc + n * 128 ^ i, i + (numF f n).length) := by
  induction f generalizing n i acc with
  | zero => omega
  | succ f ih =>
    unfold numF
    by_cases hlt : n < 128
    · rw [if_pos hlt]
      have e : (UInt8.ofNat n).toNat = n := toNat_ofNat_lt (by omega)
      simp only [List.cons_append, List.nil_append, rdF, e, List.length_cons, List.length_nil]
      have h9 : ¬ (i = 9 ∧ 1 < n) := by
        rintro ⟨hi, h⟩
        have : f = 0 := by omega
        subst this
        simp at hn
        omega
      rw [if_neg h9, if_neg (by omega), if_neg (by omega)]
      rw [Nat.mod_eq_of_lt hlt]
    · rw [if_neg hlt]
      have e : (UInt8.ofNat (n % 128 + 128)).toNat = n % 128 + 128 := toNat_ofNat_lt (by omega)
      have hf1 : 1 ≤ f := by
        rcases Nat.eq_zero_or_pos f with h0 | h0
        · subst h0
          simp at hn
          omega
        · exact h0
      have hn2 : n / 128 < 2 ^ (7 * f - 6) := by
        rw [Nat.div_lt_iff_lt_mul (by omega)]
        have : 2 ^ (7 * f - 6) * 128 = 2 ^ (7 * (f + 1) - 6) := by
          rw [show 7 * (f + 1) - 6 = (7 * f - 6) + 7 from by omega, Nat.pow_add]
        omega
      simp only [List.cons_append, rdF, e, List.length_cons]
      rw [if_neg (by omega), if_pos (by omega), ih (n / 128) (i + 1) _ (by omega) hf1 hn2 (by omega)]
      have hm : (n % 128 + 128) % 128 = n % 128 := by omega
      have hp : 128 ^ (i + 1) = 128 * 128 ^ i := by rw [Nat.pow_succ]; omega
      rw [hm, hp]
      have hd : n % 128 * 128 ^ i + n / 128 * (128 * 128 ^ i) = n * 128 ^ i := by
        rw [← Nat.mul_assoc, ← Nat.add_mul]
        congr 1
        omega
      simp only [Option.some.injEq, Prod.mk.injEq]
      omega

theorem rd_num (n : Nat) (hn : n < 2 ^ 64) (r : List UInt8) : rd (num n ++ r) = some (n, (num n).length) := by
  have := rdF_numF 10 n 0 0 r (by omega) (by omega) (by simpa using hn) (fun _ => rfl)
  simpa [rd, num] using this

theorem num_prefix (x y : Nat) (hx : x < 2 ^ 64) (hy : y < 2 ^ 64) : (num x <+: num y) ↔ x = y := by
  constructor
  · rintro ⟨t, ht⟩
    have h1 := rd_num x hx t
    have h2 := rd_num y hy []
    rw [List.append_nil, ← ht, h1] at h2
    simpa using congrArg (fun o => o.map Prod.fst) h2
  · rintro rfl
    exact List.prefix_refl _

theorem rdF_bound (f i acc : Nat) (l : List UInt8) (n k : Nat) (hf : f + i = 10) (ha : acc < 128 ^ i) (h : rdF f i acc l = some (n, k)) :
    n < 2 ^ 64 ∧ i + 1 ≤ k ∧ k ≤ i + l.length := by
  induction f generalizing i acc l with
  | zero => simp [rdF] at h
  | succ f ih =>
    cases l with
    | nil => simp [rdF] at h
    | cons c r =>
      have hc : c.toNat < 256 := c.toNat_lt
      have hs : acc + c.toNat % 128 * 128 ^ i < 128 ^ (i + 1) := by
        have h1 : c.toNat % 128 ≤ 127 := by omega
        have h2 : c.toNat % 128 * 128 ^ i ≤ 127 * 128 ^ i := Nat.mul_le_mul_right _ h1
        have h3 : 128 ^ (i + 1) = 128 ^ i * 128 := Nat.pow_succ ..
        omega
      simp only [rdF] at h
      split at h
      · cases h
      · rename_i h9
        split at h
        · obtain ⟨p1, p2, p3⟩ := ih (i + 1) _ r (by omega) hs h
          refine ⟨p1, by omega, ?_⟩
          simp only [List.length_cons]
          omega
        · rename_i h128
          split at h
          · cases h
          · simp only [Option.some.injEq, Prod.mk.injEq] at h
            obtain ⟨rfl, rfl⟩ := h
            refine ⟨?_, by omega, by simp⟩
            by_cases hi : i = 9
            · subst hi
              have hc1 : c.toNat ≤ 1 := by omega
              have : c.toNat % 128 * 128 ^ 9 ≤ 1 * 128 ^ 9 := Nat.mul_le_mul_right _ (by omega)
              simp at this ha ⊢
              omega
            · have : 128 ^ (i + 1) ≤ 128 ^ 9 := Nat.pow_le_pow_right (by omega) (by omega)
              simp at this
              omega

theorem rd_bound {l : List UInt8} {n k : Nat} (h : rd l = some (n, k)) : n < 2 ^ 64 ∧ 1 ≤ k ∧ k ≤ l.length := by
  have := rdF_bound 10 0 0 l n k (by omega) (by simp) h
  omega

/-! ### Fixed bytes -/
def fixL (k n : Nat) : List UInt8 := (List.range k).map fun i => UInt8.ofNat (n / 256 ^ (k - 1 - i))
def rfix (l : List UInt8) : Nat := l.foldl (fun a c => 256 * a + c.toNat) 0

theorem fixL_length (k n : Nat) : (fixL k n).length = k := by simp [fixL]
theorem fixL_succ (k n : Nat) : fixL (k + 1) n = UInt8.ofNat (n / 256 ^ k) :: fixL k n := by
  unfold fixL
  rw [List.range_succ_eq_map, List.map_cons, List.map_map]
  simp only [Nat.add_sub_cancel, Nat.sub_zero, List.cons.injEq, true_and]
  apply List.map_congr_left
  intro i hi
  simp at hi
  simp only [Function.comp]
  rw [show k - (i + 1) = k - 1 - i from by omega]

theorem rfix_acc (l : List UInt8) (a : Nat) : l.foldl (fun a c => 256 * a + c.toNat) a = a * 256 ^ l.length + rfix l := by
  induction l generalizing a with
  | nil => simp [rfix]
  | cons c l ih =>
    rw [rfix, List.foldl_cons, List.foldl_cons, ih, ih (256 * 0 + c.toNat), List.length_cons, Nat.pow_succ, Nat.add_mul, Nat.add_mul]
    rw [show 256 * a * 256 ^ l.length = a * (256 ^ l.length * 256) from by rw [Nat.mul_comm 256 a, Nat.mul_assoc, Nat.mul_comm 256]]
    simp
    omega

theorem rfix_cons (c : UInt8) (l : List UInt8) : rfix (c :: l) = c.toNat * 256 ^ l.length + rfix l := by
  rw [rfix, List.foldl_cons, rfix_acc]
  simp

theorem rfix_lt (l : List UInt8) : rfix l < 256 ^ l.length := by
  induction l with
  | nil => simp [rfix]
  | cons c l ih =>
    rw [rfix_cons, List.length_cons, Nat.pow_succ]
    have h1 : c.toNat ≤ 255 := by have := c.toNat_lt; omega
    have h2 : c.toNat * 256 ^ l.length ≤ 255 * 256 ^ l.length := Nat.mul_le_mul_right _ h1
    omega

theorem rfix_fixL (k n : Nat) : rfix (fixL k n) = n % 256 ^ k := by
  induction k with
  | zero => simp [fixL, rfix, Nat.mod_one]
  | succ k ih =>
    rw [fixL_succ, rfix_cons, fixL_length, ih]
    have e : (UInt8.ofNat (n / 256 ^ k)).toNat = n / 256 ^ k % 256 := by simp [UInt8.toNat_ofNat']
    rw [e, Nat.pow_succ, Nat.mod_mul]
    rw [Nat.mul_comm (256 ^ k)]
    omega

theorem fixL_rfix (l : List UInt8) : fixL l.length (rfix l) = l := by
  induction l with
  | nil => simp [fixL]
  | cons c l ih =>
    rw [List.length_cons, fixL_succ, rfix_cons]
    have hp : 0 < 256 ^ l.length := Nat.pow_pos (by omega)
    have hd : (c.toNat * 256 ^ l.length + rfix l) / 256 ^ l.length = c.toNat := by
      rw [Nat.mul_comm, Nat.mul_add_div hp, Nat.div_eq_of_lt (rfix_lt l)]
      simp
    rw [hd]
    have h1 : UInt8.ofNat c.toNat = c := by simp
    rw [h1]
    congr 1
    have : fixL l.length (c.toNat * 256 ^ l.length + rfix l) = fixL l.length (rfix l) := by
      unfold fixL
      apply List.map_congr_left
      intro i hi
      simp at hi
      have : c.toNat * 256 ^ l.length + rfix l = rfix l + 256 ^ (l.length - 1 - i) * (256 * (c.toNat * 256 ^ i)) := by
        have hpp : 256 ^ l.length = 256 ^ (l.length - 1 - i) * (256 * 256 ^ i) := by
          rw [show 256 * 256 ^ i = 256 ^ (i + 1) from by rw [Nat.pow_succ]; omega, ← Nat.pow_add]
          congr 1
          omega
        rw [hpp]
        rw [show c.toNat * (256 ^ (l.length - 1 - i) * (256 * 256 ^ i)) = 256 ^ (l.length - 1 - i) * (256 * (c.toNat * 256 ^ i)) from by
          rw [Nat.mul_left_comm]
          congr 1
          rw [Nat.mul_left_comm]]
        omega
      rw [this, Nat.add_mul_div_left _ _ (Nat.pow_pos (by omega))]
      apply UInt8.toNat_inj.1
      simp [UInt8.toNat_ofNat']
    rw [this, ih]

/-! ### The sum -/
def poly : Nat := 0xedb88320
def sh (x : Nat) : Nat := if x % 2 = 1 then (x / 2) ^^^ poly else x / 2
def shN : Nat → Nat → Nat
  | 0, x => x
  | k + 1, x => shN k (sh x)
def stepC (s : Nat) (c : UInt8) : Nat := shN 8 (s ^^^ c.toNat)
def sumS (s : Nat) (l : List UInt8) : Nat := l.foldl stepC s
def sumL (l : List UInt8) : Nat := sumS 4294967295 l ^^^ 4294967295

theorem sh_bit (x i : Nat) : (sh x).testBit i = (x.testBit (i + 1) ^^ (x.testBit 0 && poly.testBit i)) := by
  unfold sh
  by_cases h : x % 2 = 1
  · rw [if_pos h, Nat.testBit_xor, Nat.testBit_div_two]
    simp [Nat.testBit_zero, h]
  · rw [if_neg h, Nat.testBit_div_two]
    simp [Nat.testBit_zero, h]

theorem sh_xor (x y : Nat) : sh (x ^^^ y) = sh x ^^^ sh y := by
  apply Nat.eq_of_testBit_eq
  intro i
  rw [sh_bit, Nat.testBit_xor, Nat.testBit_xor, Nat.testBit_xor, sh_bit, sh_bit]
  cases x.testBit (i + 1) <;> cases y.testBit (i + 1) <;> cases x.testBit 0 <;> cases y.testBit 0 <;> cases poly.testBit i <;> rfl

theorem shN_xor (k x y : Nat) : shN k (x ^^^ y) = shN k x ^^^ shN k y := by
  induction k generalizing x y with
  | zero => rfl
  | succ k ih => simp only [shN]; rw [sh_xor, ih]

theorem sh_lt {x : Nat} (h : x < 4294967296) : sh x < 4294967296 := by
  unfold sh
  split
  · have : x / 2 < 2 ^ 32 := by omega
    have h2 : poly < 2 ^ 32 := by decide
    have := Nat.xor_lt_two_pow this h2
    simpa using this
  · omega

theorem shN_lt (k : Nat) {x : Nat} (h : x < 4294967296) : shN k x < 4294967296 := by
  induction k generalizing x with
  | zero => exact h
  | succ k ih => exact ih (sh_lt h)

theorem sh_zero {x : Nat} (h : x < 4294967296) (h0 : sh x = 0) : x = 0 := by
  unfold sh at h0
  split at h0
  · exfalso
    have h1 : x / 2 = poly := by
      have := congrArg (· ^^^ poly) h0
      simp only [Nat.xor_assoc, Nat.xor_self, Nat.xor_zero, Nat.zero_xor] at this
      exact this
    unfold poly at h1
    omega
  · omega

theorem shN_zero (k : Nat) {x : Nat} (h : x < 4294967296) (h0 : shN k x = 0) : x = 0 := by
  induction k generalizing x with
  | zero => exact h0
  | succ k ih => exact sh_zero h (ih (sh_lt h) h0)

theorem xor_lt32 {x y : Nat} (hx : x < 4294967296) (hy : y < 4294967296) : x ^^^ y < 4294967296 := by
  have := Nat.xor_lt_two_pow (n := 32) (by simpa using hx) (by simpa using hy)
  simpa using this

theorem stepC_lt {s : Nat} (h : s < 4294967296) (c : UInt8) : stepC s c < 4294967296 :=
  shN_lt 8 (xor_lt32 h (by have := c.toNat_lt; omega))

theorem sumS_lt {s : Nat} (h : s < 4294967296) (l : List UInt8) : sumS s l < 4294967296 := by
  induction l generalizing s with
  | nil => exact h
  | cons c l ih => exact ih (stepC_lt h c)

theorem sumL_lt (l : List UInt8) : sumL l < 4294967296 := xor_lt32 (sumS_lt (by omega) l) (by omega)

theorem shN_high (x : Nat) (k : Nat) : shN k (x * 2 ^ k) = x := by
  induction k generalizing x with
  | zero => simp [shN]
  | succ k ih =>
    simp only [shN]
    have h2 : x * 2 ^ (k + 1) = 2 * (x * 2 ^ k) := by rw [Nat.pow_succ]; rw [← Nat.mul_assoc]; omega
    have : sh (x * 2 ^ (k + 1)) = x * 2 ^ k := by
      unfold sh
      rw [if_neg (by omega)]
      omega
    rw [this, ih]

/-- The table's way: what the program does. -/
theorem stepC_table (s : Nat) (c : UInt8) : stepC s c = (s / 256) ^^^ shN 8 ((s % 256) ^^^ c.toNat) := by
  unfold stepC
  have hs : s = (s / 256 * 2 ^ 8) ^^^ (s % 256) := by
    apply Nat.eq_of_testBit_eq
    intro i
    rw [Nat.testBit_xor, show (256 : Nat) = 2 ^ 8 from rfl, Nat.testBit_mod_two_pow, Nat.testBit_mul_two_pow, Nat.testBit_div_two_pow]
    by_cases h : i < 8
    · have h8 : ¬ 8 ≤ i := by omega
      simp [h, h8]
    · have h8 : 8 ≤ i := by omega
      have e : i - 8 + 8 = i := by omega
      simp [h, h8, e]
  conv => lhs; rw [hs, Nat.xor_assoc, shN_xor, shN_high]

theorem xor_cancel_left {a b c : Nat} (h : a ^^^ b = a ^^^ c) : b = c := by
  have := congrArg (a ^^^ ·) h
  simpa [← Nat.xor_assoc] using this

theorem xor_eq_zero {a b : Nat} (h : a ^^^ b = 0) : a = b := by
  have := congrArg (· ^^^ b) h
  simp [Nat.xor_assoc] at this
  exact this

theorem stepC_inj_state {s t : Nat} (hs : s < 4294967296) (ht : t < 4294967296) {c : UInt8} (h : stepC s c = stepC t c) : s = t := by
  unfold stepC at h
  rw [shN_xor, shN_xor] at h
  have h2 : shN 8 s = shN 8 t := by
    have := congrArg (· ^^^ shN 8 c.toNat) h
    simpa [Nat.xor_assoc] using this
  have h3 : shN 8 (s ^^^ t) = 0 := by rw [shN_xor, h2, Nat.xor_self]
  exact xor_eq_zero (shN_zero 8 (xor_lt32 hs ht) h3)

theorem stepC_inj_byte {s : Nat} {c d : UInt8} (h : stepC s c = stepC s d) : c = d := by
  unfold stepC at h
  rw [shN_xor, shN_xor] at h
  have h2 := xor_cancel_left h
  have h3 : shN 8 (c.toNat ^^^ d.toNat) = 0 := by rw [shN_xor, h2, Nat.xor_self]
  have hc := c.toNat_lt
  have hd := d.toNat_lt
  exact UInt8.toNat_inj.1 (xor_eq_zero (shN_zero 8 (xor_lt32 (by omega) (by omega)) h3))

theorem sumS_inj {s t : Nat} (hs : s < 4294967296) (ht : t < 4294967296) {l : List UInt8} (h : sumS s l = sumS t l) : s = t := by
  induction l generalizing s t with
  | nil => exact h
  | cons c l ih => exact stepC_inj_state hs ht (ih (stepC_lt hs c) (stepC_lt ht c) h)

theorem sumS_append (s : Nat) (a b : List UInt8) : sumS s (a ++ b) = sumS (sumS s a) b := by simp [sumS, List.foldl_append]

/-- Lists of bytes that differ in one byte have unlike sums. -/
theorem sumL_one (a b : List UInt8) (c d : UInt8) (h : sumL (a ++ c :: b) = sumL (a ++ d :: b)) : c = d := by
  unfold sumL at h
  have h1 : sumS 4294967295 (a ++ c :: b) = sumS 4294967295 (a ++ d :: b) := by
    have := congrArg (· ^^^ 4294967295) h
    simpa [Nat.xor_assoc] using this
  rw [sumS_append, sumS_append] at h1
  have hs := sumS_lt (s := 4294967295) (by omega) a
  exact stepC_inj_byte (sumS_inj (stepC_lt hs c) (stepC_lt hs d) h1)

theorem sumL_set (l : List UInt8) (i : Nat) (hi : i < l.length) (d : UInt8) (hd : l[i] ≠ d) : sumL l ≠ sumL (l.set i d) := by
  intro h
  have e1 : l = l.take i ++ l[i] :: l.drop (i + 1) := by simp
  have e2 : l.set i d = l.take i ++ d :: l.drop (i + 1) := by rw [List.set_eq_take_append_cons_drop, if_pos hi]
  rw [e2] at h
  conv at h => lhs; rw [e1]
  exact hd (sumL_one _ _ _ _ h)

end Lou
/- Words for memory that all texts of this seat share: bytes that a call owns; growth of the world. -/
namespace Go.Proofs.Ytlelckdcmlpmdaa
open Go Go.RowKit

@[reducible] def b8 (c : UInt8) : Value := .int .u8 (c.toNat : Int)

theorem inf_u8 : (Try.prog.info? 5).map (fun i => (i.zero, i.size, i.bytes)) = some (some (.int .u8 0), 1, 1) := by kernel_rfl

/-- The value v is bytes l, which the call owns: a row of blocks from base on. -/
def OwnB (w : World) (base : Nat) (v : Value) (l : List UInt8) : Prop := w.ownsRow base 5 1 v l.length (l.map b8)

/-- A call gives bytes of its own, and turns nothing that was there. -/
def GivesB (w0 : World) (l : List UInt8) (e : Ending) (w' : World) : Prop :=
  ∃ v, e = .returned v ∧ OwnB w' w0.heap.size v l ∧ Below w0.heap.size w0 w'

theorem OwnB.nil (w : World) (base : Nat) : OwnB w base (.slice none 0 0) [] := World.ownsRow_nil _ _ _ _

theorem OwnB.form {w : World} {base : Nat} {v : Value} {l : List UInt8} (h : OwnB w base v l) :
    (v = .slice none 0 0 ∧ l = []) ∨ ∃ g cap, v = .slice (some ⟨g, 0, none⟩) l.length cap ∧ base ≤ g ∧ g < w.heap.size ∧ l.length ≤ cap := by
  rcases h.2 with ⟨h1, h2⟩ | ⟨g, cap, cur, hv, hb, hg, hle, _⟩
  · exact .inl ⟨h1, List.eq_nil_of_length_eq_zero h2⟩
  · exact .inr ⟨g, cap, hv, hb, (Array.getElem?_eq_some_iff.1 hg).1, hle⟩

/-- Bytes that are not none: where they lie. -/
theorem OwnB.at_ {w : World} {base : Nat} {v : Value} {l : List UInt8} (h : OwnB w base v l) (hl : 0 < l.length) :
    ∃ g cap, v = .slice (some ⟨g, 0, none⟩) l.length cap ∧ base ≤ g ∧ g < w.heap.size ∧ l.length ≤ cap := by
  rcases h.form with ⟨_, rfl⟩ | h
  · simp at hl
  · exact h

/-- Bytes that came in: '.slice A l.length c' reads as l, and lies below block B. -/
structure InB (w : World) (B : Nat) (A : Option Addr) (c : Nat) (l : List UInt8) : Prop where
  le : l.length ≤ c
  max : c ≤ 9223372036854775807
  nil : A = none → c = 0
  lies : 0 < l.length → ∃ g o, A = some ⟨g, o, none⟩ ∧ g < B ∧ ∀ j (h : j < l.length), w.cell? ⟨g, o + j, none⟩ = some (.int .u8 (l[j].toNat : Int))

theorem InB.keep {w w' : World} {B : Nat} {A : Option Addr} {c : Nat} {l : List UInt8} (h : InB w B A c l) (hk : ∀ p : Addr, p.block < B → w'.cell? p = w.cell? p) : InB w' B A c l :=
  ⟨h.le, h.max, h.nil, fun hl => by
    obtain ⟨g, o, hA, hg, hc⟩ := h.lies hl
    exact ⟨g, o, hA, hg, fun j hj => (hk _ hg).trans (hc j hj)⟩⟩
theorem InB.below {w w' : World} {B : Nat} {A : Option Addr} {c : Nat} {l : List UInt8} (h : InB w B A c l) (hb : Below B w w') : InB w' B A c l := h.keep fun _ hp => hb.cell hp
theorem InB.drew {w : World} {B : Nat} {A : Option Addr} {c : Nat} {l : List UInt8} (h : InB w B A c l) : InB w.drew B A c l := ⟨h.le, h.max, h.nil, h.lies⟩
theorem InB.more {w : World} {B B' : Nat} {A : Option Addr} {c : Nat} {l : List UInt8} (h : InB w B A c l) (hB : B ≤ B') : InB w B' A c l :=
  ⟨h.le, h.max, h.nil, fun hl => by
    obtain ⟨g, o, hA, hg, hc⟩ := h.lies hl
    exact ⟨g, o, hA, by omega, hc⟩⟩

theorem OwnB.inB {w : World} {base : Nat} {v : Value} {l : List UInt8} (h : OwnB w base v l) : ∃ A c, v = .slice A l.length c ∧ InB w w.heap.size A c l := by
  rcases h.2 with ⟨h1, h2⟩ | ⟨g, cap, cur, hv, hb, hg, hle, hm, hs, ht⟩
  · obtain rfl := List.eq_nil_of_length_eq_zero h2
    exact ⟨none, 0, h1, by simp, by omega, fun _ => rfl, fun h => by simp at h⟩
  · refine ⟨_, cap, hv, hle, by unfold maxLen at hm; omega, fun h => by simp at h, fun _ => ⟨g, 0, rfl, (Array.getElem?_eq_some_iff.1 hg).1, fun j hj => ?_⟩⟩
    rw [Nat.zero_add, cell_of_row w g j cur _ (0, 0) hg]
    have := congrArg (fun x => x[j]?) ht
    simp only [List.getElem?_take, List.getElem?_map, List.getElem?_eq_getElem hj, Option.map_some] at this
    rw [if_pos (by omega)] at this
    simpa using this

/-- Cut: b[lo:hi]. -/
def cutA (A : Option Addr) (c n : Nat) : Option Addr := if c = n then A else A.map (·.add n)
theorem InB.drop {w : World} {B : Nat} {A : Option Addr} {c : Nat} {l : List UInt8} (h : InB w B A c l) (n : Nat) (hn : n ≤ l.length) : InB w B (cutA A c n) (c - n) (l.drop n) := by
  have h1 := h.le
  have h2 := h.max
  refine ⟨by simp; omega, by omega, ?_, ?_⟩
  · intro hA
    unfold cutA at hA
    split at hA
    · omega
    · have := h.nil (by simpa using hA); omega
  · intro hl
    simp at hl
    obtain ⟨g, o, rfl, hg, hc⟩ := h.lies (by omega)
    refine ⟨g, o + n, ?_, hg, ?_⟩
    · unfold cutA
      rw [if_neg (by omega)]
      by_cases hz : n = 0 <;> simp [Addr.add, hz]
    · intro j hj
      simp at hj
      have := hc (n + j) (by omega)
      rw [Nat.add_assoc, this]
      simp
theorem InB.take {w : World} {B : Nat} {A : Option Addr} {c : Nat} {l : List UInt8} (h : InB w B A c l) (n : Nat) (c' : Nat) (hn : n ≤ l.length) (hc : n ≤ c') (hc' : c' ≤ c) : InB w B A c' (l.take n) := by
  have h1 := h.le
  have h2 := h.max
  refine ⟨by simp; omega, by omega, fun hA => by have := h.nil hA; omega, ?_⟩
  intro hl
  simp at hl
  obtain ⟨g, o, rfl, hg, hcell⟩ := h.lies (by omega)
  refine ⟨g, o, rfl, hg, fun j hj => ?_⟩
  simp at hj
  rw [hcell j (by omega)]
  simp

/-- Bytes as a string. -/
def str (l : List UInt8) : ByteArray := ⟨l.toArray⟩
theorem str_size (l : List UInt8) : (str l).size = l.length := rfl
theorem str_data (l : List UInt8) : (str l).data.toList = l := rfl
theorem str_of (s : ByteArray) : s = str s.data.toList := by cases s; simp [str]
theorem strOf_bytes (l : List UInt8) : strOfNums (l.map fun x => (x.toNat : Int)) = str l := by
  have e : (l.map fun x => (x.toNat : Int)).map (fun n => UInt8.ofNat n.toNat) = l := by
    rw [List.map_map]
    conv => rhs; rw [← List.map_id l]
    apply List.map_congr_left
    intro x _
    simp
  unfold strOfNums str
  rw [e]
theorem InB.string {w : World} {B : Nat} {A : Option Addr} {c : Nat} {l : List UInt8} (h : InB w B A c l) :
    (convert 30 9 (.slice A l.length c)).run Try.prog w = .ok (.string (str l)) w := by
  rcases A with _ | a
  · have := h.nil rfl
    have h1 := h.le
    obtain rfl : l = [] := List.eq_nil_of_length_eq_zero (by omega)
    exact run_convert_bytes_nil (P := Try.prog) w _ 5 Try.underlying30 Try.underlying5 _ _ _ Try.underlying9
  · rcases Nat.eq_zero_or_pos l.length with h0 | h0
    · obtain rfl := List.eq_nil_of_length_eq_zero h0
      have hl : (loadCells a ([] : List Int).length).run Try.prog w = .ok ((([] : List Int)).map (Value.int .u8)).toArray w :=
        run_loadCells_list (P := Try.prog) w a [] (fun j v hj => by simp at hj)
      rw [run_convert_bytes_string w _ _ 5 _ _ c Try.underlying30 Try.underlying5 Try.underlying9, List.length_nil]
      have := run_bytesToString (P := Try.prog) w a 0 c [] hl
      rw [this]
      exact congrArg (fun s => Result.ok (Value.string s) w) (show ByteArray.empty = str [] from rfl)
    · obtain ⟨g, o, hA, _, hc⟩ := h.lies h0
      obtain rfl : a = ⟨g, o, none⟩ := by simpa using hA
      have := run_convert_bytes_arg (P := Try.prog) w 30 5 Try.underlying30 Try.underlying5 g o l.length c (l.map fun x => (x.toNat : Int)) (by simp) (fun i hi => by rw [hc i hi]; simp [List.getD, hi]) 9 Try.underlying9
      rw [this, strOf_bytes]

/-! ### append, in bytes -/
section
variable {w : World} {ops : Array Oper} {rest : List Oper} {o : Oper} {a : Act} {Q : Exit → Act → World → Prop}

theorem cons_inj8 {l : List UInt8} {n : Nat} (h : n < 256) : l.map b8 ++ [.int .u8 (n : Int)] = (l ++ [UInt8.ofNat n]).map b8 := by
  simp [b8]; omega

/-- append(v, x...), x bytes that came in (or not), v the call's own. -/
theorem wp_appB (hg : o.guard = none) (s x : Operand) (ho : o.op = .call { callee := .builtin .append, args := #[s, x], argTypes := #[30, 30] })
    (base : Nat) (v : Value) (l : List UInt8) (hs : a.eval s = v) (hown : OwnB w base v l) (B : Nat) (A : Option Addr) (c : Nat) (l2 : List UInt8) (hx : a.eval x = .slice A l2.length c) (hin : InB w B A c l2)
    (hbytes : l.length + l2.length ≤ 140737488355328) (hbase : base ≤ w.heap.size)
    (h : ∀ v' w', OwnB w' base v' (l ++ l2) → w.grownBy w' v.ownBlock → wpList Try.prog ops Q rest (a.put o.dst v') w') : wpList Try.prog ops Q (o :: rest) a w := by
  obtain ⟨i0, hi, hz0, hz1, hz2⟩ := info_parts inf_u8
  have hle := hin.le
  rcases A with _ | ad
  · have hc0 := hin.nil rfl
    obtain rfl : l2 = [] := List.eq_nil_of_length_eq_zero (by omega)
    subst hc0
    refine wpList_append_own_none (w := w) hg s x _ ho base _ i0 1 Try.underlying30 hi v l.length (l.map b8) hs hown hx ?_
    exact h v w (by rw [List.append_nil]; exact hown) (World.grownBy.refl _ _)
  · have hnews : ∀ j u, (l2.map b8)[j]? = some u → w.cell? (ad.add j) = some u := by
      intro j u hu
      have hj : j < l2.length := by
        rcases Nat.lt_or_ge j l2.length with h | h
        · exact h
        · rw [List.getElem?_eq_none (by simpa using h)] at hu; cases hu
      obtain ⟨g, o', hA, _, hc⟩ := hin.lies (by omega)
      obtain rfl : ad = ⟨g, o', none⟩ := by simpa using hA
      have e : (⟨g, o', none⟩ : Addr).add j = ⟨g, o' + j, none⟩ := by unfold Addr.add; split <;> simp_all
      rw [e, hc j hj]
      simpa [hj, b8] using hu
    refine wpList_append_own w hg s x _ ho base _ i0 (.int .u8 0) 1 1 Try.underlying30 hi hz0 hz1 hz2 rfl (by decide) v l.length (l.map b8) hs hown ad l2.length c (l2.map b8) hx (by simp) hnews (by simp [b8, Value.oneCell']) (by unfold maxLen; omega) (by omega) hbase ?_
    intro v' w' hown' hgrow _
    refine h v' w' ?_ hgrow
    unfold OwnB
    simpa using hown'

/-- append(v, n), n one byte in a block just laid. -/
theorem wp_app1 (hg : o.guard = none) (s x : Operand) (ho : o.op = .call { callee := .builtin .append, args := #[s, x], argTypes := #[30, 30] })
    (base : Nat) (v : Value) (l : List UInt8) (hs : a.eval s = v) (hown : OwnB w base v l) (g n : Nat) (hx : a.eval x = .slice (some ⟨g, 0, none⟩) 1 1) (hcell : w.cell? ⟨g, 0, none⟩ = some (.int .u8 (n : Int))) (hn : n < 256)
    (hbytes : l.length + 1 ≤ 140737488355328) (hbase : base ≤ w.heap.size)
    (h : ∀ v' w', OwnB w' base v' (l ++ [UInt8.ofNat n]) → w.grownBy w' v.ownBlock → wpList Try.prog ops Q rest (a.put o.dst v') w') : wpList Try.prog ops Q (o :: rest) a w := by
  obtain ⟨i0, hi, hz0, hz1, hz2⟩ := info_parts inf_u8
  have hnews : ∀ j u, [Value.int .u8 (n : Int)][j]? = some u → w.cell? ((⟨g, 0, none⟩ : Addr).add j) = some u := by
    intro j u hu
    match j, hu with
    | 0, hu => simp at hu; subst hu; simpa [Addr.add] using hcell
  refine wpList_append_own w hg s x _ ho base _ i0 (.int .u8 0) 1 1 Try.underlying30 hi hz0 hz1 hz2 rfl (by decide) v l.length (l.map b8) hs hown _ 1 1 [.int .u8 (n : Int)] hx (by simp) hnews (by simp [Value.oneCell']) (by unfold maxLen; omega) (by omega) hbase ?_
  intro v' w' hown' hgrow _
  refine h v' w' ?_ hgrow
  rw [cons_inj8 hn] at hown'
  unfold OwnB
  simpa using hown'

/-- append(v, s...), s a string. -/
theorem wp_appS (hg : o.guard = none) (s x : Operand) (ho : o.op = .call { callee := .builtin .append, args := #[s, x], argTypes := #[30, 9] })
    (base : Nat) (v : Value) (l : List UInt8) (hs : a.eval s = v) (hown : OwnB w base v l) (st : ByteArray) (hx : a.eval x = .string st)
    (hbytes : l.length + st.size ≤ 140737488355328) (hbase : base ≤ w.heap.size)
    (h : ∀ v' w', OwnB w' base v' (l ++ st.data.toList) → w.grownBy w' v.ownBlock → wpList Try.prog ops Q rest (a.put o.dst v') w') : wpList Try.prog ops Q (o :: rest) a w := by
  obtain ⟨i0, hi, hz0, hz1, hz2⟩ := info_parts inf_u8
  refine Lib.wpList_append_own_string w hg s x _ _ ho base _ i0 Try.underlying30 Try.underlying9 hi hz0 hz1 hz2 v l.length (l.map b8) hs hown st hx (by unfold maxLen; omega) (by omega) hbase ?_
  intro v' w' hown' hgrow _
  refine h v' w' ?_ hgrow
  unfold OwnB
  have e : Lib.strCells st = st.data.toList.map b8 := rfl
  rw [e] at hown'
  have e2 : (l ++ st.data.toList).length = l.length + st.size := by rw [List.length_append, Array.length_toList]; rfl
  rw [e2, List.map_append]
  exact hown'
/-- make([]byte, n). -/
theorem wp_makeB (hg : o.guard = none) (x y : Operand) (ho : o.op = Op.makeSlice 30 x y) (base : Nat) (kl kc : IntKind) (n : Nat) (hx : a.eval x = .int kl (n : Int)) (hy : a.eval y = .int kc (n : Int))
    (hn : n ≤ 140737488355328) (hbase : base ≤ w.heap.size)
    (h : ∀ w', OwnB w' base (.slice (some ⟨w.heap.size, 0, none⟩) n n) (List.replicate n 0) → w.grownBy w' none → wpList Try.prog ops Q rest (a.put o.dst (.slice (some ⟨w.heap.size, 0, none⟩) n n)) w') : wpList Try.prog ops Q (o :: rest) a w := by
  obtain ⟨i0, hi, hz0, hz1, hz2⟩ := info_parts inf_u8
  refine wpList_make_full w hg x y _ ho base _ i0 (.int .u8 0) 1 Try.underlying30 hi hz0 hz1 kl kc n n n hx hy rfl rfl (by rw [hz2]; omega) (by unfold maxLen; omega) hbase ?_
  intro w' hown hgrow
  refine h w' ?_ hgrow
  have e : (madeCells (Value.int .u8 0).cells (n * 1)).toList = (List.replicate n (0 : UInt8)).map b8 := by
    rw [Nat.mul_one, show (Value.int .u8 0).cells = #[.int .u8 0] from rfl, toList_madeCells_one]
    simp [b8]
  rw [e] at hown
  unfold OwnB
  simpa using hown
end

theorem OwnB.set {w : World} {base g n cap : Nat} {l : List UInt8} (h : OwnB w base (.slice (some ⟨g, 0, none⟩) n cap) l) (j x : Nat) (hx : x < 256) :
    OwnB (w.setCell ⟨g, j, none⟩ (.int .u8 (x : Int))) base (.slice (some ⟨g, 0, none⟩) n cap) (l.set j (UInt8.ofNat x)) := by
  rcases h.form with ⟨h1, _⟩ | ⟨g', cap', h1, _, _, _⟩
  · cases h1
  · injection h1 with h2 h3 h4
    subst h3
    have := (World.ownsRow.stored (w := w) h j (.int .u8 (x : Int))).1
    unfold OwnB
    rw [List.length_set, List.map_set]
    have e : b8 (UInt8.ofNat x) = .int .u8 (x : Int) := by simp [b8]; omega
    rw [e]
    exact this
theorem OwnB.cell {w : World} {base g n cap : Nat} {l : List UInt8} (h : OwnB w base (.slice (some ⟨g, 0, none⟩) n cap) l) (j : Nat) (hj : j < l.length) : w.cell? ⟨g, j, none⟩ = some (.int .u8 (l[j].toNat : Int)) := by
  rcases h.form with ⟨h1, _⟩ | ⟨g', cap', h1, _, _, _⟩
  · cases h1
  · injection h1 with h2 h3 h4
    subst h3
    have := World.ownsRow.cellAt (w := w) h j (by omega)
    rw [this]
    simp [b8, hj]
theorem OwnB.free {w : World} {base g n cap : Nat} {l : List UInt8} (h : OwnB w base (.slice (some ⟨g, 0, none⟩) n cap) l) (j : Nat) : w.frozen? ⟨g, j, none⟩ = false := by
  rcases h.form with ⟨h1, _⟩ | ⟨g', cap', h1, _, _, _⟩
  · cases h1
  · injection h1 with h2 h3 h4
    subst h3
    exact World.ownsRow.frozenAt (w := w) h j

/-! ### A block that is known whole -/
def BlkIs (w : World) (g : Nat) (t : TypeId) (cs : Array Value) : Prop := w.heap[g]? = some (.cells cs t (0, 0))
section
variable {w w' : World} {g : Nat} {t : TypeId} {cs : Array Value}
theorem BlkIs.lt (h : BlkIs w g t cs) : g < w.heap.size := (Array.getElem?_eq_some_iff.1 h).1
theorem BlkIs.cell (h : BlkIs w g t cs) (i : Nat) : w.cell? ⟨g, i, none⟩ = cs[i]? := cell_of_row w g i cs t (0, 0) h
theorem BlkIs.free (h : BlkIs w g t cs) (i : Nat) : w.frozen? ⟨g, i, none⟩ = false := by
  unfold BlkIs at h
  simp [World.frozen?, h]
theorem BlkIs.set (h : BlkIs w g t cs) (i : Nat) (u : Value) : BlkIs (w.setCell ⟨g, i, none⟩ u) g t (cs.setIfInBounds i u) := by
  unfold BlkIs at h ⊢
  simp [World.setCell, Array.getElem?_modify, h]
theorem BlkIs.other (h : BlkIs w g t cs) {p : Addr} (hp : g ≠ p.block) (u : Value) : BlkIs (w.setCell p u) g t cs := (Below.heap_setCell w p u g hp).trans h
theorem BlkIs.drew (h : BlkIs w g t cs) : BlkIs w.drew g t cs := h
theorem BlkIs.alloc (h : BlkIs w g t cs) (o : Obj) : BlkIs (w.alloc o) g t cs := (Below.heap_alloc w o g h.lt).trans h
theorem BlkIs.new (w : World) (t : TypeId) (cs : Array Value) : BlkIs (w.alloc (.cells cs t)) w.heap.size t cs := heap_alloc_new w _
theorem BlkIs.below {B : Nat} (h : BlkIs w g t cs) (hb : Below B w w') (hg : g < B) : BlkIs w' g t cs := (hb.block g hg).trans h
theorem BlkIs.grown {row : Option Nat} (h : BlkIs w g t cs) (hb : w.grownBy w' row) (hg : some g ≠ row) : BlkIs w' g t cs := (hb.block g h.lt hg).trans h
end
/-- A block of bytes. -/
theorem BlkIs.inB {w : World} {g : Nat} {l : List UInt8} (h : BlkIs w g 5 (l.map b8).toArray) (B : Nat) (hB : g < B) (hm : l.length ≤ 9223372036854775807) : InB w B (some ⟨g, 0, none⟩) l.length l :=
  ⟨Nat.le_refl _, hm, (fun h => by cases h), fun _ => ⟨g, 0, rfl, hB, fun j hj => by
    rw [h.cell, Nat.zero_add]
    simp [hj, b8]⟩⟩

theorem inB_row {w : World} {g : Nat} {l : List UInt8} {fr : Nat × Nat} (h : w.heap[g]? = some (.cells (l.map b8).toArray 5 fr)) (B : Nat) (hB : g < B) (hm : l.length ≤ 9223372036854775807) : InB w B (some ⟨g, 0, none⟩) l.length l :=
  ⟨Nat.le_refl _, hm, (fun h => by cases h), fun _ => ⟨g, 0, rfl, hB, fun j hj => by
    rw [cell_of_row w g _ _ _ _ h, Nat.zero_add]
    simp [hj, b8]⟩⟩

theorem grownBy_set (w : World) (b i : Nat) (v : Value) : w.grownBy (w.setCell ⟨b, i, none⟩ v) (some b) :=
  ⟨rfl, rfl, rfl, by simp [World.setCell], fun k _ hk => Below.heap_setCell _ _ _ k (fun e => hk (by rw [e]))⟩
theorem grownBy_trans {a b c : World} {row : Option Nat} (h : a.grownBy b row) (k : b.grownBy c row) : a.grownBy c row :=
  ⟨k.os.trans h.os, k.tape.trans h.tape, k.output.trans h.output, Nat.le_trans h.size k.size, fun i hi hr => (k.block i (Nat.lt_of_lt_of_le hi h.size) hr).trans (h.block i hi hr)⟩
theorem grownBy_drew (w : World) (row : Option Nat) : w.grownBy w.drew row := ⟨rfl, rfl, rfl, Nat.le_refl _, fun _ _ _ => rfl⟩

theorem new_cell (w : World) (v : Value) (t : TypeId) : (w.alloc (.cells #[v] t)).cell? ⟨w.heap.size, 0, none⟩ = some v := by
  simp
theorem new_free (w : World) (c : Array Value) (t : TypeId) (i : Nat) : (w.alloc (.cells c t)).frozen? ⟨w.heap.size, i, none⟩ = false := by
  unfold World.frozen?
  rw [heap_alloc_new]
  simp

theorem or128 : ∀ m, m < 256 → m ||| 128 = m % 128 + 128 := by decide +kernel
theorem u8_or128 (n : Nat) : bits .or .u8 ((n : Int) % 256) 128 = ((n % 128 + 128 : Nat) : Int) := by
  have e : (n : Int) % 256 = ((n % 256 : Nat) : Int) := by omega
  rw [e]
  have := u8_or_nat (n % 256) 128 (by omega) (by omega)
  rw [or128 _ (by omega)] at this
  have h2 : (((128 : Nat)) : Int) = 128 := rfl
  rw [h2] at this
  rw [this]
  congr 1
  omega

end Go.Proofs.Ytlelckdcmlpmdaa
/- From a row's own reading of a slice of bytes to InB. -/
namespace Go.Proofs.Ytlelckdcmlpmdaa
open Go Go.RowKit Lou

/-- What a row tells of a slice of integers that came in. -/
def IsRow (k : IntKind) (w : World) (a : Option Addr) (len cap : Nat) (zs : List Int) : Prop :=
  (a = none ∧ len = 0 ∧ cap = 0 ∧ zs = []) ∨
  ∃ x, a = some x ∧ len ≤ cap ∧ cap ≤ maxLen ∧ zs.length = cap ∧ (∀ i, i < zs.length → w.cell? (x.add i) = some (.int k (zs.getD i 0))) ∧ ∀ n ∈ zs, (Lit.int k n).wf = true

theorem u8_wf {n : Int} (h : (Lit.int .u8 n).wf = true) : 0 ≤ n ∧ n < 256 := by
  simp only [Lit.wf, Bool.and_eq_true, decide_eq_true_eq] at h
  have e1 : IntKind.u8.min = 0 := by decide
  have e2 : IntKind.u8.max = 255 := by decide
  omega
theorem u64_wf {n : Int} (h : (Lit.int .u64 n).wf = true) : ∃ m : Nat, n = m ∧ m < 2 ^ 64 := by
  simp only [Lit.wf, Bool.and_eq_true, decide_eq_true_eq] at h
  have e1 : IntKind.u64.min = 0 := by decide
  have e2 : IntKind.u64.max = 18446744073709551615 := by decide
  exact ⟨n.toNat, by omega, by omega⟩
theorem i64_wf {n : Int} (h : (Lit.int .i64 n).wf = true) : -9223372036854775808 ≤ n ∧ n < 9223372036854775808 := by
  simp only [Lit.wf, Bool.and_eq_true, decide_eq_true_eq] at h
  have e1 : IntKind.i64.min = -9223372036854775808 := by decide
  have e2 : IntKind.i64.max = 9223372036854775807 := by decide
  omega

theorem cell_block_lt {w : World} {a : Addr} {v : Value} (h : w.cell? a = some v) : a.block < w.heap.size := by
  simp only [World.cell?] at h
  by_cases hb : a.block < w.heap.size
  · exact hb
  · exfalso
    simp [Array.getElem?_eq_none (Nat.le_of_not_lt hb)] at h
theorem IsRow.inB {w : World} {a : Option Addr} {len cap : Nat} {zs : List Int} (h : IsRow .u8 w a len cap zs) : ∃ l : List UInt8, l.length = len ∧ InB w w.heap.size a cap l := by
  rcases h with ⟨rfl, rfl, rfl, rfl⟩ | ⟨x, rfl, hl, hm, hz, hcell, hwf⟩
  · exact ⟨[], rfl, ⟨by simp, by simp, fun _ => rfl, fun h => by simp at h⟩⟩
  · refine ⟨(zs.take len).map (fun n => UInt8.ofNat n.toNat), by simp; omega, ?_⟩
    have hlen : ((zs.take len).map (fun n => UInt8.ofNat n.toNat)).length = len := by simp; omega
    refine ⟨by omega, by unfold maxLen at hm; omega, (fun h => by cases h), fun h0 => ?_⟩
    obtain ⟨b, off, spot⟩ := x
    have hc := hcell 0 (by omega)
    have hspot : spot = none := by simpa [Addr.add] using World.cell?_spot hc
    subst hspot
    refine ⟨b, off, rfl, ?_, fun j hj => ?_⟩
    · exact cell_block_lt hc
    · have hj' : j < zs.length := by omega
      have := hcell j hj'
      have hw := u8_wf (hwf (zs.getD j 0) (by rw [List.getD_eq_getElem?_getD, List.getElem?_eq_getElem hj']; simp))
      have he : ((((zs.take len).map (fun n => UInt8.ofNat n.toNat))[j]'hj).toNat : Int) = zs.getD j 0 := by
        simp only [List.getElem_map, List.getElem_take]
        rw [List.getD_eq_getElem?_getD, List.getElem?_eq_getElem hj'] at hw ⊢
        simp only [Option.getD_some] at hw ⊢
        simp
        omega
      rw [he]
      have ea : (⟨b, off, none⟩ : Addr).add j = ⟨b, off + j, none⟩ := by cases j <;> simp [Addr.add]
      rw [← ea]
      exact this
end Go.Proofs.Ytlelckdcmlpmdaa
/- From a row's own reading of structs and arrays that came in to their parts. -/
namespace Go.Proofs.Ytlelckdcmlpmdaa
open Go Lou Go.ChangeShapes Go.WideShapes Go.ChangeAt Go.RowKit

section
variable {H : Type} {enc : TypeId × Value → H} {W : World} {r : Reach} {b0 b1 : Nat} {spare : Nat → Bool} {held : Bool} {v : Value} {d : DataW H} {p : List MemPlace}
set_option maxRecDepth 100000 in
theorem open_struct {T : TypeId} {fs : Array Field} (hu : Try.prog.underlying T = some (.struct fs)) (hval : Value.okWide Try.prog W r b0 T v) (h : DataW.Trod enc Try.prog W b1 spare held T v d p) :
    ∃ cs : List Value, v = .agg cs.toArray ∧ cs.length = Try.prog.cellsOf T ∧ ∀ (i : Nat) (f : Field), fs[i]? = some f → ∃ n x, DataW.trod enc Try.prog W b1 spare held n f.type ((cs.drop f.offset).take (Try.prog.cellsOf f.type)) = some x := by
  unfold Value.okWide at hval
  rw [hu] at hval
  obtain ⟨cs, rfl, hsz, _⟩ := hval
  obtain ⟨fuel, hf⟩ := h
  obtain ⟨xs, m, _, _, _, hl, hi⟩ := DataW.trod_struct hu hf
  refine ⟨cs.toList, by simp, by simpa using hsz, fun i f hif => ?_⟩
  have e := hi i f hif
  have hlt : i < xs.length := by rw [hl]; exact (Array.getElem?_eq_some_iff.1 hif).1
  rw [List.getElem?_eq_getElem hlt] at e
  exact ⟨m, _, e⟩
set_option maxRecDepth 100000 in
theorem open_arr {T e : TypeId} {n : Nat} (hu : Try.prog.underlying T = some (.array n e)) (hval : Value.okWide Try.prog W r b0 T v) (h : DataW.Trod enc Try.prog W b1 spare held T v d p) :
    ∃ cs : List Value, v = .agg cs.toArray ∧ cs.length = Try.prog.cellsOf T ∧ ∀ i, i < n → ∃ m x, DataW.trod enc Try.prog W b1 spare held m e ((cs.drop (i * Try.prog.cellsOf e)).take (Try.prog.cellsOf e)) = some x := by
  unfold Value.okWide at hval
  rw [hu] at hval
  obtain ⟨cs, rfl, hsz, _⟩ := hval
  obtain ⟨fuel, hf⟩ := h
  obtain ⟨xs, m, _, _, _, hl, hi⟩ := DataW.trod_array hu hf
  refine ⟨cs.toList, by simp, by simpa using hsz, fun i hin => ?_⟩
  have e := hi i hin
  rw [List.getElem?_eq_getElem (by omega)] at e
  exact ⟨m, _, e⟩
set_option maxRecDepth 100000 in
theorem one_int {T : TypeId} {k : IntKind} {n : Nat} {c : Value} {l : List Value} {x : DataW H × List MemPlace} (hu : Try.prog.underlying T = some (.int k)) (hc : Try.prog.cellsOf T = 1) (h : DataW.trod enc Try.prog W b1 spare held n T ((c :: l).take (Try.prog.cellsOf T)) = some x) : ∃ z, c = .int k z ∧ (Lit.int k z).wf = true := by
  rw [hc] at h
  obtain ⟨z, g, _, q⟩ := DataW.trod_int hu h
  simp at g
  exact ⟨z, g, q⟩
set_option maxRecDepth 100000 in
theorem one_bool {T : TypeId} {n : Nat} {c : Value} {l : List Value} {x : DataW H × List MemPlace} (hu : Try.prog.underlying T = some .bool) (hc : Try.prog.cellsOf T = 1) (h : DataW.trod enc Try.prog W b1 spare held n T ((c :: l).take (Try.prog.cellsOf T)) = some x) : ∃ z, c = .bool z := by
  rw [hc] at h
  obtain ⟨z, g, _⟩ := DataW.trod_bool hu h
  simp at g
  exact ⟨z, g⟩
set_option maxRecDepth 100000 in
theorem one_string {T : TypeId} {n : Nat} {c : Value} {l : List Value} {x : DataW H × List MemPlace} (hu : Try.prog.underlying T = some .string) (hc : Try.prog.cellsOf T = 1) (h : DataW.trod enc Try.prog W b1 spare held n T ((c :: l).take (Try.prog.cellsOf T)) = some x) : ∃ s : List UInt8, c = .string (str s) ∧ s.length ≤ maxLen := by
  rw [hc] at h
  obtain ⟨s, g, _, q⟩ := DataW.trod_string hu h
  simp at g
  exact ⟨s.data.toList, by rw [g, ← str_of s], by simpa using q⟩
set_option maxRecDepth 100000 in
theorem one_bytes {n : Nat} {c : Value} {l : List Value} {x : DataW H × List MemPlace} (h : DataW.trod enc Try.prog W b1 (fun _ => true) held n 30 ((c :: l).take (Try.prog.cellsOf 30)) = some x) : ∃ A k, ∃ s : List UInt8, c = .slice A s.length k ∧ InB W W.heap.size A k s := by
  have hc : Try.prog.cellsOf 30 = 1 := by kernel_rfl
  rw [hc] at h
  have key : ∃ a len cap zs, c = .slice a len cap ∧ IsRow .u8 W a len cap zs := by
    rcases open_ints Try.underlying30 Try.underlying5 (by kernel_rfl) h with ⟨hcs, _⟩ | ⟨y, l, k, zs, hcs, _, hl, hm, hz, _, hcell, hwz⟩
    · simp at hcs
      exact ⟨none, 0, 0, [], hcs, .inl ⟨rfl, rfl, rfl, rfl⟩⟩
    · simp at hcs
      exact ⟨some y, l, k, zs, hcs, .inr ⟨_, rfl, hl, hm, by simpa using hz, hcell, hwz⟩⟩
  obtain ⟨a, len, cap, zs, rfl, hr⟩ := key
  obtain ⟨s, rfl, hin⟩ := hr.inB
  exact ⟨a, cap, s, rfl, hin⟩
set_option maxRecDepth 100000 in
theorem bytes_in {A : Option Addr} {n k : Nat} (h : DataW.Trod enc Try.prog W b1 (fun _ => true) held 30 (.slice A n k) d p) : ∃ s : List UInt8, s.length = n ∧ InB W W.heap.size A k s := by
  obtain ⟨fuel, hf⟩ := h
  have hc : Try.prog.cellsOf 30 = 1 := by kernel_rfl
  obtain ⟨A', k', s, e, hin⟩ := one_bytes (c := .slice A n k) (l := []) (by rw [hc]; exact hf)
  injection e with e1 e2 e3
  subst e1 e2 e3
  exact ⟨s, rfl, hin⟩
set_option maxRecDepth 100000 in
theorem open_plan (hval : Value.okWide Try.prog W r b0 90 v) (h : DataW.Trod enc Try.prog W b1 spare held 90 v d p) : ∃ x0 x1 : Int, v = .agg #[.int .i64 x0, .int .i64 x1] := by
  obtain ⟨cs, rfl, hl, hi⟩ := open_struct Try.underlying90 hval h
  have h2 : Try.prog.cellsOf 90 = 2 := by kernel_rfl
  rw [h2] at hl
  match cs, hl with
  | [c0, c1], _ =>
    obtain ⟨_, _, e0⟩ := hi 0 _ rfl
    obtain ⟨_, _, e1⟩ := hi 1 _ rfl
    obtain ⟨x0, rfl, _⟩ := one_int Try.underlying3 (by kernel_rfl) e0
    obtain ⟨x1, rfl, _⟩ := one_int Try.underlying3 (by kernel_rfl) e1
    exact ⟨x0, x1, rfl⟩
set_option maxRecDepth 100000 in
theorem open_head (hval : Value.okWide Try.prog W r b0 109 v) (h : DataW.Trod enc Try.prog W b1 spare held 109 v d p) : ∃ s e : Nat, ∃ z c : Int, v = .agg #[.int .u64 s, .int .u64 e, .int .i64 z, .int .i64 c] ∧ s < 2 ^ 64 ∧ e < 2 ^ 64 := by
  obtain ⟨cs, rfl, hl, hi⟩ := open_struct Try.underlying109 hval h
  have h2 : Try.prog.cellsOf 109 = 4 := by kernel_rfl
  rw [h2] at hl
  match cs, hl with
  | [c0, c1, c2, c3], _ =>
    obtain ⟨_, _, e0⟩ := hi 0 _ rfl
    obtain ⟨_, _, e1⟩ := hi 1 _ rfl
    obtain ⟨_, _, e2⟩ := hi 2 _ rfl
    obtain ⟨_, _, e3⟩ := hi 3 _ rfl
    obtain ⟨x0, rfl, q0⟩ := one_int Try.underlying41 (by kernel_rfl) e0
    obtain ⟨x1, rfl, q1⟩ := one_int Try.underlying41 (by kernel_rfl) e1
    obtain ⟨x2, rfl, _⟩ := one_int Try.underlying3 (by kernel_rfl) e2
    obtain ⟨x3, rfl, _⟩ := one_int Try.underlying3 (by kernel_rfl) e3
    obtain ⟨m0, rfl, hm0⟩ := u64_wf q0
    obtain ⟨m1, rfl, hm1⟩ := u64_wf q1
    exact ⟨m0, m1, x2, x3, rfl, hm0, hm1⟩
set_option maxRecDepth 100000 in
theorem open_two (hval : Value.okWide Try.prog W r b0 132 v) (h : DataW.Trod enc Try.prog W b1 spare held 132 v d p) : ∃ x0 x1 : Int, v = .agg #[.int .i64 x0, .int .i64 x1] := by
  obtain ⟨cs, rfl, hl, hi⟩ := open_arr Try.underlying132 hval h
  have h2 : Try.prog.cellsOf 132 = 2 := by kernel_rfl
  have h1 : Try.prog.cellsOf 3 = 1 := by kernel_rfl
  rw [h2] at hl
  match cs, hl with
  | [c0, c1], _ =>
    obtain ⟨_, _, e0⟩ := hi 0 (by omega)
    obtain ⟨_, _, e1⟩ := hi 1 (by omega)
    rw [h1] at e0 e1
    obtain ⟨x0, g0, _⟩ := DataW.trod_int Try.underlying3 e0
    obtain ⟨x1, g1, _⟩ := DataW.trod_int Try.underlying3 e1
    simp at g0 g1
    subst g0 g1
    exact ⟨x0, x1, rfl⟩
theorem u32_wf {n : Int} (h : (Lit.int .u32 n).wf = true) : ∃ m : Nat, n = m ∧ m < 2 ^ 32 := by
  simp only [Lit.wf, Bool.and_eq_true, decide_eq_true_eq] at h
  have e1 : IntKind.u32.min = 0 := by decide
  have e2 : IntKind.u32.max = 4294967295 := by decide
  exact ⟨n.toNat, by omega, by omega⟩
set_option maxRecDepth 100000 in
theorem open_frame (hval : Value.okWide Try.prog W r b0 120 v) (h : DataW.Trod enc Try.prog W b1 (fun _ => true) held 120 v d p) : ∃ (e : Nat) (i q : Int) (f : Bool) (z : Int) (n : Nat) (A : Option Addr) (k : Nat) (y : List UInt8), v = .agg #[.int .u64 e, .int .i64 i, .int .i64 q, .bool f, .int .i64 z, .int .u32 n, .slice A y.length k] ∧ e < 2 ^ 64 ∧ n < 2 ^ 32 ∧ InB W W.heap.size A k y := by
  obtain ⟨cs, rfl, hl, hi⟩ := open_struct Try.underlying120 hval h
  have h2 : Try.prog.cellsOf 120 = 7 := by kernel_rfl
  rw [h2] at hl
  match cs, hl with
  | [c0, c1, c2, c3, c4, c5, c6], _ =>
    obtain ⟨_, _, e0⟩ := hi 0 _ rfl
    obtain ⟨_, _, e1⟩ := hi 1 _ rfl
    obtain ⟨_, _, e2⟩ := hi 2 _ rfl
    obtain ⟨_, _, e3⟩ := hi 3 _ rfl
    obtain ⟨_, _, e4⟩ := hi 4 _ rfl
    obtain ⟨_, _, e5⟩ := hi 5 _ rfl
    obtain ⟨_, _, e6⟩ := hi 6 _ rfl
    obtain ⟨x0, rfl, q0⟩ := one_int Try.underlying41 (by kernel_rfl) e0
    obtain ⟨x1, rfl, _⟩ := one_int Try.underlying3 (by kernel_rfl) e1
    obtain ⟨x2, rfl, _⟩ := one_int Try.underlying3 (by kernel_rfl) e2
    obtain ⟨x3, rfl⟩ := one_bool Try.underlying4 (by kernel_rfl) e3
    obtain ⟨x4, rfl, _⟩ := one_int Try.underlying3 (by kernel_rfl) e4
    obtain ⟨x5, rfl, q5⟩ := one_int Try.underlying45 (by kernel_rfl) e5
    obtain ⟨A, k, s, rfl, hin⟩ := one_bytes e6
    obtain ⟨m0, rfl, hm0⟩ := u64_wf q0
    obtain ⟨m5, rfl, hm5⟩ := u32_wf q5
    exact ⟨m0, x1, x2, x3, x4, m5, A, k, s, rfl, hm0, hm5, hin⟩
end
end Go.Proofs.Ytlelckdcmlpmdaa
/- octet.Number, louperef03.Number: they give the number's bytes. -/
namespace Go.Proofs.Ytlelckdcmlpmdaa
open Go Go.RowKit Lou

theorem numF_lt {f n : Nat} (hf : 1 ≤ f) (h : n < 128) : numF f n = [UInt8.ofNat n] := by
  cases f with
  | zero => omega
  | succ f => unfold numF; rw [if_pos h]

def NumAt (n0 n f : Nat) (pre : List UInt8) : Prop := pre ++ numF f n = num n0 ∧ n < 2 ^ (7 * f - 6) ∧ 1 ≤ f ∧ pre.length + f = 10

theorem NumAt.start {n0 : Nat} (h : n0 < 2 ^ 64) : NumAt n0 n0 10 [] := ⟨rfl, by simpa using h, by omega, by simp⟩
theorem NumAt.last {n0 n f : Nat} {pre : List UInt8} (h : NumAt n0 n f pre) (hlt : n < 128) : pre ++ [UInt8.ofNat n] = num n0 := by
  rw [← numF_lt h.2.2.1 hlt]; exact h.1
theorem NumAt.next {n0 n f : Nat} {pre : List UInt8} (h : NumAt n0 n f pre) (hge : 128 ≤ n) : NumAt n0 (n / 128) (f - 1) (pre ++ [UInt8.ofNat (n % 128 + 128)]) := by
  obtain ⟨h1, h2, h3, h4⟩ := h
  cases f with
  | zero => omega
  | succ f =>
    have hf : 1 ≤ f := by
      rcases Nat.eq_zero_or_pos f with h0 | h0
      · subst h0; simp at h2; omega
      · exact h0
    refine ⟨?_, ?_, by simpa using hf, by simp; omega⟩
    · rw [← h1]
      conv => rhs; unfold numF
      rw [if_neg (by omega)]
      simp
    · rw [Nat.div_lt_iff_lt_mul (by omega)]
      have : 2 ^ (7 * f - 6) * 128 = 2 ^ (7 * (f + 1) - 6) := by
        rw [show 7 * (f + 1) - 6 = (7 * f - 6) + 7 from by omega, Nat.pow_add]
      simp only [Nat.add_sub_cancel]
      omega

theorem NumAt.lt {n0 n f : Nat} {pre : List UInt8} (h : NumAt n0 n f pre) : n < 18446744073709551616 := by
  have h1 : 2 ^ (7 * f - 6) ≤ 2 ^ 64 := Nat.pow_le_pow_right (by omega) (by have := h.2.2.2; omega)
  have := h.2.1
  omega

theorem map_snoc_b8 (l : List UInt8) (n : Nat) (h : n < 256) : l.map b8 ++ [.int .u8 (n : Int)] = (l ++ [UInt8.ofNat n]).map b8 := by
  simp [b8]; omega

set_option maxRecDepth 100000 in
set_option maxHeartbeats 1000000 in
theorem number_gives (n0 : Nat) (hn : n0 < 2^64) (w : World) : Calls Try.prog 28 #[.int .u64 n0] w (GivesB w (num n0)) := by
  obtain ⟨i0, hi, hz0, hz1, hz2⟩ := info_parts inf_u8
  have hs := Lib.hid (NumAt.start hn)
  clear hn
  go_enter Try.func28, Try.ntmps28
  go_wp2_with fail
  go_loopw [0, 2] (fun a v wr => ∃ (n f : Nat) (pre : List UInt8), Hid (NumAt n0 n f pre) ∧ pre.length ≤ 10 ∧ a = .int .u64 n ∧ OwnB wr w.heap.size v pre ∧ Below w.heap.size w wr)
    (fun a _ _ => (intOf a).toNat)
  case atStart => exact ⟨n0, 10, [], hs, by simp, rfl, OwnB.nil _ _, Below.refl _ _⟩
  case round =>
    obtain ⟨n, f, pre, hN, hl, rfl, hown, hB⟩ := hrel
    have hBs := hB.size
    have hor := u8_or128 n
    by_cases hlt : n < 128
    · go_wp2_with (at_builtin; refine wpList_append_own _ rfl _ _ 30 rfl w.heap.size 5 i0 (.int .u8 0) 1 1 Try.underlying30 hi hz0 hz1 hz2 rfl (by decide) _ _ _ rfl (World.ownsRow.alloc hown _) ⟨wr.heap.size, 0, none⟩ 1 1 _ rfl rfl (cell_one_new _ _ _) (by simp [Value.oneCell']) (by unfold maxLen; omega) (by omega) (by simp; omega) ?_; intro v' w1 hown' hgrow _)
      go_ret
      have e1 := hN.out.last hlt
      refine ⟨v', rfl, ?_, (hB.alloc hBs _).grown hgrow (by simp; omega) (fun k hk => (World.ownsRow.lt hown k hk).1)⟩
      rw [map_snoc_b8 pre n (by omega), e1] at hown'
      unfold OwnB
      rw [show (num n0).length = pre.length + 1 from by rw [← e1]; simp]
      exact hown'
    · go_wp2_with (at_builtin; refine wpList_append_own _ rfl _ _ 30 rfl w.heap.size 5 i0 (.int .u8 0) 1 1 Try.underlying30 hi hz0 hz1 hz2 rfl (by decide) _ _ _ rfl (World.ownsRow.alloc hown _) ⟨wr.heap.size, 0, none⟩ 1 1 _ rfl rfl (cell_one_new _ _ _) (by simp [Value.oneCell']) (by unfold maxLen; omega) (by omega) (by simp; omega) ?_; intro v' w1 hown' hgrow _)
      have hNx := hN.out.next (by omega)
      refine ⟨⟨n / 128, f - 1, pre ++ [UInt8.ofNat (n % 128 + 128)], Lib.hid hNx, ?_, by go_num, ?_, ?_⟩, by simp [intOf]; omega⟩
      · have := hNx.2.2.2; omega
      · rw [show ((n : Int) % 128 + 128) = ((n % 128 + 128 : Nat) : Int) from by omega, map_snoc_b8 pre _ (by omega)] at hown'
        unfold OwnB
        simpa using hown'
      · exact (hB.alloc hBs _).grown hgrow (by simp; omega) (fun k hk => (World.ownsRow.lt hown k hk).1)
end Go.Proofs.Ytlelckdcmlpmdaa
/- What sync.Once leans on, each a contract of its own (turned from the guide's worked text on a lazy value). -/
namespace Go.Proofs.Ytlelckdcmlpmdaa
open Go Go.RowKit Lou

theorem disable (w : World) : (callFunc 237 #[]).run Try.prog w = .ok (.value (.tuple #[])) w := run_call_mark0 Try.func237 (by kernel_rfl) (by kernel_rfl) (by kernel_rfl) .disable (by kernel_rfl) w
theorem enable (w : World) : (callFunc 239 #[]).run Try.prog w = .ok (.value (.tuple #[])) w := run_call_mark0 Try.func239 (by kernel_rfl) (by kernel_rfl) (by kernel_rfl) .enable (by kernel_rfl) w
theorem acquire (a : Addr) (w : World) : (callFunc 240 #[.pointer (some a)]).run Try.prog w = .ok (.value (.tuple #[])) w := run_call_marked Try.func240 (by kernel_rfl) (by kernel_rfl) (by kernel_rfl) .acquire (by kernel_rfl) a w
theorem releaseMerge (a : Addr) (w : World) : (callFunc 242 #[.pointer (some a)]).run Try.prog w = .ok (.value (.tuple #[])) w := run_call_marked Try.func242 (by kernel_rfl) (by kernel_rfl) (by kernel_rfl) .releaseMerge (by kernel_rfl) a w

/-- '(*sync/atomic.Bool).Store(true)', entered as a deferred call: the cell holds 1. -/
theorem store_deferred (a : Addr) (x : Value) (u : FrameMode) (w : World) (hc : w.cell? a = some x) (hz : w.frozen? a = false) :
    CallsD Try.prog 213 #[.pointer (some a), .bool true] u w fun e u' w' => u' = u ∧ (e = .returned (.tuple #[]) ∧ w' = w.drew.setCell a (.int .u32 1)) := by
  have hc' : w.drew.cell? a = some x := by go_simp
  have hz' : w.drew.frozen? a = false := by go_simp
  have hst := run_call_store (P := Try.prog) Try.func229 (by kernel_rfl) (by kernel_rfl) (by kernel_rfl) (by kernel_rfl) (k := .u32) (y := 1) hc' hz'
  go_enter_d Try.func213, Try.ntmps213
  go_wp2
  go_region_calls
  all_goals (go_end0; exact ⟨rfl, rfl⟩)

set_option maxRecDepth 100000 in
/-- '(*sync.Mutex).Unlock', entered as a deferred call, the lock held and nobody waiting (state 1): state 0. -/
theorem unlock_deferred (a : Addr) (u : FrameMode) (w : World) (hc : w.cell? a = some (.int .i32 1)) (hz : w.frozen? a = false) :
    CallsD Try.prog 212 #[.pointer (some a)] u w fun e u' w' => u' = u ∧ (e = .returned (.tuple #[]) ∧ w' = w.setCell a (.int .i32 0)) := by
  have hd := disable
  have he := enable
  have hr := releaseMerge
  have hadd := run_call_add (P := Try.prog) Try.func243 (by kernel_rfl) (by kernel_rfl) (by kernel_rfl) .i32 (by kernel_rfl) (y := -1) (s := 0) hc hz (by simp [go_sem]; rfl)
  have hcv := run_convert_to_unsafe (P := Try.prog) (src := 328) (dst := 332) Try.underlying328 Try.underlying332 (by kernel_rfl) hc
  go_enter_d Try.func212, Try.ntmps212
  go_wp2
  go_end0
  go_wp2
  go_end0
  exact ⟨rfl, rfl⟩

set_option maxRecDepth 100000 in
/-- '(*sync.Mutex).Lock', the lock free (state 0): state 1. -/
theorem lock_free (a : Addr) (w : World) (hc : w.cell? a = some (.int .i32 0)) (hz : w.frozen? a = false) :
    Calls Try.prog 211 #[.pointer (some a)] w fun e w' => e = .returned (.tuple #[]) ∧ w' = w.setCell a (.int .i32 1) := by
  have hd := disable
  have he := enable
  have ha := acquire
  have hcas := run_call_cas_hit (P := Try.prog) Try.func238 (by kernel_rfl) (by kernel_rfl) (by kernel_rfl) .i32 (by kernel_rfl) (y := 1) hc hz
  have hc' : (w.setCell a (.int .i32 1)).cell? a = some (.int .i32 1) := World.cell?_setCell_same w a _ hc
  have hcv := run_convert_to_unsafe (P := Try.prog) (src := 328) (dst := 332) Try.underlying328 Try.underlying332 (by kernel_rfl) hc'
  go_enter Try.func211, Try.ntmps211
  go_wp2
  first | go_end0 | (simp only [Exit.inBlock, Exit.then]; refine bodyPost_ret (results_none rfl _ _ _) rfl ?_) | refine bodyPost_ret (results_none rfl _ _ _) rfl ?_
  go_wp2
  go_end0
  exact ⟨rfl, rfl⟩

/-- '(*sync/atomic.Bool).Load'. -/
theorem bool_load (a : Addr) (d : Nat) (w : World) (hc : w.cell? a = some (.int .u32 d)) :
    Calls Try.prog 189 #[.pointer (some a)] w fun e w' => e = .returned (.bool ((d : Int) != 0)) ∧ w = w' := by
  have hl := run_call_load (P := Try.prog) Try.func210 (by kernel_rfl) (by kernel_rfl) (by kernel_rfl) .u32 (by kernel_rfl) hc
  go_enter Try.func189, Try.ntmps189
  go_wp2
  go_ret
  exact ⟨rfl, rfl⟩

/-- '(*sync/atomic.Int64).Add(1)'. -/
theorem int64_add (b o k : Nat) (hk : k ≤ 1000000) (w : World) (hc : w.cell? ⟨b, o, none⟩ = some (.int .i64 k)) (hz : w.frozen? ⟨b, o, none⟩ = false) :
    Calls Try.prog 191 #[.pointer (some ⟨b, o, none⟩), .int .i64 1] w fun e w' => e = .returned (.int .i64 ((k : Int) + 1)) ∧ w.setCell ⟨b, o, none⟩ (.int .i64 ((k : Int) + 1)) = w' := by
  have hadd := run_call_add (P := Try.prog) Try.func214 (by kernel_rfl) (by kernel_rfl) (by kernel_rfl) .i64 (by kernel_rfl) (y := 1) (s := (k : Int) + 1) hc hz (by
    have := IntWalk.i64_in ((k : Int) + 1) (by omega)
    simp [go_sem, this])
  go_enter Try.func191, Try.ntmps191
  go_wp2
  go_ret
  exact ⟨rfl, rfl⟩
end Go.Proofs.Ytlelckdcmlpmdaa
/- louperef03.Sum: the sum of bytes. -/
namespace Go.Proofs.Ytlelckdcmlpmdaa
open Go Go.RowKit Lou

theorem sh_odd {y : Nat} (h : y % 2 = 1) : sh y = (y / 2) ^^^ poly := by unfold sh; rw [if_pos h]
theorem sh_even {y : Nat} (h : ¬ y % 2 = 1) : sh y = y / 2 := by unfold sh; rw [if_neg h]
theorem xor_u32 {x y : Nat} (hx : x < 4294967296) (hy : y < 4294967296) : bits .xor .u32 (x : Int) (y : Int) = ((x ^^^ y : Nat) : Int) := u32_xor_nat x y hx hy
theorem xor_poly {y : Nat} (hy : y < 4294967296) : bits .xor .u32 ((y : Int) / 2) 3988292384 = ((y / 2 ^^^ poly : Nat) : Int) := u32_xor_nat (y / 2) 3988292384 (by omega) (by omega)
theorem xor_inv {x : Nat} (hx : x < 4294967296) : bits .xor .u32 IntKind.u32.max (x : Int) = ((x ^^^ 4294967295 : Nat) : Int) := by
  have e : IntKind.u32.max = ((4294967295 : Nat) : Int) := rfl
  rw [e, u32_xor_nat _ _ (by omega) hx, Nat.xor_comm]

set_option maxRecDepth 100000 in
set_option maxHeartbeats 1000000 in
theorem refSum_gives (w : World) (B : Nat) (A : Option Addr) (c : Nat) (l : List UInt8) (h : InB w B A c l) : Calls Try.prog 37 #[.slice A l.length c] w fun e w' => e = .returned (.int .u32 (sumL l : Int)) ∧ w = w' := by
  have hle := h.le
  have hmax := h.max
  go_enter Try.func37, Try.ntmps37
  go_wp2_with fail
  go_loop [3, 4] (fun s i => ∃ k x : Nat, k ≤ l.length ∧ i = .int .i64 k ∧ x < 4294967296 ∧ s = .int .u32 x ∧ Hid (x = sumS 4294967295 (l.take k))) (fun _ i => l.length - (intOf i).toNat)
  case atStart => exact ⟨0, 4294967295, by omega, rfl, by omega, rfl, Lib.hid rfl⟩
  case round =>
    obtain ⟨k, x, hk, rfl, hx, rfl, hX⟩ := hrel
    by_cases hlt : k < l.length
    · obtain ⟨g, o, rfl, _, hc⟩ := h.lies (by omega)
      have hck := hc k hlt
      clear hc
      have hbd := (l[k]).toNat_lt
      have hxor := xor_u32 hx (show l[k].toNat < 4294967296 from by omega)
      have hy := xor_lt32 hx (show l[k].toNat < 4294967296 from by omega)
      have hst : stepC x l[k] = shN 8 (x ^^^ l[k].toNat) := rfl
      have hS := Lib.hid hst
      clear hst
      go_wp2_with fail
      go_loop [3, 5] (fun s i => ∃ j y : Nat, j ≤ 8 ∧ i = .int .i64 j ∧ y < 4294967296 ∧ s = .int .u32 y ∧ Hid (shN (8 - j) y = stepC x l[k])) (fun _ i => 8 - (intOf i).toNat)
      case atStart => exact ⟨0, _, by omega, rfl, hy, rfl, Lib.hid rfl⟩
      case round =>
        obtain ⟨j, y, hj, rfl, hyl, rfl, hY⟩ := hrel
        clear hy hxor
        by_cases hj8 : j < 8
        · have hn : Hid (shN (8 - (j + 1)) (sh y) = stepC x l[k]) := by
            have := hY.out
            rw [show 8 - j = (8 - (j + 1)) + 1 from by omega] at this
            exact Lib.hid this
          have hlt2 := sh_lt hyl
          clear hY
          by_cases hod : y % 2 = 1
          · have hs : Hid (sh y = (y / 2) ^^^ poly) := Lib.hid (sh_odd hod)
            have hb : (((y : Int) % 2) == 1) = true := by rw [beq_iff_eq]; omega
            have hx2 := xor_poly hyl
            clear hod
            go_wp2_with fail
            refine ⟨⟨j + 1, sh y, by omega, by go_num, hlt2, by rw [hs.out], hn⟩, by simp [intOf]; omega⟩
          · have hs : Hid (sh y = y / 2) := Lib.hid (sh_even hod)
            have hb : (((y : Int) % 2) == 1) = false := by rw [beq_eq_false_iff_ne]; omega
            clear hod
            go_wp2_with fail
            refine ⟨⟨j + 1, sh y, by omega, by go_num, hlt2, by rw [hs.out]; go_num, hn⟩, by simp [intOf]; omega⟩
        · have hn : Hid (y = stepC x l[k]) := by
            have := hY.out
            rw [show 8 - j = 0 from by omega] at this
            exact Lib.hid this
          clear hY
          go_wp2_with fail
          refine ⟨⟨k + 1, y, by omega, by go_num, hyl, rfl, ?_⟩, by simp [intOf]; omega⟩
          have : y = sumS 4294967295 (l.take (k + 1)) := by
            rw [hn.out, hX.out, List.take_succ_eq_append_getElem hlt, sumS_append]
            rfl
          exact Lib.hid this
    · have hinv := xor_inv hx
      go_wp2_with fail
      go_ret
      have : x ^^^ 4294967295 = sumL l := by
        rw [hX.out, List.take_of_length_le (by omega)]
        rfl
      exact ⟨by rw [← this]; rfl, rfl⟩
end Go.Proofs.Ytlelckdcmlpmdaa
/- (*octet.table).make, step: the sum's table, made once. -/
namespace Go.Proofs.Ytlelckdcmlpmdaa
open Go Go.RowKit Lou

/-- k entries of the table are told. -/
structure TabTo (cs0 : Array Value) (k : Nat) (cs : Array Value) : Prop where
  size : cs.size = 260
  c0 : cs[0]? = cs0[0]?
  c1 : cs[1]? = cs0[1]?
  c2 : cs[2]? = cs0[2]?
  many : cs[3]? = some (.int .i64 (k : Int))
  to : ∀ j, j < k → cs[4 + j]? = some (.int .u32 (shN 8 j : Int))

theorem TabTo.next {cs0 cs : Array Value} {k : Nat} (h : TabTo cs0 k cs) (hk : k < 256) :
    TabTo cs0 (k + 1) ((cs.setIfInBounds (4 + k) (.int .u32 (shN 8 k : Int))).setIfInBounds 3 (.int .i64 ((k : Int) + 1))) := by
  have hs := h.size
  refine ⟨by simp [hs], ?_, ?_, ?_, ?_, ?_⟩
  · rw [Array.getElem?_setIfInBounds, if_neg (by omega), Array.getElem?_setIfInBounds, if_neg (by omega)]; exact h.c0
  · rw [Array.getElem?_setIfInBounds, if_neg (by omega), Array.getElem?_setIfInBounds, if_neg (by omega)]; exact h.c1
  · rw [Array.getElem?_setIfInBounds, if_neg (by omega), Array.getElem?_setIfInBounds, if_neg (by omega)]; exact h.c2
  · simp [Array.getElem?_setIfInBounds, hs]
  · intro j hj
    rw [Array.getElem?_setIfInBounds, if_neg (by omega), Array.getElem?_setIfInBounds]
    by_cases e : j = k
    · subst e; rw [if_pos rfl, if_pos (by omega)]
    · rw [if_neg (by omega)]; exact h.to j (by omega)

theorem and_one {y : Nat} (hy : y < 4294967296) : bits .and .u32 (y : Int) 1 = ((y % 2 : Nat) : Int) := by
  have := u32_and_nat y 1 hy (by omega)
  rw [Nat.and_one_is_mod] at this
  exact this

set_option maxRecDepth 100000 in
set_option maxHeartbeats 2000000 in
theorem make_gives (b : Nat) (cs0 : Array Value) (w : World) (hb : BlkIs w b 186 cs0) (h0 : TabTo cs0 0 cs0) :
    Calls Try.prog 165 #[.pointer (some ⟨b, 0, none⟩)] w fun e w' => e = .returned (.tuple #[]) ∧ (∃ cs, BlkIs w' b 186 cs ∧ TabTo cs0 256 cs) ∧ w.grownBy w' (some b) := by
  go_enter Try.func165, Try.ntmps165
  go_wp2_with fail
  go_loopw [5] (fun i wr => ∃ (k : Nat) (cs : Array Value), k ≤ 256 ∧ i = .int .i64 k ∧ Hid (BlkIs wr b 186 cs ∧ TabTo cs0 k cs) ∧ w.grownBy wr (some b)) (fun i _ => 256 - (intOf i).toNat)
  case atStart => exact ⟨0, cs0, by omega, rfl, Lib.hid ⟨hb, h0⟩, World.grownBy.refl _ _⟩
  case round =>
    obtain ⟨k, cs, hk, rfl, hT, hg⟩ := hrel
    by_cases hlt : k < 256
    · have hsz := hT.out.2.size
      have hgetold : ∃ u, cs[4 + k]? = some u := ⟨cs[4 + k]'(by omega), Array.getElem?_eq_getElem (by omega)⟩
      obtain ⟨u, hu⟩ := hgetold
      have hc4 : wr.cell? ⟨b, 4 + k, none⟩ = some u := (hT.out.1.cell _).trans hu
      have hf4 : wr.frozen? ⟨b, 4 + k, none⟩ = false := hT.out.1.free _
      clear hsz hu
      go_wp2_with fail
      go_loop [3, 10] (fun s i => ∃ j y : Nat, j ≤ 8 ∧ i = .int .i64 j ∧ y < 4294967296 ∧ s = .int .u32 y ∧ Hid (shN (8 - j) y = shN 8 k)) (fun _ i => 8 - (intOf i).toNat)
      case atStart => exact ⟨0, k, by omega, rfl, by omega, rfl, Lib.hid rfl⟩
      case round =>
        obtain ⟨j, y, hj, rfl, hyl, rfl, hY⟩ := hrel
        by_cases hj8 : j < 8
        · have hn : Hid (shN (8 - (j + 1)) (sh y) = shN 8 k) := by
            have := hY.out
            rw [show 8 - j = (8 - (j + 1)) + 1 from by omega] at this
            exact Lib.hid this
          have hlt2 := sh_lt hyl
          have hand := and_one hyl
          clear hY
          by_cases hod : y % 2 = 1
          · have hs : Hid (sh y = (y / 2) ^^^ poly) := Lib.hid (sh_odd hod)
            have hb1 : ((((y % 2 : Nat) : Int)) == 1) = true := by rw [beq_iff_eq]; omega
            have hx2 := xor_poly hyl
            clear hod
            go_wp2_with fail
            exact ⟨⟨j + 1, sh y, by omega, by go_num, hlt2, by rw [hs.out], hn⟩, by simp [intOf]; omega⟩
          · have hs : Hid (sh y = y / 2) := Lib.hid (sh_even hod)
            have hb1 : ((((y % 2 : Nat) : Int)) == 1) = false := by rw [beq_eq_false_iff_ne]; omega
            clear hod
            go_wp2_with fail
            exact ⟨⟨j + 1, sh y, by omega, by go_num, hlt2, by rw [hs.out]; go_num, hn⟩, by simp [intOf]; omega⟩
        · have hn : Hid (y = shN 8 k) := by
            have := hY.out
            rw [show 8 - j = 0 from by omega] at this
            exact Lib.hid this
          clear hY
          have hb4 := hT.out.1.set (4 + k) (.int .u32 (y : Int))
          have hc3 : (wr.setCell ⟨b, 4 + k, none⟩ (.int .u32 (y : Int))).cell? ⟨b, 3, none⟩ = some (.int .i64 (k : Int)) := by
            rw [hb4.cell, Array.getElem?_setIfInBounds, if_neg (by omega)]
            exact hT.out.2.many
          have hf3 := hb4.free 3
          go_wp2_with (go_at_call 191; refine (int64_add b 3 k (by omega) _ hc3 hf3).mono ?_; rintro e w' ⟨rfl, rfl⟩)
          refine ⟨⟨k + 1, _, by omega, by go_num, Lib.hid ⟨hb4.set 3 _, ?_⟩, grownBy_trans hg (grownBy_trans (grownBy_set _ _ _ _) (grownBy_set _ _ _ _))⟩, by simp [intOf]; omega⟩
          rw [hn.out]
          exact hT.out.2.next hlt
    · obtain rfl : k = 256 := by omega
      go_wp2_with fail
      go_end0
      exact ⟨rfl, ⟨cs, hT.out⟩, hg⟩

/-- The Once, its lock free; done: 0 or 1. Where it's done the table is told. -/
structure TabOk (d : Nat) (cs : Array Value) : Prop where
  size : cs.size = 260
  c0 : cs[0]? = some (.int .u32 (d : Int))
  c1 : cs[1]? = some (.int .i32 0)
  dd : d = 0 ∨ d = 1
  many : d = 0 → cs[3]? = some (.int .i64 0)
  to : d = 1 → ∀ j, j < 256 → cs[4 + j]? = some (.int .u32 (shN 8 j : Int))

set_option maxRecDepth 100000 in
set_option maxHeartbeats 2000000 in
theorem doSlow_gives (b : Nat) (cs0 : Array Value) (w : World) (hb : BlkIs w b 186 cs0) (h0 : TabOk 0 cs0) :
    Calls Try.prog 190 #[.pointer (some ⟨b, 0, none⟩), .func (.func 165) #[.pointer (some ⟨b, 0, none⟩)] #[]] w fun e w' =>
      e = .returned (.tuple #[]) ∧ (∃ cs, BlkIs w' b 186 cs ∧ TabOk 1 cs) ∧ w.grownBy w' (some b) := by
  have hc1 : w.cell? ⟨b, 1, none⟩ = some (.int .i32 0) := (hb.cell 1).trans h0.c1
  have hf1 := hb.free 1
  have hb1 := hb.set 1 (.int .i32 1)
  have hc0 : (w.setCell ⟨b, 1, none⟩ (.int .i32 1)).cell? ⟨b, 0, none⟩ = some (.int .u32 ((0 : Nat) : Int)) := by
    rw [hb1.cell, Array.getElem?_setIfInBounds, if_neg (by omega)]
    exact h0.c0
  have hsz := h0.size
  have ht0 : TabTo (cs0.setIfInBounds 1 (.int .i32 1)) 0 (cs0.setIfInBounds 1 (.int .i32 1)) := ⟨by simp [hsz], rfl, rfl, rfl, by
    rw [Array.getElem?_setIfInBounds, if_neg (by omega)]
    exact h0.many rfl, fun j hj => by omega⟩
  have hM := make_gives b _ _ hb1 ht0
  have hbd : (((0 : Nat) : Int) != 0) = false := by decide
  clear ht0 hb1
  go_enter_defers Try.func190, Try.ntmps190
  go_wp2_with (first
    | (go_at_call 211; refine (lock_free ⟨b, 1, none⟩ _ hc1 hf1).mono ?_; rintro e w' ⟨rfl, rfl⟩)
    | (go_at_call 189; refine (bool_load ⟨b, 0, none⟩ 0 _ hc0).mono ?_; rintro e w' ⟨rfl, rfl⟩)
    | (go_at_call 165; refine hM.mono ?_; rintro e w1 ⟨rfl, ⟨cs1, hb1, ht1⟩, hg1⟩))
  have hs1 := ht1.size
  have e0 : cs1[0]? = some (.int .u32 ((0 : Nat) : Int)) := by rw [ht1.c0, Array.getElem?_setIfInBounds, if_neg (by omega)]; exact h0.c0
  have e1 : cs1[1]? = some (.int .i32 1) := by rw [ht1.c1, Array.getElem?_setIfInBounds, if_pos rfl, if_pos (by omega)]
  have hb2 := hb1.drew.set 0 (.int .u32 1)
  have hb3 := hb2.set 1 (.int .i32 0)
  refine leaves_cons (f := 213) (args := #[.pointer (some ⟨b, 0, none⟩), .bool true]) (by simp) (by simp [go_sem]) ?_
  refine (store_deferred ⟨b, 0, none⟩ (.int .u32 0) .returning _ ((hb1.cell 0).trans e0) (hb1.free 0)).mono ?_
  rintro e u' w'' ⟨rfl, rfl, rfl⟩
  refine leaves_cons (f := 212) (args := #[.pointer (some ⟨b, 1, none⟩)]) (by simp [settle]) (by simp [go_sem]) ?_
  refine (unlock_deferred ⟨b, 1, none⟩ _ _ (by rw [hb2.cell, Array.getElem?_setIfInBounds, if_neg (by omega)]; exact e1) (hb2.free 1)).mono ?_
  rintro e u' w'' ⟨rfl, rfl, rfl⟩
  have hfin : (∃ cs, BlkIs ((w1.drew.setCell ⟨b, 0, none⟩ (.int .u32 1)).setCell ⟨b, 1, none⟩ (.int .i32 0)) b 186 cs ∧ TabOk 1 cs) ∧ w.grownBy ((w1.drew.setCell ⟨b, 0, none⟩ (.int .u32 1)).setCell ⟨b, 1, none⟩ (.int .i32 0)) (some b) := by
    refine ⟨⟨_, hb3, ⟨by simp [hs1], ?_, ?_, .inr rfl, fun h => by omega, fun _ j hj => ?_⟩⟩, ?_⟩
    · rw [Array.getElem?_setIfInBounds, if_neg (by omega), Array.getElem?_setIfInBounds, if_pos rfl, if_pos (by omega)]; rfl
    · rw [Array.getElem?_setIfInBounds, if_pos rfl, if_pos (by simp; omega)]
    · rw [Array.getElem?_setIfInBounds, if_neg (by omega), Array.getElem?_setIfInBounds, if_neg (by omega)]; exact ht1.to j hj
    · exact grownBy_trans (grownBy_set _ _ _ _) (grownBy_trans hg1 (grownBy_trans (grownBy_drew _ _) (grownBy_trans (grownBy_set _ _ _ _) (grownBy_set _ _ _ _))))
  have hH := Lib.hid hfin
  clear hfin
  simp [Leaves, settle, results, Try.results190]
  exact hH.out

set_option maxRecDepth 100000 in
set_option maxHeartbeats 1000000 in
theorem once_gives (b d : Nat) (cs0 : Array Value) (w : World) (hb : BlkIs w b 186 cs0) (h0 : TabOk d cs0) :
    Calls Try.prog 164 #[.pointer (some ⟨b, 0, none⟩), .func (.func 165) #[.pointer (some ⟨b, 0, none⟩)] #[]] w fun e w' =>
      e = .returned (.tuple #[]) ∧ (∃ cs, BlkIs w' b 186 cs ∧ TabOk 1 cs) ∧ w.grownBy w' (some b) := by
  have hc0 : w.cell? ⟨b, 0, none⟩ = some (.int .u32 (d : Int)) := (hb.cell 0).trans h0.c0
  rcases h0.dd with rfl | rfl
  · have hM := doSlow_gives b _ _ hb h0
    have hbd : (((0 : Nat) : Int) != 0) = false := by decide
    go_enter Try.func164, Try.ntmps164
    go_wp2_with (first
      | (go_at_call 189; refine (bool_load ⟨b, 0, none⟩ 0 _ hc0).mono ?_; rintro e w' ⟨rfl, rfl⟩)
      | (go_at_call 190; refine hM.mono ?_; rintro e w1 ⟨rfl, hT, hg1⟩))
    go_end0
    exact ⟨rfl, hT, hg1⟩
  · have hbd : (((1 : Nat) : Int) != 0) = true := by decide
    go_enter Try.func164, Try.ntmps164
    go_wp2_with (go_at_call 189; refine (bool_load ⟨b, 0, none⟩ 1 _ hc0).mono ?_; rintro e w' ⟨rfl, rfl⟩)
    go_end0
    exact ⟨rfl, ⟨cs0, hb, h0⟩, World.grownBy.refl _ _⟩

set_option maxRecDepth 100000 in
set_option maxHeartbeats 1000000 in
theorem step_gives (b d : Nat) (cs0 : Array Value) (s : Nat) (c : UInt8) (hs : s < 4294967296) (w : World) (hb : BlkIs w b 186 cs0) (h0 : TabOk d cs0) :
    Calls Try.prog 100 #[.pointer (some ⟨b, 0, none⟩), .int .u32 s, .int .u8 (c.toNat : Int)] w fun e w' =>
      e = .returned (.int .u32 (stepC s c : Int)) ∧ (∃ cs, BlkIs w' b 186 cs ∧ TabOk 1 cs) ∧ w.grownBy w' (some b) := by
  have hO := once_gives b d cs0 w hb h0
  have hmf : ∀ (fn : Fn) (first cap : Array Value) (w : World), (Instr.makeFunc fn first cap).run Try.prog w = .ok (.func fn first cap) w := fun _ _ _ _ => rfl
  have hcl := c.toNat_lt
  have hxl : (s % 256) ^^^ c.toNat < 256 := by
    have := Nat.xor_lt_two_pow (n := 8) (show s % 256 < 2 ^ 8 from by omega) (show c.toNat < 2 ^ 8 from by omega)
    simpa using this
  have hx8 : bits .xor .u8 ((s : Int) % 256) (c.toNat : Int) = (((s % 256) ^^^ c.toNat : Nat) : Int) := by
    have := u8_xor_nat (s % 256) c.toNat (by omega) (by omega)
    rw [← this]
    congr 1
  have hst := stepC_table s c
  generalize hx : (s % 256) ^^^ c.toNat = x at *
  have hX := Lib.hid hx
  clear hx
  have hx32 : bits .xor .u32 ((s : Int) / 256) (shN 8 x : Int) = (stepC s c : Int) := by
    have := u32_xor_nat (s / 256) (shN 8 x) (by omega) (shN_lt 8 (by omega))
    rw [hst, ← this]
    congr 1
  clear hst
  go_enter Try.func100, Try.ntmps100
  go_wp2_with (go_at_call 164; refine hO.mono ?_; clear hO; rintro e w1 ⟨rfl, ⟨cs1, hb1, h1⟩, hg1⟩; have hcx := (hb1.cell (4 + x)).trans (h1.to rfl x hxl))
  go_ret
  exact ⟨rfl, ⟨cs1, hb1, h1⟩, hg1⟩
end Go.Proofs.Ytlelckdcmlpmdaa
/- What ranges over functions lean on in this seat: growth that turns no cells; what has come of a list. -/
namespace Go.Proofs.Ytlelckdcmlpmdaa
open Go Go.RowKit Lou

/-- A block of cells is kept where one block that holds none is turned. -/
theorem BlkIs.kept {W W' : World} {row : Option Nat} {g : Nat} {t : TypeId} {cs : Array Value} (h : BlkIs W g t cs) (hg : W.grownBy W' row) (hr : ∀ r, row = some r → ∃ o : Obj, W.heap[r]? = some o ∧ o.isCells = false) : BlkIs W' g t cs :=
  h.grown hg (fun e => by
    obtain ⟨o, ho, hc⟩ := hr g e.symm
    rw [h] at ho
    injection ho with ho
    subst ho
    cases hc)
theorem BlkIs.own (g : Nat) (t : TypeId) {β : Type} (cs : β → Array Value) : Own (fun (s : β) W => BlkIs W g t (cs s)) := fun _ _ _ _ hs hg hr => hs.kept hg hr
theorem BlkIs.boxed {W : World} {g : Nat} {t : TypeId} {v : Value} (h : BlkIs W g t #[v]) : W.cell? ⟨g, 0, none⟩ = some v := by rw [h.cell]; rfl
theorem BlkIs.others {W W' : World} {b : Nat} {t : TypeId} {cs : Array Value} (h : BlkIs W b t cs) (hg : W.grownBy W' (some b)) : KeepsOthers W W' :=
  KeepsOthers.of_grownBy hg (fun j o e ho => by
    injection e with e
    subst e
    rw [h] at ho
    injection ho with ho
    subst ho
    rfl)
end Go.Proofs.Ytlelckdcmlpmdaa
