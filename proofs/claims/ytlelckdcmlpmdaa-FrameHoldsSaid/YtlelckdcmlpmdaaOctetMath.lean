/- The plain mathematics of layer 3: numbers' bytes and their reading, fixed bytes, the sum of bytes. No program in sight. -/
namespace Lou

/-! ### Numbers' bytes -/
def numF : Nat → Nat → List UInt8
  | 0, _ => []
  | f + 1, n => if n < 128 then [UInt8.ofNat n] else UInt8.ofNat (n % 128 + 128) :: numF f (n / 128)
def num (n : Nat) : List UInt8 := numF 10 n

def rdF : Nat → Nat → Nat → List UInt8 → Option (Nat × Nat)
  | 0, _, _, _ => none
  | _ + 1, _, _, [] => none
  | f + 1, i, acc, c :: r =>
    if i = 9 ∧ 1 < c.toNat then none
    else if 128 ≤ c.toNat then rdF f (i + 1) (acc + c.toNat % 128 * 128 ^ i) r
    else if c.toNat = 0 ∧ 0 < i then none
    else some (acc + c.toNat % 128 * 128 ^ i, i + 1)
def rd (l : List UInt8) : Option (Nat × Nat) := rdF 10 0 0 l

theorem toNat_ofNat_lt {n : Nat} (h : n < 256) : (UInt8.ofNat n).toNat = n := by
  simp [UInt8.toNat_ofNat']; omega

theorem numF_length (f n : Nat) : (numF f n).length ≤ f := by
  induction f generalizing n with
  | zero => simp [numF]
  | succ f ih => unfold numF; split <;> simp; exact ih _

theorem numF_pos (f n : Nat) (hf : 0 < f) : 0 < (numF f n).length := by
  cases f with
  | zero => omega
  | succ f => unfold numF; split <;> simp

theorem num_length (n : Nat) : (num n).length ≤ 10 := numF_length 10 n
theorem num_pos (n : Nat) : 0 < (num n).length := numF_pos 10 n (by omega)

theorem rdF_numF (f : Nat) (n i acc : Nat) (r : List UInt8) (hf : f + i = 10) (h1 : 1 ≤ f) (hn : n < 2 ^ (7 * f - 6)) (hz : n = 0 → i = 0) :
    rdF f i acc (numF f n ++ r) = some (acc + n * 128 ^ i, i + (numF f n).length) := by
  induction f generalizing n i acc with
  | zero => omega
  | succ f ih =>
    unfold numF
    by_cases hlt : n < 128
    · rw [if_pos hlt]
      have e : (UInt8.ofNat n).toNat = n := toNat_ofNat_lt (by omega)
      simp only [List.cons_append, List.nil_append, rdF, e, List.length_cons, List.length_nil]
      have h9 : ¬ (i = 9 ∧ 1 < n) := by
        rintro ⟨hi, h⟩
        have : f = 0 := by omega
        subst this
        simp at hn
        omega
      rw [if_neg h9, if_neg (by omega), if_neg (by omega)]
      rw [Nat.mod_eq_of_lt hlt]
    · rw [if_neg hlt]
      have e : (UInt8.ofNat (n % 128 + 128)).toNat = n % 128 + 128 := toNat_ofNat_lt (by omega)
      have hf1 : 1 ≤ f := by
        rcases Nat.eq_zero_or_pos f with h0 | h0
        · subst h0
          simp at hn
          omega
        · exact h0
      have hn2 : n / 128 < 2 ^ (7 * f - 6) := by
        rw [Nat.div_lt_iff_lt_mul (by omega)]
        have : 2 ^ (7 * f - 6) * 128 = 2 ^ (7 * (f + 1) - 6) := by
          rw [show 7 * (f + 1) - 6 = (7 * f - 6) + 7 from by omega, Nat.pow_add]
        omega
      simp only [List.cons_append, rdF, e, List.length_cons]
      rw [if_neg (by omega), if_pos (by omega), ih (n / 128) (i + 1) _ (by omega) hf1 hn2 (by omega)]
      have hm : (n % 128 + 128) % 128 = n % 128 := by omega
      have hp : 128 ^ (i + 1) = 128 * 128 ^ i := by rw [Nat.pow_succ]; omega
      rw [hm, hp]
      have hd : n % 128 * 128 ^ i + n / 128 * (128 * 128 ^ i) = n * 128 ^ i := by
        rw [← Nat.mul_assoc, ← Nat.add_mul]
        congr 1
        omega
      simp only [Option.some.injEq, Prod.mk.injEq]
      omega

theorem rd_num (n : Nat) (hn : n < 2 ^ 64) (r : List UInt8) : rd (num n ++ r) = some (n, (num n).length) := by
  have := rdF_numF 10 n 0 0 r (by omega) (by omega) (by simpa using hn) (fun _ => rfl)
  simpa [rd, num] using this

theorem num_prefix (x y : Nat) (hx : x < 2 ^ 64) (hy : y < 2 ^ 64) : (num x <+: num y) ↔ x = y := by
  constructor
  · rintro ⟨t, ht⟩
    have h1 := rd_num x hx t
    have h2 := rd_num y hy []
    rw [List.append_nil, ← ht, h1] at h2
    simpa using congrArg (fun o => o.map Prod.fst) h2
  · rintro rfl
    exact List.prefix_refl _

theorem rdF_bound (f i acc : Nat) (l : List UInt8) (n k : Nat) (hf : f + i = 10) (ha : acc < 128 ^ i) (h : rdF f i acc l = some (n, k)) :
    n < 2 ^ 64 ∧ i + 1 ≤ k ∧ k ≤ i + l.length := by
  induction f generalizing i acc l with
  | zero => simp [rdF] at h
  | succ f ih =>
    cases l with
    | nil => simp [rdF] at h
    | cons c r =>
      have hc : c.toNat < 256 := c.toNat_lt
      have hs : acc + c.toNat % 128 * 128 ^ i < 128 ^ (i + 1) := by
        have h1 : c.toNat % 128 ≤ 127 := by omega
        have h2 : c.toNat % 128 * 128 ^ i ≤ 127 * 128 ^ i := Nat.mul_le_mul_right _ h1
        have h3 : 128 ^ (i + 1) = 128 ^ i * 128 := Nat.pow_succ ..
        omega
      simp only [rdF] at h
      split at h
      · cases h
      · rename_i h9
        split at h
        · obtain ⟨p1, p2, p3⟩ := ih (i + 1) _ r (by omega) hs h
          refine ⟨p1, by omega, ?_⟩
          simp only [List.length_cons]
          omega
        · rename_i h128
          split at h
          · cases h
          · simp only [Option.some.injEq, Prod.mk.injEq] at h
            obtain ⟨rfl, rfl⟩ := h
            refine ⟨?_, by omega, by simp⟩
            by_cases hi : i = 9
            · subst hi
              have hc1 : c.toNat ≤ 1 := by omega
              have : c.toNat % 128 * 128 ^ 9 ≤ 1 * 128 ^ 9 := Nat.mul_le_mul_right _ (by omega)
              simp at this ha ⊢
              omega
            · have : 128 ^ (i + 1) ≤ 128 ^ 9 := Nat.pow_le_pow_right (by omega) (by omega)
              simp at this
              omega

theorem rd_bound {l : List UInt8} {n k : Nat} (h : rd l = some (n, k)) : n < 2 ^ 64 ∧ 1 ≤ k ∧ k ≤ l.length := by
  have := rdF_bound 10 0 0 l n k (by omega) (by simp) h
  omega

/-! ### Fixed bytes -/
def fixL (k n : Nat) : List UInt8 := (List.range k).map fun i => UInt8.ofNat (n / 256 ^ (k - 1 - i))
def rfix (l : List UInt8) : Nat := l.foldl (fun a c => 256 * a + c.toNat) 0

theorem fixL_length (k n : Nat) : (fixL k n).length = k := by simp [fixL]
theorem fixL_succ (k n : Nat) : fixL (k + 1) n = UInt8.ofNat (n / 256 ^ k) :: fixL k n := by
  unfold fixL
  rw [List.range_succ_eq_map, List.map_cons, List.map_map]
  simp only [Nat.add_sub_cancel, Nat.sub_zero, List.cons.injEq, true_and]
  apply List.map_congr_left
  intro i hi
  simp at hi
  simp only [Function.comp]
  rw [show k - (i + 1) = k - 1 - i from by omega]

theorem rfix_acc (l : List UInt8) (a : Nat) : l.foldl (fun a c => 256 * a + c.toNat) a = a * 256 ^ l.length + rfix l := by
  induction l generalizing a with
  | nil => simp [rfix]
  | cons c l ih =>
    rw [rfix, List.foldl_cons, List.foldl_cons, ih, ih (256 * 0 + c.toNat), List.length_cons, Nat.pow_succ, Nat.add_mul, Nat.add_mul]
    rw [show 256 * a * 256 ^ l.length = a * (256 ^ l.length * 256) from by rw [Nat.mul_comm 256 a, Nat.mul_assoc, Nat.mul_comm 256]]
    simp
    omega

theorem rfix_cons (c : UInt8) (l : List UInt8) : rfix (c :: l) = c.toNat * 256 ^ l.length + rfix l := by
  rw [rfix, List.foldl_cons, rfix_acc]
  simp

theorem rfix_lt (l : List UInt8) : rfix l < 256 ^ l.length := by
  induction l with
  | nil => simp [rfix]
  | cons c l ih =>
    rw [rfix_cons, List.length_cons, Nat.pow_succ]
    have h1 : c.toNat ≤ 255 := by have := c.toNat_lt; omega
    have h2 : c.toNat * 256 ^ l.length ≤ 255 * 256 ^ l.length := Nat.mul_le_mul_right _ h1
    omega

theorem rfix_fixL (k n : Nat) : rfix (fixL k n) = n % 256 ^ k := by
  induction k with
  | zero => simp [fixL, rfix, Nat.mod_one]
  | succ k ih =>
    rw [fixL_succ, rfix_cons, fixL_length, ih]
    have e : (UInt8.ofNat (n / 256 ^ k)).toNat = n / 256 ^ k % 256 := by simp [UInt8.toNat_ofNat']
    rw [e, Nat.pow_succ, Nat.mod_mul]
    rw [Nat.mul_comm (256 ^ k)]
    omega

theorem fixL_rfix (l : List UInt8) : fixL l.length (rfix l) = l := by
  induction l with
  | nil => simp [fixL]
  | cons c l ih =>
    rw [List.length_cons, fixL_succ, rfix_cons]
    have hp : 0 < 256 ^ l.length := Nat.pow_pos (by omega)
    have hd : (c.toNat * 256 ^ l.length + rfix l) / 256 ^ l.length = c.toNat := by
      rw [Nat.mul_comm, Nat.mul_add_div hp, Nat.div_eq_of_lt (rfix_lt l)]
      simp
    rw [hd]
    have h1 : UInt8.ofNat c.toNat = c := by simp
    rw [h1]
    congr 1
    have : fixL l.length (c.toNat * 256 ^ l.length + rfix l) = fixL l.length (rfix l) := by
      unfold fixL
      apply List.map_congr_left
      intro i hi
      simp at hi
      have : c.toNat * 256 ^ l.length + rfix l = rfix l + 256 ^ (l.length - 1 - i) * (256 * (c.toNat * 256 ^ i)) := by
        have hpp : 256 ^ l.length = 256 ^ (l.length - 1 - i) * (256 * 256 ^ i) := by
          rw [show 256 * 256 ^ i = 256 ^ (i + 1) from by rw [Nat.pow_succ]; omega, ← Nat.pow_add]
          congr 1
          omega
        rw [hpp]
        rw [show c.toNat * (256 ^ (l.length - 1 - i) * (256 * 256 ^ i)) = 256 ^ (l.length - 1 - i) * (256 * (c.toNat * 256 ^ i)) from by
          rw [Nat.mul_left_comm]
          congr 1
          rw [Nat.mul_left_comm]]
        omega
      rw [this, Nat.add_mul_div_left _ _ (Nat.pow_pos (by omega))]
      apply UInt8.toNat_inj.1
      simp [UInt8.toNat_ofNat']
    rw [this, ih]

/-! ### The sum -/
def poly : Nat := 0xedb88320
def sh (x : Nat) : Nat := if x % 2 = 1 then (x / 2) ^^^ poly else x / 2
def shN : Nat → Nat → Nat
  | 0, x => x
  | k + 1, x => shN k (sh x)
def stepC (s : Nat) (c : UInt8) : Nat := shN 8 (s ^^^ c.toNat)
def sumS (s : Nat) (l : List UInt8) : Nat := l.foldl stepC s
def sumL (l : List UInt8) : Nat := sumS 4294967295 l ^^^ 4294967295

theorem sh_bit (x i : Nat) : (sh x).testBit i = (x.testBit (i + 1) ^^ (x.testBit 0 && poly.testBit i)) := by
  unfold sh
  by_cases h : x % 2 = 1
  · rw [if_pos h, Nat.testBit_xor, Nat.testBit_div_two]
    simp [Nat.testBit_zero, h]
  · rw [if_neg h, Nat.testBit_div_two]
    simp [Nat.testBit_zero, h]

theorem sh_xor (x y : Nat) : sh (x ^^^ y) = sh x ^^^ sh y := by
  apply Nat.eq_of_testBit_eq
  intro i
  rw [sh_bit, Nat.testBit_xor, Nat.testBit_xor, Nat.testBit_xor, sh_bit, sh_bit]
  cases x.testBit (i + 1) <;> cases y.testBit (i + 1) <;> cases x.testBit 0 <;> cases y.testBit 0 <;> cases poly.testBit i <;> rfl

theorem shN_xor (k x y : Nat) : shN k (x ^^^ y) = shN k x ^^^ shN k y := by
  induction k generalizing x y with
  | zero => rfl
  | succ k ih => simp only [shN]; rw [sh_xor, ih]

theorem sh_lt {x : Nat} (h : x < 4294967296) : sh x < 4294967296 := by
  unfold sh
  split
  · have : x / 2 < 2 ^ 32 := by omega
    have h2 : poly < 2 ^ 32 := by decide
    have := Nat.xor_lt_two_pow this h2
    simpa using this
  · omega

theorem shN_lt (k : Nat) {x : Nat} (h : x < 4294967296) : shN k x < 4294967296 := by
  induction k generalizing x with
  | zero => exact h
  | succ k ih => exact ih (sh_lt h)

theorem sh_zero {x : Nat} (h : x < 4294967296) (h0 : sh x = 0) : x = 0 := by
  unfold sh at h0
  split at h0
  · exfalso
    have h1 : x / 2 = poly := by
      have := congrArg (· ^^^ poly) h0
      simp only [Nat.xor_assoc, Nat.xor_self, Nat.xor_zero, Nat.zero_xor] at this
      exact this
    unfold poly at h1
    omega
  · omega

theorem shN_zero (k : Nat) {x : Nat} (h : x < 4294967296) (h0 : shN k x = 0) : x = 0 := by
  induction k generalizing x with
  | zero => exact h0
  | succ k ih => exact sh_zero h (ih (sh_lt h) h0)

theorem xor_lt32 {x y : Nat} (hx : x < 4294967296) (hy : y < 4294967296) : x ^^^ y < 4294967296 := by
  have := Nat.xor_lt_two_pow (n := 32) (by simpa using hx) (by simpa using hy)
  simpa using this

theorem stepC_lt {s : Nat} (h : s < 4294967296) (c : UInt8) : stepC s c < 4294967296 :=
  shN_lt 8 (xor_lt32 h (by have := c.toNat_lt; omega))

theorem sumS_lt {s : Nat} (h : s < 4294967296) (l : List UInt8) : sumS s l < 4294967296 := by
  induction l generalizing s with
  | nil => exact h
  | cons c l ih => exact ih (stepC_lt h c)

theorem sumL_lt (l : List UInt8) : sumL l < 4294967296 := xor_lt32 (sumS_lt (by omega) l) (by omega)

theorem shN_high (x : Nat) (k : Nat) : shN k (x * 2 ^ k) = x := by
  induction k generalizing x with
  | zero => simp [shN]
  | succ k ih =>
    simp only [shN]
    have h2 : x * 2 ^ (k + 1) = 2 * (x * 2 ^ k) := by rw [Nat.pow_succ]; rw [← Nat.mul_assoc]; omega
    have : sh (x * 2 ^ (k + 1)) = x * 2 ^ k := by
      unfold sh
      rw [if_neg (by omega)]
      omega
    rw [this, ih]

/-- The table's way: what the program does. -/
theorem stepC_table (s : Nat) (c : UInt8) : stepC s c = (s / 256) ^^^ shN 8 ((s % 256) ^^^ c.toNat) := by
  unfold stepC
  have hs : s = (s / 256 * 2 ^ 8) ^^^ (s % 256) := by
    apply Nat.eq_of_testBit_eq
    intro i
    rw [Nat.testBit_xor, show (256 : Nat) = 2 ^ 8 from rfl, Nat.testBit_mod_two_pow, Nat.testBit_mul_two_pow, Nat.testBit_div_two_pow]
    by_cases h : i < 8
    · have h8 : ¬ 8 ≤ i := by omega
      simp [h, h8]
    · have h8 : 8 ≤ i := by omega
      have e : i - 8 + 8 = i := by omega
      simp [h, h8, e]
  conv => lhs; rw [hs, Nat.xor_assoc, shN_xor, shN_high]

theorem xor_cancel_left {a b c : Nat} (h : a ^^^ b = a ^^^ c) : b = c := by
  have := congrArg (a ^^^ ·) h
  simpa [← Nat.xor_assoc] using this

theorem xor_eq_zero {a b : Nat} (h : a ^^^ b = 0) : a = b := by
  have := congrArg (· ^^^ b) h
  simp [Nat.xor_assoc] at this
  exact this

theorem stepC_inj_state {s t : Nat} (hs : s < 4294967296) (ht : t < 4294967296) {c : UInt8} (h : stepC s c = stepC t c) : s = t := by
  unfold stepC at h
  rw [shN_xor, shN_xor] at h
  have h2 : shN 8 s = shN 8 t := by
    have := congrArg (· ^^^ shN 8 c.toNat) h
    simpa [Nat.xor_assoc] using this
  have h3 : shN 8 (s ^^^ t) = 0 := by rw [shN_xor, h2, Nat.xor_self]
  exact xor_eq_zero (shN_zero 8 (xor_lt32 hs ht) h3)

theorem stepC_inj_byte {s : Nat} {c d : UInt8} (h : stepC s c = stepC s d) : c = d := by
  unfold stepC at h
  rw [shN_xor, shN_xor] at h
  have h2 := xor_cancel_left h
  have h3 : shN 8 (c.toNat ^^^ d.toNat) = 0 := by rw [shN_xor, h2, Nat.xor_self]
  have hc := c.toNat_lt
  have hd := d.toNat_lt
  exact UInt8.toNat_inj.1 (xor_eq_zero (shN_zero 8 (xor_lt32 (by omega) (by omega)) h3))

theorem sumS_inj {s t : Nat} (hs : s < 4294967296) (ht : t < 4294967296) {l : List UInt8} (h : sumS s l = sumS t l) : s = t := by
  induction l generalizing s t with
  | nil => exact h
  | cons c l ih => exact stepC_inj_state hs ht (ih (stepC_lt hs c) (stepC_lt ht c) h)

theorem sumS_append (s : Nat) (a b : List UInt8) : sumS s (a ++ b) = sumS (sumS s a) b := by simp [sumS, List.foldl_append]

/-- Lists of bytes that differ in one byte have unlike sums. -/
theorem sumL_one (a b : List UInt8) (c d : UInt8) (h : sumL (a ++ c :: b) = sumL (a ++ d :: b)) : c = d := by
  unfold sumL at h
  have h1 : sumS 4294967295 (a ++ c :: b) = sumS 4294967295 (a ++ d :: b) := by
    have := congrArg (· ^^^ 4294967295) h
    simpa [Nat.xor_assoc] using this
  rw [sumS_append, sumS_append] at h1
  have hs := sumS_lt (s := 4294967295) (by omega) a
  exact stepC_inj_byte (sumS_inj (stepC_lt hs c) (stepC_lt hs d) h1)

theorem sumL_set (l : List UInt8) (i : Nat) (hi : i < l.length) (d : UInt8) (hd : l[i] ≠ d) : sumL l ≠ sumL (l.set i d) := by
  intro h
  have e1 : l = l.take i ++ l[i] :: l.drop (i + 1) := by simp
  have e2 : l.set i d = l.take i ++ d :: l.drop (i + 1) := by rw [List.set_eq_take_append_cons_drop, if_pos hi]
  rw [e2] at h
  conv at h => lhs; rw [e1]
  exact hd (sumL_one _ _ _ _ h)

end Lou
