set_option autoImplicit false
set_option linter.unusedVariables false
set_option linter.unusedSimpArgs false
namespace Go.LX.Crc

/-! CRC-32 as a linear register. -/
def poly : BitVec 32 := 0xedb88320
def step (x : BitVec 32) : BitVec 32 := (x >>> 1) ^^^ (bif x.getLsbD 0 then poly else 0)
def steps : Nat → BitVec 32 → BitVec 32
  | 0, x => x
  | n + 1, x => steps n (step x)
def wide (b : UInt8) : BitVec 32 := b.toBitVec.setWidth 32
def byte (r : BitVec 32) (b : UInt8) : BitVec 32 := steps 8 (r ^^^ wide b)
def over (r : BitVec 32) : List UInt8 → BitVec 32
  | [] => r
  | b :: s => over (byte r b) s

theorem over_append (r : BitVec 32) : ∀ (s t : List UInt8), over r (s ++ t) = over (over r s) t
  | s, t => by
    induction s generalizing r with
    | nil => rfl
    | cons b s ih => exact ih _

theorem xor4 (a b p q : BitVec 32) : (a ^^^ b) ^^^ (p ^^^ q) = (a ^^^ p) ^^^ (b ^^^ q) := by
  apply BitVec.eq_of_getLsbD_eq
  intro i hi
  simp only [BitVec.getLsbD_xor]
  cases a.getLsbD i <;> cases b.getLsbD i <;> cases p.getLsbD i <;> cases q.getLsbD i <;> rfl
theorem not_xor (a : BitVec 32) : ~~~ a = a ^^^ ~~~ 0 := by
  have : (~~~ 0 : BitVec 32) = BitVec.allOnes 32 := by decide
  rw [this, BitVec.xor_allOnes]
theorem step_xor (x y : BitVec 32) : step (x ^^^ y) = step x ^^^ step y := by
  unfold step
  rw [← xor4, BitVec.ushiftRight_xor_distrib, BitVec.getLsbD_xor]
  congr 1
  cases x.getLsbD 0 <;> cases y.getLsbD 0 <;> simp
theorem steps_xor : ∀ (n : Nat) (x y : BitVec 32), steps n (x ^^^ y) = steps n x ^^^ steps n y
  | 0, x, y => rfl
  | n + 1, x, y => by rw [steps, step_xor, steps_xor n]; rfl
theorem step_zero : step 0 = 0 := by decide
theorem steps_zero : ∀ n, steps n 0 = 0
  | 0 => rfl
  | n + 1 => by rw [steps, step_zero, steps_zero n]
theorem steps_add : ∀ (m n : Nat) (x : BitVec 32), steps (m + n) x = steps m (steps n x)
  | m, 0, x => rfl
  | m, n + 1, x => by rw [← Nat.add_assoc]; exact steps_add m n (step x)
theorem steps_succ (n : Nat) (x : BitVec 32) : steps (n + 1) x = step (steps n x) := by
  rw [Nat.add_comm]; exact steps_add 1 n x
theorem step_inj {x : BitVec 32} (h : step x = 0) : x = 0 := by
  have h31 : x.getLsbD 0 = false := by
    have := congrArg (fun v : BitVec 32 => v.getLsbD 31) h
    simp only [step, BitVec.getLsbD_xor, BitVec.getLsbD_ushiftRight] at this
    cases hb : x.getLsbD 0
    · rfl
    · rw [hb] at this
      have h2 : x.getLsbD (1 + 31) = false := BitVec.getLsbD_of_ge x 32 (by omega)
      simp [h2, poly] at this
  have h1 : x >>> 1 = 0 := by
    unfold step at h
    rw [h31] at h
    simpa using h
  apply BitVec.eq_of_getLsbD_eq
  intro i hi
  cases i with
  | zero => simpa using h31
  | succ i =>
    have := congrArg (fun v : BitVec 32 => v.getLsbD i) h1
    simp only [BitVec.getLsbD_ushiftRight] at this
    rw [Nat.add_comm i 1, this]
    simp
theorem steps_inj : ∀ (n : Nat) {x : BitVec 32}, steps n x = 0 → x = 0
  | 0, x, h => h
  | n + 1, x, h => step_inj (steps_inj n h)
theorem xor_eq_zero {x y : BitVec 32} (h : x ^^^ y = 0) : x = y := by
  have := congrArg (· ^^^ y) h
  simpa [BitVec.xor_assoc] using this
theorem steps_inj' {n : Nat} {x y : BitVec 32} (h : steps n x = steps n y) : x = y := by
  apply xor_eq_zero
  apply steps_inj n
  rw [steps_xor, h]
  simp

/-- While the low bits are 0 the register only moves. -/
theorem steps_low : ∀ (k : Nat) (x : BitVec 32), (∀ i, i < k → x.getLsbD i = false) → steps k x = x >>> k
  | 0, x, _ => by simp [steps]
  | k + 1, x, h => by
    have h0 : step x = x >>> 1 := by
      unfold step
      rw [h 0 (by omega)]
      simp
    rw [steps, h0, steps_low k (x >>> 1) (fun i hi => by rw [BitVec.getLsbD_ushiftRight]; exact h _ (by omega))]
    rw [← BitVec.shiftRight_add, Nat.add_comm]

theorem split8 (x : BitVec 32) : x = (x.setWidth 8).setWidth 32 ^^^ ((x >>> 8) <<< 8) := by
  apply BitVec.eq_of_getLsbD_eq
  intro i hi
  simp only [BitVec.getLsbD_xor, BitVec.getLsbD_setWidth, BitVec.getLsbD_shiftLeft, BitVec.getLsbD_ushiftRight]
  by_cases h : i < 8
  · simp [h, hi]
  · have : 8 + (i - 8) = i := by omega
    simp [h, hi, this]
theorem steps8_hi (y : BitVec 32) : steps 8 ((y >>> 8) <<< 8) = y >>> 8 := by
  rw [steps_low 8 _ (fun i hi => by rw [BitVec.getLsbD_shiftLeft]; simp [hi])]
  apply BitVec.eq_of_getLsbD_eq
  intro i hi
  simp only [BitVec.getLsbD_ushiftRight, BitVec.getLsbD_shiftLeft]
  by_cases h : 8 + i < 32
  · simp [h]
  · have h1 : y.getLsbD (8 + (8 + i - 8)) = false := BitVec.getLsbD_of_ge y _ (by omega)
    have h2 : y.getLsbD (8 + i) = false := BitVec.getLsbD_of_ge y _ (by omega)
    simp [h1, h2]

theorem wide_xor (a b : UInt8) : wide (a ^^^ b) = wide a ^^^ wide b := by
  unfold wide
  rw [UInt8.toBitVec_xor]
  apply BitVec.eq_of_getLsbD_eq
  intro i hi
  simp only [BitVec.getLsbD_xor, BitVec.getLsbD_setWidth]
  cases decide (i < 32) <;> simp

/-- What a table of 256 does. -/
def tab (n : BitVec 8) : BitVec 32 := steps 8 (n.setWidth 32)
theorem byte_tab (r : BitVec 32) (b : UInt8) : byte r b = (r >>> 8) ^^^ tab (r.setWidth 8 ^^^ b.toBitVec) := by
  unfold byte tab
  have h1 : r ^^^ wide b = (r.setWidth 8 ^^^ b.toBitVec).setWidth 32 ^^^ ((r >>> 8) <<< 8) := by
    conv => lhs; rw [split8 r]
    apply BitVec.eq_of_getLsbD_eq
    intro i hi
    simp only [wide, BitVec.getLsbD_xor, BitVec.getLsbD_setWidth, BitVec.getLsbD_shiftLeft, BitVec.getLsbD_ushiftRight]
    by_cases h : i < 8
    · simp [h, hi]
    · have h2 : b.toBitVec.getLsbD i = false := BitVec.getLsbD_of_ge _ _ (by omega)
      simp [h, hi, h2]
  rw [h1, steps_xor, steps8_hi, BitVec.xor_comm]

/-- A number's bytes, the lowest first. -/
def lo (v : BitVec 32) : UInt8 := ⟨v.setWidth 8⟩
def le : Nat → BitVec 32 → List UInt8
  | 0, _ => []
  | n + 1, v => lo v :: le n (v >>> 8)
theorem le_length : ∀ n v, (le n v).length = n
  | 0, _ => rfl
  | n + 1, v => by simp [le, le_length n]
theorem byte_lo (r v : BitVec 32) : byte r (lo v) ^^^ (v >>> 8) = steps 8 (r ^^^ v) := by
  have h : r ^^^ v = (r ^^^ wide (lo v)) ^^^ ((v >>> 8) <<< 8) := by
    rw [BitVec.xor_assoc]
    exact congrArg (r ^^^ ·) (split8 v)
  rw [h, steps_xor, steps8_hi]
  rfl
theorem over_le : ∀ (n : Nat) (r v : BitVec 32), v.toNat < 2 ^ (8 * n) → over r (le n v) = steps (8 * n) (r ^^^ v)
  | 0, r, v, h => by
    have : v = 0 := BitVec.eq_of_toNat_eq (by simpa using h)
    subst this
    simp [le, over, steps]
  | n + 1, r, v, h => by
    rw [le, over, over_le n _ _ (by
      rw [BitVec.toNat_ushiftRight, Nat.shiftRight_eq_div_pow]
      apply Nat.div_lt_of_lt_mul
      rw [← Nat.pow_add]
      rwa [Nat.mul_add, Nat.mul_one, Nat.add_comm] at h), byte_lo, ← steps_add]
    rfl
theorem lo_inj {v w : BitVec 32} (h1 : lo v = lo w) (h2 : v >>> 8 = w >>> 8) : v = w := by
  rw [split8 v, split8 w, h2]
  have : v.setWidth 8 = w.setWidth 8 := congrArg UInt8.toBitVec h1
  rw [this]
theorem le_inj : ∀ {n : Nat} {v w : BitVec 32}, v.toNat < 2 ^ (8 * n) → w.toNat < 2 ^ (8 * n) → le n v = le n w → v = w
  | 0, v, w, h1, h2, _ => BitVec.eq_of_toNat_eq (by simp at h1 h2; omega)
  | n + 1, v, w, h1, h2, h => by
    rw [le, le] at h
    injection h with h3 h4
    have shr : ∀ u : BitVec 32, u.toNat < 2 ^ (8 * (n + 1)) → (u >>> 8).toNat < 2 ^ (8 * n) := fun u hu => by
      rw [BitVec.toNat_ushiftRight, Nat.shiftRight_eq_div_pow]
      apply Nat.div_lt_of_lt_mul
      rw [← Nat.pow_add]
      rwa [Nat.mul_add, Nat.mul_one, Nat.add_comm] at hu
    exact lo_inj h3 (le_inj (shr v h1) (shr w h2) h4)
/-- Each text of four bytes is a number's. -/
def val : List UInt8 → BitVec 32
  | [] => 0
  | b :: s => wide b ^^^ (val s <<< 8)
theorem lo_val (b : UInt8) (x : BitVec 32) : lo (wide b ^^^ (x <<< 8)) = b := by
  unfold lo wide
  apply UInt8.eq_of_toBitVec_eq
  apply BitVec.eq_of_getLsbD_eq
  intro i hi
  simp only [BitVec.getLsbD_setWidth, BitVec.getLsbD_xor, BitVec.getLsbD_shiftLeft]
  have : i < 32 := by omega
  simp [hi, this]
theorem shr_val (b : UInt8) (x : BitVec 32) (hx : x.toNat < 2 ^ 24) : (wide b ^^^ (x <<< 8)) >>> 8 = x := by
  apply BitVec.eq_of_getLsbD_eq
  intro i hi
  simp only [wide, BitVec.getLsbD_ushiftRight, BitVec.getLsbD_setWidth, BitVec.getLsbD_xor, BitVec.getLsbD_shiftLeft]
  have h2 : b.toBitVec.getLsbD (8 + i) = false := BitVec.getLsbD_of_ge _ _ (by omega)
  by_cases h : 8 + i < 32
  · simp [h, h2]
  · have : x.getLsbD i = false := by
      rw [BitVec.getLsbD, Nat.testBit_lt_two_pow (Nat.lt_of_lt_of_le hx (Nat.pow_le_pow_right (by omega) (by omega)))]
    simp [h, this]
theorem val_lt : ∀ (s : List UInt8), s.length ≤ 4 → (val s).toNat < 2 ^ (8 * s.length)
  | [], _ => by simp [val]
  | b :: s, h => by
    have ih := val_lt s (by simp at h; omega)
    simp only [val, BitVec.toNat_xor, List.length_cons]
    apply Nat.xor_lt_two_pow
    · have : (wide b).toNat < 2 ^ 8 := by
        unfold wide
        rw [BitVec.toNat_setWidth]
        have := b.toBitVec.isLt
        omega
      exact Nat.lt_of_lt_of_le this (Nat.pow_le_pow_right (by omega) (by omega))
    · rw [BitVec.toNat_shiftLeft]
      have h1 : (val s).toNat <<< 8 < 2 ^ (8 * (s.length + 1)) := by
        rw [Nat.shiftLeft_eq, Nat.mul_add, Nat.pow_add]
        exact Nat.mul_lt_mul_of_pos_right ih (by decide)
      exact Nat.lt_of_le_of_lt (Nat.mod_le _ _) h1
theorem le_val : ∀ (s : List UInt8), s.length ≤ 4 → le s.length (val s) = s
  | [], _ => rfl
  | b :: s, h => by
    have hs : s.length ≤ 3 := by simp at h; omega
    have ih := le_val s (by omega)
    have hl := val_lt s (by omega)
    rw [List.length_cons, le, val, lo_val, shr_val b (val s) (Nat.lt_of_lt_of_le hl (Nat.pow_le_pow_right (by omega) (by omega))), ih]

/-- The register behind what is right. -/
def good : BitVec 32 := steps 32 (~~~ 0)
def sum (s : List UInt8) : BitVec 32 := ~~~ over (~~~ 0) s
def seal_ (s : List UInt8) : List UInt8 := s ++ le 4 (sum s)
def right (s : List UInt8) : Prop := 4 ≤ s.length ∧ le 4 (sum (s.take (s.length - 4))) = s.drop (s.length - 4)
instance (s : List UInt8) : Decidable (right s) := by unfold right; infer_instance

theorem over_right (s : List UInt8) (h : 4 ≤ s.length) : right s ↔ over (~~~ 0) s = good := by
  have hlen : (s.drop (s.length - 4)).length = 4 := by simp; omega
  have hv := le_val (s.drop (s.length - 4)) (by omega)
  rw [hlen] at hv
  have hvl := val_lt (s.drop (s.length - 4)) (by omega)
  rw [hlen] at hvl
  have ho : over (~~~ 0) s = steps 32 (over (~~~ 0) (s.take (s.length - 4)) ^^^ val (s.drop (s.length - 4))) := by
    conv => lhs; rw [← List.take_append_drop (s.length - 4) s]
    rw [over_append]
    conv => lhs; rw [← hv]
    rw [over_le 4 _ _ hvl]
  unfold right good
  rw [ho]
  have key : sum (s.take (s.length - 4)) = val (s.drop (s.length - 4)) ↔ over (~~~ 0) (s.take (s.length - 4)) ^^^ val (s.drop (s.length - 4)) = ~~~ 0 := by
    unfold sum
    constructor
    · intro h1
      rw [← h1, not_xor (over _ _), ← BitVec.xor_assoc, BitVec.xor_self, BitVec.zero_xor]
    · intro h1
      have := congrArg (over (~~~ 0) (s.take (s.length - 4)) ^^^ ·) h1
      simp only [← BitVec.xor_assoc, BitVec.xor_self, BitVec.zero_xor] at this
      rw [this, ← not_xor]
  constructor
  · rintro ⟨_, h1⟩
    rw [← hv] at h1
    have := le_inj (n := 4) (BitVec.isLt _) (by simpa using hvl) h1
    rw [key.1 this]
  · intro h1
    refine ⟨h, ?_⟩
    have := key.2 (steps_inj' h1)
    rw [this]
    exact hv
theorem right_seal (s : List UInt8) : right (seal_ s) := by
  unfold right seal_
  have hl : (s ++ le 4 (sum s)).length - 4 = s.length := by simp [le_length]
  rw [hl]
  simp [le_length]
theorem over_seal (s : List UInt8) : over (~~~ 0) (seal_ s) = good := (over_right _ (by simp [seal_, le_length])).1 (right_seal s)

/-! Errors. -/
theorem over_reg : ∀ (s : List UInt8) (x d : BitVec 32), over (x ^^^ d) s = over x s ^^^ steps (8 * s.length) d
  | [], x, d => rfl
  | b :: s, x, d => by
    have : byte (x ^^^ d) b = byte x b ^^^ steps 8 d := by
      unfold byte
      rw [← steps_xor]
      congr 1
      rw [BitVec.xor_assoc, BitVec.xor_comm d, ← BitVec.xor_assoc]
    rw [over, this, over_reg s, over, ← steps_add]
    rfl
def one : BitVec 32 := 1
theorem steps_one (k n : Nat) (hk : k < 32) (hn : k ≤ n) : steps n (one <<< k) = steps (n - k) one := by
  have h : n = (n - k) + k := by omega
  conv => lhs; rw [h]
  rw [steps_add]
  congr 1
  rw [steps_low k _ (fun i hi => by rw [BitVec.getLsbD_shiftLeft]; simp [hi])]
  apply BitVec.eq_of_toNat_eq
  rw [BitVec.toNat_ushiftRight, BitVec.toNat_shiftLeft]
  have : one.toNat = 1 := rfl
  rw [this, Nat.shiftLeft_eq, Nat.one_mul, Nat.mod_eq_of_lt (Nat.pow_lt_pow_right (by omega) hk), Nat.shiftRight_eq_div_pow, Nat.div_self (Nat.two_pow_pos k)]

/-- One bit turned. -/
def flip (l : List UInt8) (k : Nat) : List UInt8 := l.set (k / 8) (l.getD (k / 8) 0 ^^^ UInt8.ofNat (2 ^ (k % 8)))
theorem flip_length (l : List UInt8) (k : Nat) : (flip l k).length = l.length := by simp [flip]
theorem wide_bit (j : Nat) (hj : j < 8) : wide (UInt8.ofNat (2 ^ j)) = one <<< j := by
  have : ∀ j : Fin 8, wide (UInt8.ofNat (2 ^ j.val)) = one <<< j.val := by decide
  exact this ⟨j, hj⟩
theorem over_flip : ∀ (l : List UInt8) (r : BitVec 32) (k : Nat), k < 8 * l.length → over r (flip l k) = over r l ^^^ steps (8 * l.length - k) one
  | [], r, k, h => by simp at h
  | b :: s, r, k, h => by
    simp only [List.length_cons] at h
    by_cases hk : k < 8
    · have h0 : k / 8 = 0 := by omega
      have h1 : k % 8 = k := by omega
      have hb : byte r (b ^^^ UInt8.ofNat (2 ^ k)) = byte r b ^^^ steps (8 - k) one := by
        unfold byte
        rw [wide_xor, wide_bit k hk, ← BitVec.xor_assoc, steps_xor, steps_one k 8 (by omega) (by omega)]
      simp only [flip, h0, h1, List.getD_cons_zero, List.set_cons_zero, over]
      rw [hb, over_reg, ← steps_add]
      congr 2
      simp
      omega
    · have h0 : k / 8 = (k - 8) / 8 + 1 := by omega
      have h1 : k % 8 = (k - 8) % 8 := by omega
      have ih := over_flip s (byte r b) (k - 8) (by omega)
      simp only [flip, h0, h1, List.getD_cons_succ, List.set_cons_succ, over] at ih ⊢
      rw [ih]
      congr 2
      simp
      omega

end Go.LX.Crc
