import Derived.Test.YtjdlbffcldndhaaCrcH
import Derived.Test.YtjdlbffcldndhaaCrcBitsTab
set_option maxRecDepth 100000
set_option autoImplicit false
set_option linter.unusedVariables false
set_option linter.unusedSimpArgs false
namespace Go.LX.Crc
theorem stepN_go (r : BitVec 32) : (step r).toNat = stepN r.toNat := by
  unfold step stepN
  rw [BitVec.toNat_xor, BitVec.toNat_ushiftRight]
  show (r.toNat >>> 1) ^^^ _ = (r.toNat >>> 1) ^^^ (3988292384 * (r.toNat &&& 1))
  congr 1
  rw [Nat.and_one_is_mod, show r.getLsbD 0 = r.toNat.testBit 0 from rfl, Nat.testBit_zero]
  have h2 : r.toNat % 2 = 0 ∨ r.toNat % 2 = 1 := by omega
  rcases h2 with h2 | h2 <;> rw [h2] <;> rfl
theorem chk_mono : ∀ {n : Nat} {r : BitVec 32}, chk n r.toNat = true → ∀ j, j < n → bitF ((steps j r).toNat >>> 1) < bitF ((steps (j + 1) r).toNat >>> 1)
  | 0, r, _, j, hj => by omega
  | n + 1, r, h, j, hj => by
    rw [chk, Bool.and_eq_true, ← stepN_go] at h
    cases j with
    | zero =>
      have h1 : bitF (r.toNat >>> 1) < bitF ((step r).toNat >>> 1) := by simpa [Nat.blt_eq] using h.1
      exact h1
    | succ j => exact chk_mono (r := step r) h.2 j (by omega)
theorem far_apart {i j : Nat} (hij : i < j) (hj : j ≤ 16031) : bitF ((steps i one).toNat >>> 1) < bitF ((steps j one).toNat >>> 1) := by
  obtain ⟨d, rfl⟩ : ∃ d, j = i + 1 + d := ⟨j - (i + 1), by omega⟩
  induction d with
  | zero => exact chk_mono (r := one) chk_all i (by omega)
  | succ d ih => exact Nat.lt_trans (ih (by omega) (by omega)) (chk_mono (r := one) chk_all (i + 1 + d) (by omega))
theorem not_one {i j : Nat} (hij : i ≠ j) (hi : i ≤ 16031) (hj : j ≤ 16031) : one ^^^ steps i one ≠ steps j one := by
  intro h
  have h2 : (steps i one).toNat >>> 1 = (steps j one).toNat >>> 1 := by
    rw [← h, ← BitVec.toNat_ushiftRight, ← BitVec.toNat_ushiftRight, BitVec.ushiftRight_xor_distrib]
    have : one >>> 1 = 0 := by decide
    rw [this]
    simp
  rcases Nat.lt_or_gt_of_ne hij with h3 | h3
  · have := far_apart h3 hj
    rw [h2] at this
    omega
  · have := far_apart h3 hi
    rw [h2] at this
    omega
theorem xor_zero {a b : BitVec 32} (h : a ^^^ b = 0) : a = b := xor_eq_zero h
theorem one_bit (e : Nat) : steps e one ≠ 0 := fun h => by
  have := steps_inj e h
  revert this
  decide
theorem two_min {i j : Nat} (hij : i < j) (hj : j ≤ 16032) (hi : 0 < i) : steps i one ^^^ steps j one ≠ 0 := by
  intro h
  have h1 := xor_zero h
  have h2 : steps i (one ^^^ steps (j - i) one) = 0 := by
    rw [steps_xor, ← steps_add, show i + (j - i) = j by omega, ← h1]
    simp
  have h3 := xor_zero (steps_inj i h2)
  have := far_apart (i := 0) (j := j - i) (by omega) (by omega)
  rw [← h3] at this
  exact Nat.lt_irrefl _ this
theorem two_bits {i j : Nat} (hij : i ≠ j) (hi : 0 < i) (hj : 0 < j) (hi2 : i ≤ 16032) (hj2 : j ≤ 16032) : steps i one ^^^ steps j one ≠ 0 := by
  rcases Nat.lt_or_gt_of_ne hij with h | h
  · exact two_min h hj2 hi
  · rw [BitVec.xor_comm]
    exact two_min h hi2 hj
theorem three_min {i j k : Nat} (hij : i < j) (hik : i < k) (hjk : j ≠ k) (hi : 0 < i) (hj : j ≤ 16032) (hk : k ≤ 16032) : (steps i one ^^^ steps j one) ^^^ steps k one ≠ 0 := by
  intro h
  have h1 := xor_zero h
  have h2 : steps i ((one ^^^ steps (j - i) one) ^^^ steps (k - i) one) = 0 := by
    rw [steps_xor, steps_xor, ← steps_add, ← steps_add, show i + (j - i) = j by omega, show i + (k - i) = k by omega]
    exact h
  exact not_one (by omega) (by omega) (by omega) (xor_zero (steps_inj i h2))
theorem three_bits {i j k : Nat} (hij : i ≠ j) (hik : i ≠ k) (hjk : j ≠ k) (hi : 0 < i) (hj : 0 < j) (hk : 0 < k) (hi2 : i ≤ 16032) (hj2 : j ≤ 16032) (hk2 : k ≤ 16032) : (steps i one ^^^ steps j one) ^^^ steps k one ≠ 0 := by
  by_cases h1 : i < j ∧ i < k
  · exact three_min h1.1 h1.2 hjk hi hj2 hk2
  · by_cases h2 : j < i ∧ j < k
    · rw [BitVec.xor_comm (steps i one)]
      exact three_min h2.1 h2.2 hik hj hi2 hk2
    · have h3 : k < i ∧ k < j := by omega
      rw [BitVec.xor_assoc, BitVec.xor_comm, BitVec.xor_comm (steps j one)]
      intro h
      refine three_min (i := k) (j := j) (k := i) h3.2 h3.1 (fun e => hij e.symm) hk hj2 hi2 h
end Go.LX.Crc
namespace Go.LX
open Go.Proofs
theorem quo1_go (m : Nat) (h : m < 1000000) : IntKind.i64.wrap ((m : Int).tdiv 8) = ((m / 8 : Nat) : Int) := by
  rw [Int.tdiv_eq_ediv_of_nonneg (by omega), wrap_i64 (by omega) (by omega)]
  omega
theorem rem1_go (m : Nat) : (m : Int).tmod 8 = ((m % 8 : Nat) : Int) := by
  rw [Int.tmod_eq_emod_of_nonneg (by omega)]
  omega
theorem not_right {s : List UInt8} {l : List UInt8} {d : BitVec 32} (hl : l.length = s.length + 4) (h : Crc.over (~~~ 0) l = Crc.good ^^^ d) (hd : d ≠ 0) : rightB l = false := by
  cases hb : rightB l with
  | false => rfl
  | true =>
    exfalso
    unfold rightB at hb
    rw [Bool.and_eq_true] at hb
    have hright : Crc.right l := ⟨of_decide_eq_true hb.1, of_decide_eq_true hb.2⟩
    have h2 := (Crc.over_right _ (by omega)).1 hright
    rw [h] at h2
    apply hd
    have := congrArg (fun v => Crc.good ^^^ v) h2
    simpa [← BitVec.xor_assoc] using this
theorem flip1 (s : List UInt8) (a : Nat) (ha : a < 8 * (s.length + 4)) : Crc.over (~~~ 0) (Crc.flip (Crc.seal_ s) a) = Crc.good ^^^ Crc.steps (8 * (s.length + 4) - a) Crc.one := by
  rw [Crc.over_flip _ _ _ (by rw [seal_len]; exact ha), Crc.over_seal, seal_len]
theorem flip2 (s : List UInt8) (a b : Nat) (ha : a < 8 * (s.length + 4)) (hb : b < 8 * (s.length + 4)) : Crc.over (~~~ 0) (Crc.flip (Crc.flip (Crc.seal_ s) a) b) = Crc.good ^^^ (Crc.steps (8 * (s.length + 4) - a) Crc.one ^^^ Crc.steps (8 * (s.length + 4) - b) Crc.one) := by
  rw [Crc.over_flip _ _ _ (by rw [Crc.flip_length, seal_len]; exact hb), flip1 s a ha, Crc.flip_length, seal_len, BitVec.xor_assoc]
theorem flip3 (s : List UInt8) (a b c : Nat) (ha : a < 8 * (s.length + 4)) (hb : b < 8 * (s.length + 4)) (hc : c < 8 * (s.length + 4)) : Crc.over (~~~ 0) (Crc.flip (Crc.flip (Crc.flip (Crc.seal_ s) a) b) c) = Crc.good ^^^ ((Crc.steps (8 * (s.length + 4) - a) Crc.one ^^^ Crc.steps (8 * (s.length + 4) - b) Crc.one) ^^^ Crc.steps (8 * (s.length + 4) - c) Crc.one) := by
  rw [Crc.over_flip _ _ _ (by rw [Crc.flip_length, Crc.flip_length, seal_len]; exact hc), flip2 s a b ha hb, Crc.flip_length, Crc.flip_length, seal_len, BitVec.xor_assoc, BitVec.xor_assoc]
def law4S : Spec := fun args H Q => match args, H with
  | [.str s, .int .i64 a, .int .i64 b, .int .i64 c], [] => ((-9223372036854775808 ≤ a ∧ a ≤ 9223372036854775807) ∧ (-9223372036854775808 ≤ b ∧ b ≤ 9223372036854775807) ∧ -9223372036854775808 ≤ c ∧ c ≤ 9223372036854775807) ∧ Q (.bool true) []
  | _, _ => False
theorem bits_law : Meets Try.prog [] 5 law4S := by
  refine meets_of Γok Try.func5 rfl ?_
  intro args H Q h
  unfold law4S at h
  split at h
  case h_2 => exact h.elim
  rename_i s a b c
  have hsl := seal_len s
  obtain ⟨⟨⟨ha1, ha2⟩, ⟨hb1, hb2⟩, hc1, hc2⟩, h⟩ := h
  (refine sx_sound Γok _ ?_; conv => whnf)
  refine CallVC.of [] awake_k ?_
  (conv => whnf)
  (repeat (first | (refine Both.lit_true ?_; conv => whnf) | (refine Both.lit_false ?_; conv => whnf) | (refine Need.mk (by first | omega | exact ⟨by omega, by omega⟩ | rfl | exact ⟨rfl, rfl⟩) ?_; conv => whnf)))
  refine Both.dec (fun hlt => ?_) (fun hlen => ?_)
  · (conv => whnf)
    (repeat (first | (refine Both.lit_true ?_; conv => whnf) | (refine Both.lit_false ?_; conv => whnf) | (refine Need.mk (by first | omega | exact ⟨by omega, by omega⟩ | rfl | exact ⟨rfl, rfl⟩) ?_; conv => whnf)))
    exact ⟨_, _, WeakV.drop rfl, h⟩
  (conv => whnf)
  (repeat (first | (refine Both.lit_true ?_; conv => whnf) | (refine Both.lit_false ?_; conv => whnf) | (refine Need.mk (by first | omega | exact ⟨by omega, by omega⟩ | rfl | exact ⟨rfl, rfl⟩) ?_; conv => whnf)))
  refine Both.dec (fun hlt => ?_) (fun ha0 => ?_)
  · (conv => whnf)
    (repeat (first | (refine Both.lit_true ?_; conv => whnf) | (refine Both.lit_false ?_; conv => whnf) | (refine Need.mk (by first | omega | exact ⟨by omega, by omega⟩ | rfl | exact ⟨rfl, rfl⟩) ?_; conv => whnf)))
    exact ⟨_, _, WeakV.drop rfl, h⟩
  (conv => whnf)
  (repeat (first | (refine Both.lit_true ?_; conv => whnf) | (refine Both.lit_false ?_; conv => whnf) | (refine Need.mk (by first | omega | exact ⟨by omega, by omega⟩ | rfl | exact ⟨rfl, rfl⟩) ?_; conv => whnf)))
  refine Both.dec (fun hlt => ?_) (fun hb0 => ?_)
  · (conv => whnf)
    (repeat (first | (refine Both.lit_true ?_; conv => whnf) | (refine Both.lit_false ?_; conv => whnf) | (refine Need.mk (by first | omega | exact ⟨by omega, by omega⟩ | rfl | exact ⟨rfl, rfl⟩) ?_; conv => whnf)))
    exact ⟨_, _, WeakV.drop rfl, h⟩
  (conv => whnf)
  (repeat (first | (refine Both.lit_true ?_; conv => whnf) | (refine Both.lit_false ?_; conv => whnf) | (refine Need.mk (by first | omega | exact ⟨by omega, by omega⟩ | rfl | exact ⟨rfl, rfl⟩) ?_; conv => whnf)))
  refine Both.dec (fun hlt => ?_) (fun hc0 => ?_)
  · (conv => whnf)
    (repeat (first | (refine Both.lit_true ?_; conv => whnf) | (refine Both.lit_false ?_; conv => whnf) | (refine Need.mk (by first | omega | exact ⟨by omega, by omega⟩ | rfl | exact ⟨rfl, rfl⟩) ?_; conv => whnf)))
    exact ⟨_, _, WeakV.drop rfl, h⟩
  (conv => whnf)
  (repeat (first | (refine Both.lit_true ?_; conv => whnf) | (refine Both.lit_false ?_; conv => whnf) | (refine Need.mk (by first | omega | exact ⟨by omega, by omega⟩ | rfl | exact ⟨rfl, rfl⟩) ?_; conv => whnf)))
  rw [wrap_i64 (n := (s.length : Int) + 4) (by omega) (by omega), wrap_i64 (n := 8 * ((s.length : Int) + 4)) (by omega) (by omega)]
  refine Both.dec (fun hlt => ?_) (fun ha9 => ?_)
  · (conv => whnf)
    (repeat (first | (refine Both.lit_true ?_; conv => whnf) | (refine Both.lit_false ?_; conv => whnf) | (refine Need.mk (by first | omega | exact ⟨by omega, by omega⟩ | rfl | exact ⟨rfl, rfl⟩) ?_; conv => whnf)))
    exact ⟨_, _, WeakV.drop rfl, h⟩
  (conv => whnf)
  (repeat (first | (refine Both.lit_true ?_; conv => whnf) | (refine Both.lit_false ?_; conv => whnf) | (refine Need.mk (by first | omega | exact ⟨by omega, by omega⟩ | rfl | exact ⟨rfl, rfl⟩) ?_; conv => whnf)))
  refine Both.dec (fun hlt => ?_) (fun hb9 => ?_)
  · (conv => whnf)
    (repeat (first | (refine Both.lit_true ?_; conv => whnf) | (refine Both.lit_false ?_; conv => whnf) | (refine Need.mk (by first | omega | exact ⟨by omega, by omega⟩ | rfl | exact ⟨rfl, rfl⟩) ?_; conv => whnf)))
    exact ⟨_, _, WeakV.drop rfl, h⟩
  (conv => whnf)
  (repeat (first | (refine Both.lit_true ?_; conv => whnf) | (refine Both.lit_false ?_; conv => whnf) | (refine Need.mk (by first | omega | exact ⟨by omega, by omega⟩ | rfl | exact ⟨rfl, rfl⟩) ?_; conv => whnf)))
  refine Both.dec (fun hlt => ?_) (fun hc9 => ?_)
  · (conv => whnf)
    (repeat (first | (refine Both.lit_true ?_; conv => whnf) | (refine Both.lit_false ?_; conv => whnf) | (refine Need.mk (by first | omega | exact ⟨by omega, by omega⟩ | rfl | exact ⟨rfl, rfl⟩) ?_; conv => whnf)))
    exact ⟨_, _, WeakV.drop rfl, h⟩
  (conv => whnf)
  (repeat (first | (refine Both.lit_true ?_; conv => whnf) | (refine Both.lit_false ?_; conv => whnf) | (refine Need.mk (by first | omega | exact ⟨by omega, by omega⟩ | rfl | exact ⟨rfl, rfl⟩) ?_; conv => whnf)))
  obtain ⟨a, rfl⟩ : ∃ m : Nat, a = m := ⟨a.toNat, by omega⟩
  obtain ⟨b, rfl⟩ : ∃ m : Nat, b = m := ⟨b.toNat, by omega⟩
  obtain ⟨c, rfl⟩ : ∃ m : Nat, c = m := ⟨c.toNat, by omega⟩
  refine CallVC.of [] seal_k ⟨by omega, ?_⟩
  (conv => whnf)
  (repeat (first | (refine Both.lit_true ?_; conv => whnf) | (refine Both.lit_false ?_; conv => whnf) | (refine Need.mk (by first | omega | exact ⟨by omega, by omega⟩ | rfl | exact ⟨rfl, rfl⟩) ?_; conv => whnf)))
  refine DrawVC.tail Γok 13 (by kernel_rfl) (by kernel_rfl) ?_
  (conv => whnf)
  (repeat (first | (refine Both.lit_true ?_; conv => whnf) | (refine Both.lit_false ?_; conv => whnf) | (refine Need.mk (by first | omega | exact ⟨by omega, by omega⟩ | rfl | exact ⟨rfl, rfl⟩) ?_; conv => whnf)))
  rw [quo1_go a (by omega)]
  refine Need.mk ⟨rfl, by omega, by omega⟩ ?_
  (conv => whnf)
  refine ⟨_, bys_get (by simp only [Crc.flip_length, seal_len]; omega), ?_⟩
  (conv => whnf)
  rw [rem1_go a]
  (repeat (first | (refine Both.lit_true ?_; conv => whnf) | (refine Both.lit_false ?_; conv => whnf) | (refine Need.mk (by first | omega | exact ⟨by omega, by omega⟩ | rfl | exact ⟨rfl, rfl⟩) ?_; conv => whnf)))
  refine Need.mk ⟨rfl, by omega, by omega⟩ ?_
  (conv => whnf)
  refine Need.mk ⟨rfl, by simp only [bys, List.length_map, Crc.flip_length, seal_len]; omega⟩ ?_
  (conv => whnf)
  rw [flip_bys]
  refine Both.dec_not (fun hba => ?_) (fun hba => ?_)
  · (conv => whnf)
    (repeat (first | (refine Both.lit_true ?_; conv => whnf) | (refine Both.lit_false ?_; conv => whnf) | (refine Need.mk (by first | omega | exact ⟨by omega, by omega⟩ | rfl | exact ⟨rfl, rfl⟩) ?_; conv => whnf)))
    refine DrawVC.tail Γok 13 (by kernel_rfl) (by kernel_rfl) ?_
    (conv => whnf)
    (repeat (first | (refine Both.lit_true ?_; conv => whnf) | (refine Both.lit_false ?_; conv => whnf) | (refine Need.mk (by first | omega | exact ⟨by omega, by omega⟩ | rfl | exact ⟨rfl, rfl⟩) ?_; conv => whnf)))
    rw [quo1_go b (by omega)]
    refine Need.mk ⟨rfl, by omega, by omega⟩ ?_
    (conv => whnf)
    refine ⟨_, bys_get (by simp only [Crc.flip_length, seal_len]; omega), ?_⟩
    (conv => whnf)
    rw [rem1_go b]
    (repeat (first | (refine Both.lit_true ?_; conv => whnf) | (refine Both.lit_false ?_; conv => whnf) | (refine Need.mk (by first | omega | exact ⟨by omega, by omega⟩ | rfl | exact ⟨rfl, rfl⟩) ?_; conv => whnf)))
    refine Need.mk ⟨rfl, by omega, by omega⟩ ?_
    (conv => whnf)
    refine Need.mk ⟨rfl, by simp only [bys, List.length_map, Crc.flip_length, seal_len]; omega⟩ ?_
    (conv => whnf)
    rw [flip_bys]
    (repeat (first | (refine Both.lit_true ?_; conv => whnf) | (refine Both.lit_false ?_; conv => whnf) | (refine Need.mk (by first | omega | exact ⟨by omega, by omega⟩ | rfl | exact ⟨rfl, rfl⟩) ?_; conv => whnf)))
    refine Both.dec_not (fun hca => ?_) (fun hca => ?_)
    · (conv => whnf)
      (repeat (first | (refine Both.lit_true ?_; conv => whnf) | (refine Both.lit_false ?_; conv => whnf) | (refine Need.mk (by first | omega | exact ⟨by omega, by omega⟩ | rfl | exact ⟨rfl, rfl⟩) ?_; conv => whnf)))
      refine Both.dec_not (fun hcb => ?_) (fun hcb => ?_)
      · (conv => whnf)
        (repeat (first | (refine Both.lit_true ?_; conv => whnf) | (refine Both.lit_false ?_; conv => whnf) | (refine Need.mk (by first | omega | exact ⟨by omega, by omega⟩ | rfl | exact ⟨rfl, rfl⟩) ?_; conv => whnf)))
        refine DrawVC.tail Γok 13 (by kernel_rfl) (by kernel_rfl) ?_
        (conv => whnf)
        (repeat (first | (refine Both.lit_true ?_; conv => whnf) | (refine Both.lit_false ?_; conv => whnf) | (refine Need.mk (by first | omega | exact ⟨by omega, by omega⟩ | rfl | exact ⟨rfl, rfl⟩) ?_; conv => whnf)))
        rw [quo1_go c (by omega)]
        refine Need.mk ⟨rfl, by omega, by omega⟩ ?_
        (conv => whnf)
        refine ⟨_, bys_get (by simp only [Crc.flip_length, seal_len]; omega), ?_⟩
        (conv => whnf)
        rw [rem1_go c]
        (repeat (first | (refine Both.lit_true ?_; conv => whnf) | (refine Both.lit_false ?_; conv => whnf) | (refine Need.mk (by first | omega | exact ⟨by omega, by omega⟩ | rfl | exact ⟨rfl, rfl⟩) ?_; conv => whnf)))
        refine Need.mk ⟨rfl, by omega, by omega⟩ ?_
        (conv => whnf)
        refine Need.mk ⟨rfl, by simp only [bys, List.length_map, Crc.flip_length, seal_len]; omega⟩ ?_
        (conv => whnf)
        rw [flip_bys]
        (conv => whnf)
        refine Need.mk ⟨by simp only [bys, List.length_map, Crc.flip_length, seal_len], bys_u8 _⟩ ?_
        (conv => whnf)
        rw [bys_bytes]
        refine CallVC.of [] right_k ⟨by simp only [Crc.flip_length, seal_len]; omega, ?_⟩
        (conv => whnf)
        refine ⟨_, _, WeakV.drop (congrArg SV.bool ?_), h⟩
        rw [not_right (s := s) (d := _) (by simp only [Crc.flip_length, seal_len]) (flip3 s a b c (by omega) (by omega) (by omega)) (Crc.three_bits (by omega) (by omega) (by omega) (by omega) (by omega) (by omega) (by omega) (by omega) (by omega))]
        rfl
      · (conv => whnf)
        refine Need.mk ⟨by simp only [bys, List.length_map, Crc.flip_length, seal_len], bys_u8 _⟩ ?_
        (conv => whnf)
        rw [bys_bytes]
        refine CallVC.of [] right_k ⟨by simp only [Crc.flip_length, seal_len]; omega, ?_⟩
        (conv => whnf)
        refine ⟨_, _, WeakV.drop (congrArg SV.bool ?_), h⟩
        rw [not_right (s := s) (d := _) (by simp only [Crc.flip_length, seal_len]) (flip2 s a b (by omega) (by omega)) (Crc.two_bits (by omega) (by omega) (by omega) (by omega) (by omega))]
        rfl
    · (conv => whnf)
      (repeat (first | (refine Both.lit_true ?_; conv => whnf) | (refine Both.lit_false ?_; conv => whnf) | (refine Need.mk (by first | omega | exact ⟨by omega, by omega⟩ | rfl | exact ⟨rfl, rfl⟩) ?_; conv => whnf)))
      (conv => whnf)
      refine Need.mk ⟨by simp only [bys, List.length_map, Crc.flip_length, seal_len], bys_u8 _⟩ ?_
      (conv => whnf)
      rw [bys_bytes]
      refine CallVC.of [] right_k ⟨by simp only [Crc.flip_length, seal_len]; omega, ?_⟩
      (conv => whnf)
      refine ⟨_, _, WeakV.drop (congrArg SV.bool ?_), h⟩
      rw [not_right (s := s) (d := _) (by simp only [Crc.flip_length, seal_len]) (flip2 s a b (by omega) (by omega)) (Crc.two_bits (by omega) (by omega) (by omega) (by omega) (by omega))]
      rfl
  · (conv => whnf)
    (repeat (first | (refine Both.lit_true ?_; conv => whnf) | (refine Both.lit_false ?_; conv => whnf) | (refine Need.mk (by first | omega | exact ⟨by omega, by omega⟩ | rfl | exact ⟨rfl, rfl⟩) ?_; conv => whnf)))
    refine Both.dec_not (fun hca => ?_) (fun hca => ?_)
    · (conv => whnf)
      (repeat (first | (refine Both.lit_true ?_; conv => whnf) | (refine Both.lit_false ?_; conv => whnf) | (refine Need.mk (by first | omega | exact ⟨by omega, by omega⟩ | rfl | exact ⟨rfl, rfl⟩) ?_; conv => whnf)))
      refine Both.dec_not (fun hcb => ?_) (fun hcb => ?_)
      · (conv => whnf)
        (repeat (first | (refine Both.lit_true ?_; conv => whnf) | (refine Both.lit_false ?_; conv => whnf) | (refine Need.mk (by first | omega | exact ⟨by omega, by omega⟩ | rfl | exact ⟨rfl, rfl⟩) ?_; conv => whnf)))
        refine DrawVC.tail Γok 13 (by kernel_rfl) (by kernel_rfl) ?_
        (conv => whnf)
        (repeat (first | (refine Both.lit_true ?_; conv => whnf) | (refine Both.lit_false ?_; conv => whnf) | (refine Need.mk (by first | omega | exact ⟨by omega, by omega⟩ | rfl | exact ⟨rfl, rfl⟩) ?_; conv => whnf)))
        rw [quo1_go c (by omega)]
        refine Need.mk ⟨rfl, by omega, by omega⟩ ?_
        (conv => whnf)
        refine ⟨_, bys_get (by simp only [Crc.flip_length, seal_len]; omega), ?_⟩
        (conv => whnf)
        rw [rem1_go c]
        (repeat (first | (refine Both.lit_true ?_; conv => whnf) | (refine Both.lit_false ?_; conv => whnf) | (refine Need.mk (by first | omega | exact ⟨by omega, by omega⟩ | rfl | exact ⟨rfl, rfl⟩) ?_; conv => whnf)))
        refine Need.mk ⟨rfl, by omega, by omega⟩ ?_
        (conv => whnf)
        refine Need.mk ⟨rfl, by simp only [bys, List.length_map, Crc.flip_length, seal_len]; omega⟩ ?_
        (conv => whnf)
        rw [flip_bys]
        (conv => whnf)
        refine Need.mk ⟨by simp only [bys, List.length_map, Crc.flip_length, seal_len], bys_u8 _⟩ ?_
        (conv => whnf)
        rw [bys_bytes]
        refine CallVC.of [] right_k ⟨by simp only [Crc.flip_length, seal_len]; omega, ?_⟩
        (conv => whnf)
        refine ⟨_, _, WeakV.drop (congrArg SV.bool ?_), h⟩
        rw [not_right (s := s) (d := _) (by simp only [Crc.flip_length, seal_len]) (flip2 s a c (by omega) (by omega)) (Crc.two_bits (by omega) (by omega) (by omega) (by omega) (by omega))]
        rfl
      · (conv => whnf)
        refine Need.mk ⟨by simp only [bys, List.length_map, Crc.flip_length, seal_len], bys_u8 _⟩ ?_
        (conv => whnf)
        rw [bys_bytes]
        refine CallVC.of [] right_k ⟨by simp only [Crc.flip_length, seal_len]; omega, ?_⟩
        (conv => whnf)
        refine ⟨_, _, WeakV.drop (congrArg SV.bool ?_), h⟩
        rw [not_right (s := s) (d := _) (by simp only [Crc.flip_length, seal_len]) (flip1 s a (by omega)) (Crc.one_bit _)]
        rfl
    · (conv => whnf)
      (repeat (first | (refine Both.lit_true ?_; conv => whnf) | (refine Both.lit_false ?_; conv => whnf) | (refine Need.mk (by first | omega | exact ⟨by omega, by omega⟩ | rfl | exact ⟨rfl, rfl⟩) ?_; conv => whnf)))
      (conv => whnf)
      refine Need.mk ⟨by simp only [bys, List.length_map, Crc.flip_length, seal_len], bys_u8 _⟩ ?_
      (conv => whnf)
      rw [bys_bytes]
      refine CallVC.of [] right_k ⟨by simp only [Crc.flip_length, seal_len]; omega, ?_⟩
      (conv => whnf)
      refine ⟨_, _, WeakV.drop (congrArg SV.bool ?_), h⟩
      rw [not_right (s := s) (d := _) (by simp only [Crc.flip_length, seal_len]) (flip1 s a (by omega)) (Crc.one_bit _)]
      rfl
end Go.LX
