import Derived.Test.YtiokggkoidiicaaDoorWireX
set_option maxRecDepth 100000
set_option maxHeartbeats 4000000
set_option autoImplicit false
set_option linter.unusedVariables false
set_option linter.unusedSimpArgs false
namespace Go.LX
open Go.Proofs

/-! ## Numbers as bytes -/
theorem bev_fold (l : List UInt8) : ∀ a : Nat, l.foldl (fun n b => n * 256 + b.toNat) a = a * 256 ^ l.length + bev l := by
  induction l with
  | nil => intro a; simp [bev]
  | cons b l ih =>
    intro a
    have h0 : bev (b :: l) = b.toNat * 256 ^ l.length + bev l := by
      show List.foldl _ (0 * 256 + b.toNat) l = _
      rw [ih, Nat.zero_mul, Nat.zero_add]
    rw [List.foldl_cons, ih, h0, List.length_cons, Nat.pow_succ, Nat.add_mul, Nat.mul_comm (256 ^ l.length) 256, Nat.mul_assoc, Nat.add_assoc]
theorem bev_cons (b : UInt8) (l : List UInt8) : bev (b :: l) = b.toNat * 256 ^ l.length + bev l := by
  show List.foldl _ (0 * 256 + b.toNat) l = _
  rw [bev_fold, Nat.zero_mul, Nat.zero_add]
theorem bev_beb : ∀ (k v : Nat), v < 256 ^ k → bev (beb v k) = v
  | 0, v, h => by simp at h; subst h; rfl
  | k + 1, v, h => by
    have hb : beb v (k + 1) = UInt8.ofNat (v / 256 ^ k) :: beb (v % 256 ^ k) k := by
      rw [beb]
      congr 1
      have gen : ∀ j, j ≤ k → beb v j = beb (v % 256 ^ k) j := by
        intro j
        induction j with
        | zero => intro _; rfl
        | succ j ih =>
          intro hj
          rw [beb, beb, ih (by omega)]
          congr 1
          obtain ⟨d, rfl⟩ : ∃ d, k = j + 1 + d := ⟨k - (j + 1), by omega⟩
          have h1 : v % 256 ^ (j + 1 + d) / 256 ^ j = v / 256 ^ j % 256 ^ (d + 1) := by
            rw [show j + 1 + d = j + (d + 1) by omega, Nat.pow_add, Nat.mod_mul_right_div_self]
          rw [h1]
          have h2 : v / 256 ^ j % 256 ^ (d + 1) % 256 = v / 256 ^ j % 256 := by
            rw [Nat.mod_mod_of_dvd]
            exact ⟨256 ^ d, by rw [Nat.pow_succ, Nat.mul_comm]⟩
          apply UInt8.toNat_inj.1
          simp only [UInt8.toNat_ofNat']
          exact h2.symm
      exact gen k (Nat.le_refl k)
    have hlt : v / 256 ^ k < 256 := by
      rw [Nat.div_lt_iff_lt_mul (by exact Nat.pow_pos (by omega))]
      rw [Nat.pow_succ] at h
      omega
    rw [hb, bev_cons, beb_length, bev_beb k _ (Nat.mod_lt _ (Nat.pow_pos (by omega)))]
    simp only [UInt8.toNat_ofNat']
    rw [Nat.mod_eq_of_lt (show v / 256 ^ k < 2 ^ 8 by omega), Nat.mul_comm]
    exact Nat.div_add_mod v (256 ^ k)
theorem rd_app (n : Int) (a b : List UInt8) (h : n = a.length) : rdT 0 n (a ++ b) = a ∧ rdE 0 n (a ++ b) = 0 ∧ rdS 0 n (a ++ b) = b := by
  subst h
  have hok : rdOk 0 (a.length : Int) (a ++ b) = true := decide_eq_true ⟨rfl, by omega, by rw [List.length_append]; omega⟩
  refine ⟨by rw [rdT, if_pos hok, Int.toNat_natCast, List.take_left], ?_, by rw [rdS, if_pos hok, Int.toNat_natCast, List.drop_left]⟩
  unfold rdE
  rw [if_pos rfl, if_pos (by rw [List.length_append]; omega)]
theorem rd_short (n : Int) (t : List UInt8) (h : (t.length : Int) < n) : rdE 0 n t = 6 := by
  unfold rdE
  rw [if_pos rfl, if_neg (by omega)]
theorem bytesLess_bev : ∀ x y : List UInt8, x.length = y.length → Op.bytesLess x y = decide (bev x < bev y)
  | [], [], _ => by simp [Op.bytesLess]
  | a :: x, b :: y, h => by
    have hl : x.length = y.length := by simpa using h
    have ih := bytesLess_bev x y hl
    have hx := bev_lt x
    have hy := bev_lt y
    rw [Op.bytesLess, ih, bev_cons, bev_cons, hl]
    rw [hl] at hx
    generalize 256 ^ y.length = p at hx hy
    rcases Nat.lt_trichotomy a.toNat b.toNat with h1 | h1 | h1
    · have h2 : a < b := UInt8.lt_iff_toNat_lt.2 h1
      have h3 : a.toNat * p + bev x < b.toNat * p + bev y := by
        have : (a.toNat + 1) * p ≤ b.toNat * p := Nat.mul_le_mul_right p h1
        rw [Nat.add_mul] at this
        omega
      simp [h2, h3]
    · have h2 : a = b := UInt8.toNat_inj.1 h1
      subst h2
      have h3 : ¬ a < a := fun h4 => by have := UInt8.lt_iff_toNat_lt.1 h4; omega
      simp [h3]
    · have h2 : ¬ a < b := fun h4 => by have := UInt8.lt_iff_toNat_lt.1 h4; omega
      have h3 : (a == b) = false := by
        rw [beq_eq_false_iff_ne]
        rintro rfl
        omega
      have h4 : ¬ a.toNat * p + bev x < b.toNat * p + bev y := by
        have : (b.toNat + 1) * p ≤ a.toNat * p := Nat.mul_le_mul_right p h1
        rw [Nat.add_mul] at this
        omega
      simp [h2, h3, h4]
  | [], _ :: _, h => by simp at h
  | _ :: _, [], h => by simp at h
theorem less_same (c : UInt8) (x y : List UInt8) : lessS (c :: x) (c :: y) = Op.bytesLess x y := by
  have h3 : ¬ c < c := fun h4 => by have := UInt8.lt_iff_toNat_lt.1 h4; omega
  simp [lessS, Op.bytesLess, h3]
theorem beb_less {a b : Nat} (ha : a < 256 ^ 8) (hb : b < 256 ^ 8) (c : UInt8) : lessS (c :: beb a 8) (c :: beb b 8) = decide (a < b) := by
  rw [less_same, bytesLess_bev _ _ (by rw [beb_length, beb_length]), bev_beb 8 a ha, bev_beb 8 b hb]
theorem beb_inj {k a b : Nat} (ha : a < 256 ^ k) (hb : b < 256 ^ k) (h : beb a k = beb b k) : a = b := by
  rw [← bev_beb k a ha, ← bev_beb k b hb, h]
end Go.LX
