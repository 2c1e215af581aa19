import Derived.Test.YtiokggkoidiicaaDoorFg
import Derived.Test.YtiokggkoidiicaaDoorFb
set_option maxRecDepth 100000
set_option maxHeartbeats 1000000
set_option autoImplicit false
set_option linter.unusedVariables false
set_option linter.unusedSimpArgs false
namespace Go.LX
open Go.Proofs

/-! ## A sector's fields, by place -/
theorem bev_inj : ∀ (x y : List UInt8), x.length = y.length → bev x = bev y → x = y
  | [], [], _, _ => rfl
  | a :: x, b :: y, hl, h => by
    have hl : x.length = y.length := by simpa using hl
    rw [bev_cons, bev_cons, hl] at h
    have hx := bev_lt x
    have hy := bev_lt y
    rw [hl] at hx
    have hp : 0 < 256 ^ y.length := Nat.pow_pos (by omega)
    generalize 256 ^ y.length = p at *
    have h1 : a.toNat = b.toNat := by
      have e1 : (a.toNat * p + bev x) / p = a.toNat := by rw [Nat.mul_comm, Nat.mul_add_div hp, Nat.div_eq_of_lt hx, Nat.add_zero]
      have e2 : (b.toNat * p + bev y) / p = b.toNat := by rw [Nat.mul_comm, Nat.mul_add_div hp, Nat.div_eq_of_lt hy, Nat.add_zero]
      rw [← e1, ← e2, h]
    rw [h1] at h
    rw [UInt8.toNat_inj.1 h1, bev_inj x y hl (by omega)]
theorem beb_bev {l : List UInt8} {k : Nat} (h : l.length = k) : beb (bev l) k = l := by
  subst h
  exact bev_inj _ _ (beb_length _ _) (bev_beb _ _ (bev_lt l))
theorem cut_at (T : Bz) (i j k : Nat) (h : i + j = k) : T.drop i = (T.drop i).take j ++ T.drop k := by
  subst h
  rw [← List.drop_drop, List.take_append_drop]
theorem raw_cut {T : Bz} {m : Nat} (hm : m = bev ((T.drop 19).take 2)) (hl : 21 + m ≤ T.length) :
    T = T.take 1 ++ beb (bev ((T.drop 1).take 8)) 8 ++ beb (bev ((T.drop 9).take 8)) 8 ++ beb (bev ((T.drop 17).take 1)) 1 ++ beb (bev ((T.drop 18).take 1)) 1 ++ (beb m 2 ++ (T.drop 21).take m) ++ T.drop (21 + m) := by
  have hlen : ∀ i j, i + j ≤ 21 → ((T.drop i).take j).length = j := fun i j h => by rw [List.length_take, List.length_drop]; omega
  have h2 : beb m 2 = (T.drop 19).take 2 := by rw [hm]; exact beb_bev (hlen 19 2 (by omega))
  rw [beb_bev (hlen 1 8 (by omega)), beb_bev (hlen 9 8 (by omega)), beb_bev (hlen 17 1 (by omega)), beb_bev (hlen 18 1 (by omega)), h2]
  have e : T = T.take 1 ++ T.drop 1 := (List.take_append_drop 1 T).symm
  have c1 := cut_at T 1 8 9 rfl
  have c2 := cut_at T 9 8 17 rfl
  have c3 := cut_at T 17 1 18 rfl
  have c4 := cut_at T 18 1 19 rfl
  have c5 := cut_at T 19 2 21 rfl
  have c6 := cut_at T 21 m (21 + m) rfl
  obtain ⟨X, hX⟩ : ∃ X, T.take 1 ++ (T.drop 1).take 8 ++ (T.drop 9).take 8 ++ (T.drop 17).take 1 ++ (T.drop 18).take 1 ++ ((T.drop 19).take 2 ++ (T.drop 21).take m) ++ T.drop (21 + m) = X := ⟨_, rfl⟩
  rw [hX]
  have : T.take 1 ++ T.drop 1 = X := by
    rw [← hX]
    simp only [List.append_assoc]
    rw [← c6, ← c5, ← c4, ← c3, ← c2, ← c1]
  exact e.trans this
/-- A sector's text is that of its fields: what is at its begin, and what is left. -/
theorem raw_iff {T : Bz} {size m : Nat} (hm : m = bev ((T.drop 19).take 2)) (hT : T.length = size - 4) (hl : m + 25 ≤ size) :
    T = rawX size (bev ((T.drop 1).take 8)) (bev ((T.drop 9).take 8)) (bev ((T.drop 17).take 1)) (bev ((T.drop 18).take 1)) ((T.drop 21).take m) ↔ T.take 1 = [82] ∧ T.drop (21 + m) = List.replicate (size - 25 - m) 0 := by
  have hcut := raw_cut hm (by omega)
  have hbl : ((T.drop 21).take m).length = m := by rw [List.length_take, List.length_drop]; omega
  unfold rawX
  rw [hbl]
  constructor
  · intro h
    have h2 : T.take 1 = [82] := by
      have := congrArg (List.take 1) h
      rw [this]
      simp
    refine ⟨h2, ?_⟩
    have := congrArg (List.drop (21 + m)) h
    rw [this]
    simp only [List.append_assoc]
    rw [show ([82] ++ (beb (bev ((T.drop 1).take 8)) 8 ++ (beb (bev ((T.drop 9).take 8)) 8 ++ (beb (bev ((T.drop 17).take 1)) 1 ++ (beb (bev ((T.drop 18).take 1)) 1 ++ (beb m 2 ++ ((T.drop 21).take m ++ List.replicate (size - 25 - m) 0)))))) : Bz) = ([82] ++ beb (bev ((T.drop 1).take 8)) 8 ++ beb (bev ((T.drop 9).take 8)) 8 ++ beb (bev ((T.drop 17).take 1)) 1 ++ beb (bev ((T.drop 18).take 1)) 1 ++ (beb m 2 ++ (T.drop 21).take m)) ++ List.replicate (size - 25 - m) 0 by simp only [List.append_assoc]]
    refine List.drop_left' ?_
    simp only [List.length_append, beb_length, List.length_singleton, hbl]
    omega
  · rintro ⟨h1, h2⟩
    rw [h1, h2] at hcut
    exact hcut
end Go.LX
