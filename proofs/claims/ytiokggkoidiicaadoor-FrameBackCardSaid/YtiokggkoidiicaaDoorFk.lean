import Derived.Test.YtiokggkoidiicaaDoorFi
set_option maxRecDepth 100000
set_option maxHeartbeats 1000000
set_option autoImplicit false
set_option linter.unusedVariables false
set_option linter.unusedSimpArgs false
namespace Go.LX
open Go.Proofs

/-! ## The record at the front, the records at the front, in plain words -/
/-- May the k-th sector be the next one of that record, of so many parts? -/
def stepOk (z g sr : Nat) (s : Bz) (k n : Nat) (r : PartX × Int) : Prop :=
  (k + 1) * z ≤ s.length ∧ r.2 = 0 ∧ r.1.g = g ∧ r.1.sr = sr ∧ r.1.k = k ∧ (0 < k → r.1.n = n)
open Classical in
noncomputable def recX (z g sr : Nat) (s : Bz) : Nat → Nat → Nat → Bz → Bz × Nat
  | 0, _, _, _ => ([], 0)
  | f + 1, k, n, txt =>
    if stepOk z g sr s k n (readX (z : Int) (chunk z s k)) then
      if k + 1 = (readX (z : Int) (chunk z s k)).1.n then (txt ++ (readX (z : Int) (chunk z s k)).1.b, (readX (z : Int) (chunk z s k)).1.n)
      else recX z g sr s f (k + 1) (readX (z : Int) (chunk z s k)).1.n (txt ++ (readX (z : Int) (chunk z s k)).1.b)
    else ([], 0)
noncomputable def recA (z g sr : Nat) (s : Bz) : Bz × Nat := recX z g sr s (s.length + 1) 0 0 []
noncomputable def scanX (z g : Nat) (s : Bz) : Nat → Nat → List Bz → List Bz × Nat
  | 0, used, out => (out, used)
  | f + 1, used, out =>
    if (recA z g out.length (s.drop (used * z))).2 = 0 then (out, used)
    else scanX z g s f (used + (recA z g out.length (s.drop (used * z))).2) (out ++ [(recA z g out.length (s.drop (used * z))).1])
noncomputable def scanA (z g : Nat) (s : Bz) : List Bz × Nat := scanX z g s (s.length + 1) 0 []
theorem bev1_lt (s : Bz) (i : Nat) : bev ((s.drop i).take 1) < 256 := by
  have h := bev_lt ((s.drop i).take 1)
  have h2 : ((s.drop i).take 1).length ≤ 1 := by rw [List.length_take]; omega
  exact Nat.lt_of_lt_of_le h (Nat.le_trans (Nat.pow_le_pow_right (by omega) h2) (by decide))
theorem bev8_lt (s : Bz) (i : Nat) : bev ((s.drop i).take 8) < 18446744073709551616 := by
  have h := bev_lt ((s.drop i).take 8)
  have h2 : ((s.drop i).take 8).length ≤ 8 := by rw [List.length_take]; omega
  exact Nat.lt_of_lt_of_le h (Nat.le_trans (Nat.pow_le_pow_right (by omega) h2) (by decide))
/-- What stands of any sector that was read. -/
theorem readX_facts {z : Int} {s : Bz} : (readX z s).1.g < 18446744073709551616 ∧ (readX z s).1.sr < 18446744073709551616 ∧ (readX z s).1.k < 256 ∧ (readX z s).1.n < 256 ∧ (readX z s).1.b.length ≤ 512 ∧
    ((readX z s).2 = 0 → (readX z s).1.k < (readX z s).1.n) ∧ ((readX z s).2 ≠ 0 → (readX z s).1 = partZ) := by
  by_cases h1 : rightN z = false
  · rw [show readX z s = (partZ, 1) from if_pos h1]
    exact ⟨by decide, by decide, by decide, by decide, by decide, fun h => absurd h (by decide), fun _ => rfl⟩
  by_cases h2 : (s.length : Int) ≠ z
  · rw [show readX z s = (partZ, 6) by unfold readX; rw [if_neg h1, if_pos h2]]
    exact ⟨by decide, by decide, by decide, by decide, by decide, fun h => absurd h (by decide), fun _ => rfl⟩
  by_cases h3 : rightB s = false
  · rw [show readX z s = (partZ, 8) by unfold readX; rw [if_neg h1, if_neg h2, if_pos h3]]
    exact ⟨by decide, by decide, by decide, by decide, by decide, fun h => absurd h (by decide), fun _ => rfl⟩
  by_cases h4 : goodX z.toNat (s.take (z.toNat - 4))
  · rw [show readX z s = (partOf (s.take (z.toNat - 4)), 0) by unfold readX; rw [if_neg h1, if_neg h2, if_neg h3, if_pos h4]]
    refine ⟨bev8_lt _ _, bev8_lt _ _, bev1_lt _ _, bev1_lt _ _, ?_, fun _ => h4.2.1, fun h => absurd rfl h⟩
    have h5 : 64 ≤ z ∧ z ≤ 512 := of_decide_eq_true (by simpa using h1 : rightN z = true)
    show (List.take _ _).length ≤ 512
    rw [List.length_take]
    have := h4.1
    omega
  · rw [show readX z s = (partZ, 5) by unfold readX; rw [if_neg h1, if_neg h2, if_neg h3, if_neg h4]]
    exact ⟨by decide, by decide, by decide, by decide, by decide, fun h => absurd h (by decide), fun _ => rfl⟩
theorem recX_room (z g sr : Nat) (s : Bz) : ∀ (f k n : Nat) (txt : Bz), (recX z g sr s f k n txt).2 ≠ 0 → (recX z g sr s f k n txt).2 * z ≤ s.length
  | 0, _, _, _, h => absurd rfl h
  | f + 1, k, n, txt, h => by
    unfold recX at h ⊢
    split at h
    · rename_i h1
      rw [if_pos h1]
      split at h
      · rename_i h2
        rw [if_pos h2]
        show (readX (z : Int) (chunk z s k)).1.n * z ≤ _
        rw [← h2]
        exact h1.1
      · rename_i h2
        rw [if_neg h2]
        exact recX_room z g sr s f _ _ _ h
    · exact absurd rfl h
theorem recA_room (z g sr : Nat) (s : Bz) (h : (recA z g sr s).2 ≠ 0) : (recA z g sr s).2 * z ≤ s.length := recX_room z g sr s _ _ _ _ h
theorem recX_yes {z g sr : Nat} {s : Bz} {f k n : Nat} {txt : Bz} (h : stepOk z g sr s k n (readX (z : Int) (chunk z s k))) :
    recX z g sr s (f + 1) k n txt = if k + 1 = (readX (z : Int) (chunk z s k)).1.n then (txt ++ (readX (z : Int) (chunk z s k)).1.b, (readX (z : Int) (chunk z s k)).1.n)
      else recX z g sr s f (k + 1) (readX (z : Int) (chunk z s k)).1.n (txt ++ (readX (z : Int) (chunk z s k)).1.b) := by
  rw [recX, if_pos h]
theorem recX_no {z g sr : Nat} {s : Bz} {f k n : Nat} {txt : Bz} (h : ¬ stepOk z g sr s k n (readX (z : Int) (chunk z s k))) : recX z g sr s f k n txt = ([], 0) := by
  cases f with
  | zero => rfl
  | succ f =>
    rw [recX, if_neg h]
/-- The numbers by place: two bytes, one byte. -/
theorem mX_two {s : Bz} (h : 21 ≤ s.length) : mX s = (s.getD 19 0).toNat * 256 + (s.getD 20 0).toNat := by
  unfold mX
  have e : (s.drop 19).take 2 = [s.getD 19 0, s.getD 20 0] := by
    apply List.ext_getElem
    · simp; omega
    · intro i h1 h2
      simp only [List.length_cons, List.length_nil] at h2
      rw [List.getElem_take, List.getElem_drop]
      rcases i with _ | _ | i
      · simp [List.getElem?_eq_getElem (show 19 < s.length by omega)]
      · simp [List.getElem?_eq_getElem (show 20 < s.length by omega)]
      · omega
  rw [e]
  show (0 * 256 + _) * 256 + _ = _
  omega
theorem bev_one {s : Bz} {i : Nat} (h : i < s.length) : bev ((s.drop i).take 1) = (s.getD i 0).toNat := by
  have e : (s.drop i).take 1 = [s.getD i 0] := by
    rw [List.drop_eq_getElem_cons h, List.getD_eq_getElem?_getD, List.getElem?_eq_getElem h]
    rfl
  rw [e]
  show 0 * 256 + _ = _
  omega
end Go.LX
