import Derived.Test.YtiokggkoidiicaaDoorFm
set_option maxRecDepth 100000
set_option maxHeartbeats 1000000
set_option autoImplicit false
set_option linter.unusedVariables false
set_option linter.unusedSimpArgs false
namespace Go.LX
open Go.Proofs

/-! ## A part's numbers: what the program asks, and what the document asks -/
theorem npar_most {r n : Nat} (hr : 0 < r) (hn : 0 < n) : n ≤ npar r 4096 ↔ (n - 1) * r < 4096 := by
  constructor
  · intro h
    rcases Nat.lt_or_ge 1 n with h1 | h1
    · have h2 := npar_lo (k := n - 2) (n := 4096) hr (by omega)
      rw [show n - 2 + 1 = n - 1 by omega] at h2
      exact h2
    · rw [show n - 1 = 0 by omega, Nat.zero_mul]
      omega
  · intro h
    rcases Nat.lt_or_ge (npar r 4096) n with h1 | h1
    · exfalso
      have h2 := npar_up (n := 4096) hr
      have h3 : npar r 4096 * r ≤ (n - 1) * r := Nat.mul_le_mul_right _ (by omega)
      omega
    · exact h1
/-- What the document asks of a part's numbers. -/
def formR (r k n m : Nat) : Prop := ¬ ((k < n - 1 ∧ m ≠ r) ∨ (0 < k ∧ m = 0)) ∧ (if k = n - 1 then (n - 1) * r + m else (n - 1) * r + 1) ≤ 4096
/-- What the program asks. -/
def formP (r k n m : Nat) : Prop := ¬ ((k + 1 ≠ n ∧ m ≠ r) ∨ (k + 1 = n ∧ 1 < n ∧ m = 0)) ∧ k * r + m ≤ 4096 ∧ n ≤ npar r 4096
theorem form_iff {r k n m : Nat} (hr : 0 < r) (hr2 : r ≤ 4096) (hk : k < n) (hm : m ≤ r) : formP r k n m ↔ formR r k n m := by
  unfold formP formR
  rw [npar_most hr (by omega)]
  by_cases hl : k = n - 1
  · subst hl
    rw [if_pos rfl]
    constructor
    · rintro ⟨h1, h2, h3⟩
      exact ⟨by omega, h2⟩
    · rintro ⟨h1, h2⟩
      refine ⟨by omega, h2, ?_⟩
      rcases Nat.lt_or_ge 1 n with q | q
      · omega
      · rw [show n - 1 = 0 by omega, Nat.zero_mul]
        omega
  · rw [if_neg hl]
    have h5 : k * r + r ≤ (n - 1) * r := by
      have := Nat.mul_le_mul_right r (show k + 1 ≤ n - 1 by omega)
      rw [Nat.add_mul] at this
      omega
    constructor
    · rintro ⟨h1, h2, h3⟩
      exact ⟨by omega, by omega⟩
    · rintro ⟨h1, h2⟩
      exact ⟨by omega, by omega, by omega⟩
end Go.LX
