import Derived.Test.YtfbkkhpcmnnmfaaDoorR1
set_option maxRecDepth 100000
set_option maxHeartbeats 1000000
set_option autoImplicit false
set_option linter.unusedVariables false
set_option linter.unusedSimpArgs false
namespace Go.LX
open Go.Proofs

theorem rk4 : ∀ i : Fin 8, rootL (pr64.getD (32 + i.val) 0) 2 = (kT.getD (32 + i.val) 0).toNat := by decide +kernel
theorem rk5 : ∀ i : Fin 8, rootL (pr64.getD (40 + i.val) 0) 2 = (kT.getD (40 + i.val) 0).toNat := by decide +kernel
theorem rk6 : ∀ i : Fin 8, rootL (pr64.getD (48 + i.val) 0) 2 = (kT.getD (48 + i.val) 0).toNat := by decide +kernel
theorem rk7 : ∀ i : Fin 8, rootL (pr64.getD (56 + i.val) 0) 2 = (kT.getD (56 + i.val) 0).toNat := by decide +kernel
theorem roots_ok (i : Nat) (h : i < 64) : rootL (pr64.getD i 0) 2 = (kT.getD i 0).toNat := by
  have e : i = 8 * (i / 8) + i % 8 := by omega
  have hm : i % 8 < 8 := Nat.mod_lt _ (by decide)
  have hd : i / 8 < 8 := by omega
  rw [e]
  generalize i / 8 = q at hd ⊢
  generalize i % 8 = r at hm ⊢
  match q, hd with
  | 0, _ => exact rk0 ⟨r, hm⟩
  | 1, _ => exact rk1 ⟨r, hm⟩
  | 2, _ => exact rk2 ⟨r, hm⟩
  | 3, _ => exact rk3 ⟨r, hm⟩
  | 4, _ => exact rk4 ⟨r, hm⟩
  | 5, _ => exact rk5 ⟨r, hm⟩
  | 6, _ => exact rk6 ⟨r, hm⟩
  | 7, _ => exact rk7 ⟨r, hm⟩
theorem roots_h (i : Nat) (h : i < 8) : rootL (pr64.getD i 0) 1 = (hT.getD i 0).toNat := rh0 ⟨i, h⟩
end Go.LX
