import Derived.Test.YtfbkkhpcmnnmfaaDoorSo
set_option maxRecDepth 100000
set_option maxHeartbeats 1000000
set_option autoImplicit false
set_option linter.unusedVariables false
set_option linter.unusedSimpArgs false
namespace Go.LX
open Go.Proofs

/-! ## The roots, worked out -/
def pr64 : List Nat := [2, 3, 5, 7, 11, 13, 17, 19, 23, 29, 31, 37, 41, 43, 47, 53, 59, 61, 67, 71, 73, 79, 83, 89, 97, 101, 103, 107, 109, 113, 127, 131, 137, 139, 149, 151, 157, 163, 167, 173, 179, 181, 191, 193, 197, 199, 211, 223, 227, 229, 233, 239, 241, 251, 257, 263, 269, 271, 277, 281, 283, 293, 307, 311]
def hT : List W32 := St.init.ws
theorem rk0 : ∀ i : Fin 8, rootL (pr64.getD (0 + i.val) 0) 2 = (kT.getD (0 + i.val) 0).toNat := by decide +kernel
theorem rk1 : ∀ i : Fin 8, rootL (pr64.getD (8 + i.val) 0) 2 = (kT.getD (8 + i.val) 0).toNat := by decide +kernel
theorem rk2 : ∀ i : Fin 8, rootL (pr64.getD (16 + i.val) 0) 2 = (kT.getD (16 + i.val) 0).toNat := by decide +kernel
theorem rk3 : ∀ i : Fin 8, rootL (pr64.getD (24 + i.val) 0) 2 = (kT.getD (24 + i.val) 0).toNat := by decide +kernel
theorem rh0 : ∀ i : Fin 8, rootL (pr64.getD i.val 0) 1 = (hT.getD i.val 0).toNat := by decide +kernel
end Go.LX
