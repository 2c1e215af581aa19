import Derived.Test.YtiokggkoidiicaaDoorWireN
import Derived.Test.YtiokggkoidiicaaDoorCrcW
set_option maxRecDepth 100000
set_option maxHeartbeats 1000000
set_option autoImplicit false
set_option linter.unusedVariables false
set_option linter.unusedSimpArgs false
namespace Go.LX
open Go.Proofs

/-! ## Records in sectors, in plain words -/
abbrev Bz := List UInt8
/-- How many parts: of a text so long, in rooms so large. -/
def npar (r n : Nat) : Nat := max 1 ((n + r - 1) / r)
theorem npar_pos (r n : Nat) : 0 < npar r n := by unfold npar; omega
theorem npar_up {r n : Nat} (hr : 0 < r) : n ≤ npar r n * r := by
  unfold npar
  have h1 : (n + r - 1) / r * r + (n + r - 1) % r = n + r - 1 := by rw [Nat.mul_comm]; exact Nat.div_add_mod _ _
  have h2 := Nat.mod_lt (n + r - 1) hr
  have h3 : (n + r - 1) / r * r ≤ max 1 ((n + r - 1) / r) * r := Nat.mul_le_mul_right _ (by omega)
  omega
theorem npar_lo {r n k : Nat} (hr : 0 < r) (h : k + 1 < npar r n) : (k + 1) * r < n := by
  unfold npar at h
  have h0 : k + 1 + 1 ≤ (n + r - 1) / r := by omega
  have h1 := (Nat.le_div_iff_mul_le hr).1 h0
  rw [Nat.add_mul (k + 1) 1 r] at h1
  omega
theorem npar_last {r n k : Nat} (hr : 0 < r) (h : k < npar r n) : n - k * r ≤ r ↔ k + 1 = npar r n := by
  constructor
  · intro h1
    rcases Nat.lt_or_ge (k + 1) (npar r n) with h2 | h2
    · have h3 := npar_lo hr h2
      rw [Nat.add_mul] at h3
      omega
    · omega
  · intro h1
    have h2 := npar_up (n := n) hr
    rw [← h1, Nat.add_mul] at h2
    omega
theorem npar_le {r n m : Nat} (hr : 0 < r) (h : n ≤ m * r) (hm : 0 < m) : npar r n ≤ m := by
  unfold npar
  have : (n + r - 1) / r ≤ m := by
    have h1 : (n + r - 1) / r < m + 1 := (Nat.div_lt_iff_lt_mul hr).2 (by rw [Nat.add_mul]; omega)
    omega
  omega
/-- A part's text. -/
def chunk (r : Nat) (s : Bz) (k : Nat) : Bz := (s.drop (k * r)).take r
theorem chunk_len (r : Nat) (s : Bz) (k : Nat) : (chunk r s k).length ≤ r := by
  unfold chunk
  rw [List.length_take]
  omega
/-- A sector. -/
def secX (size g sr k n : Nat) (b : Bz) : Bz := Crc.seal_ ([82] ++ beb g 8 ++ beb sr 8 ++ beb k 1 ++ beb n 1 ++ (beb b.length 2 ++ b) ++ List.replicate (size - 25 - b.length) 0)
def splitL (size g sr : Nat) (s : Bz) : List Bz := (List.range (npar (size - 25) s.length)).map fun k => secX size g sr k (npar (size - 25) s.length) (chunk (size - 25) s k)
def splitT (size g sr : Nat) (s : Bz) (m : Nat) : List Bz := (List.range m).map fun k => secX size g sr k (npar (size - 25) s.length) (chunk (size - 25) s k)
theorem splitT_one (size g sr : Nat) (s : Bz) (m : Nat) : splitT size g sr s (m + 1) = splitT size g sr s m ++ [secX size g sr m (npar (size - 25) s.length) (chunk (size - 25) s m)] := by
  simp [splitT, List.range_succ]
theorem splitT_len (size g sr : Nat) (s : Bz) (m : Nat) : (splitT size g sr s m).length = m := by simp [splitT]
theorem sec_len {size g sr k n : Nat} {b : Bz} (h : b.length + 25 ≤ size) : (secX size g sr k n b).length = size := by
  unfold secX Crc.seal_
  rw [List.length_append, Crc.le_length]
  simp only [List.length_append, beb_length, List.length_replicate, List.length_singleton]
  omega
end Go.LX
