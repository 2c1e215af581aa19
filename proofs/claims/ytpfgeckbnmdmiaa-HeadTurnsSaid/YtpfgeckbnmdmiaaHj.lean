import Derived.Test.YtpfgeckbnmdmiaaHf
import Derived.Test.YtpfgeckbnmdmiaaLo
set_option maxRecDepth 100000
set_option maxHeartbeats 1000000
set_option autoImplicit false
set_option linter.unusedVariables false
set_option linter.unusedSimpArgs false
namespace Go.LX
open Go.Proofs

/-! ### HeadTurns -/
/-- The k-th sector that is put. -/
def tP (z : Nat) (g : Int) (k : Nat) : List UInt8 := hPut z (g + (k : Int)) ((k % 2 : Nat) : Int)
/-- What stands where the k-th goes. -/
def tW (z : Nat) (g : Int) (k : Nat) : List UInt8 := if k < 2 then [] else tP z g (k - 2)
theorem tW_two (z : Nat) (g : Int) (k : Nat) : tW z g (k + 2) = tP z g k := by rw [tW, if_neg (by omega)]; rfl
theorem tOk {z : Nat} {g : Int} (hz : 64 ≤ z ∧ z ≤ 512) (hg : 0 < g) (k : Nat) : hOk (z : Int) (g + (k : Int)) ((k % 2 : Nat) : Int) = true := decide_eq_true (by omega)
theorem tP_len {z : Nat} (hz : 64 ≤ z ∧ z ≤ 512) (g : Int) (k : Nat) : (tP z g k).length = z := hPut_len hz.1 _ _
theorem tGet {z : Nat} {g : Int} (hz : 64 ≤ z ∧ z ≤ 512) (hg : 0 < g) {k : Nat} (hk : g + (k : Int) < 18446744073709551616) : hGet (z : Int) (tP z g k) = ((g + (k : Int), ((k % 2 : Nat) : Int)), 0) :=
  hGet_put (tOk hz hg k) hk (by omega)
theorem tNil {z : Nat} (hz : 64 ≤ z ∧ z ≤ 512) : hGet (z : Int) [] = ((0, 0), 6) := by
  unfold hGet
  rw [if_neg (by rw [show szB (z : Int) = true from decide_eq_true (by omega)]; decide), if_pos (by show ((0 : Nat) : Int) ≠ (z : Int); omega)]
theorem tOther {z : Nat} {g : Int} (hz : 64 ≤ z ∧ z ≤ 512) (hg : 0 < g) {k : Nat} (hk : g + (k : Int) < 18446744073709551616) : (hGet (z : Int) (tW z g (k + 1))).2 ≠ 0 ∨ (hGet (z : Int) (tW z g (k + 1))).1.1 ≤ g + (k : Int) := by
  unfold tW
  split
  · rw [tNil hz]
    exact .inl (by decide)
  · rw [tGet hz hg (by omega)]
    refine .inr ?_
    show g + ((k + 1 - 2 : Nat) : Int) ≤ _
    omega
theorem tNew0 {z : Nat} {g : Int} (hz : 64 ≤ z ∧ z ≤ 512) (hg : 0 < g) {k : Nat} (hk : g + (k : Int) < 18446744073709551616) (h2 : k % 2 = 0) : hNew (z : Int) [tP z g k, tW z g (k + 1)] 2 = ((g + (k : Int), 0), 0) := by
  rw [hNew_two, step_in (tGet hz hg hk) (by show (0 : Int) < _; omega), h2]
  exact step_out (tOther hz hg hk)
theorem tNew1 {z : Nat} {g : Int} (hz : 64 ≤ z ∧ z ≤ 512) (hg : 0 < g) {k : Nat} (hk : g + (k : Int) < 18446744073709551616) (h2 : k % 2 = 1) : hNew (z : Int) [tW z g (k + 1), tP z g k] 2 = ((g + (k : Int), 1), 1) := by
  obtain ⟨j, rfl⟩ : ∃ j, k = j + 1 := ⟨k - 1, by omega⟩
  rw [hNew_two, tW_two, step_in (tGet hz hg (k := j) (by omega)) (by show (0 : Int) < _; omega), step_in (tGet hz hg hk) (by show g + (j : Int) < g + ((j + 1 : Nat) : Int); omega), h2]
  rfl
/-- With a torn sector the last one, or the one ahead of it, is the newest. -/
theorem tTorn0 {z : Nat} {g : Int} (hz : 64 ≤ z ∧ z ≤ 512) (hg : 0 < g) {k : Nat} (hk2 : 2 ≤ k) (hk : g + (k : Int) < 18446744073709551616) {b : List UInt8} (hb : b = tP z g k ∨ b = tW z g k ∨ (hGet (z : Int) b).2 ≠ 0) :
    (hNew (z : Int) [b, tW z g (k + 1)] 2).1.1 = g + (k : Int) ∨ (hNew (z : Int) [b, tW z g (k + 1)] 2).1.1 = g + (k : Int) - 1 := by
  obtain ⟨j, rfl⟩ : ∃ j, k = j + 2 := ⟨k - 2, by omega⟩
  rw [hNew_two]
  have h1 : tW z g (j + 2 + 1) = tP z g (j + 1) := tW_two z g (j + 1)
  rw [h1]
  rcases hb with rfl | rfl | hb
  · refine .inl ?_
    rw [step_in (tGet hz hg hk) (by show (0 : Int) < _; omega), step_out (.inr (by rw [tGet hz hg (by omega)]; show g + ((j + 1 : Nat) : Int) ≤ g + ((j + 2 : Nat) : Int); omega))]
  · refine .inr ?_
    rw [tW_two, step_in (tGet hz hg (k := j) (by omega)) (by show (0 : Int) < _; omega), step_in (tGet hz hg (k := j + 1) (by omega)) (by show g + (j : Int) < g + ((j + 1 : Nat) : Int); omega)]
    show g + ((j + 1 : Nat) : Int) = g + ((j + 2 : Nat) : Int) - 1
    omega
  · refine .inr ?_
    rw [step_out (.inl hb), step_in (tGet hz hg (k := j + 1) (by omega)) (by show (0 : Int) < _; omega)]
    show g + ((j + 1 : Nat) : Int) = g + ((j + 2 : Nat) : Int) - 1
    omega
theorem tTorn1 {z : Nat} {g : Int} (hz : 64 ≤ z ∧ z ≤ 512) (hg : 0 < g) {k : Nat} (hk2 : 2 ≤ k) (hk : g + (k : Int) < 18446744073709551616) {b : List UInt8} (hb : b = tP z g k ∨ b = tW z g k ∨ (hGet (z : Int) b).2 ≠ 0) :
    (hNew (z : Int) [tW z g (k + 1), b] 2).1.1 = g + (k : Int) ∨ (hNew (z : Int) [tW z g (k + 1), b] 2).1.1 = g + (k : Int) - 1 := by
  obtain ⟨j, rfl⟩ : ∃ j, k = j + 2 := ⟨k - 2, by omega⟩
  rw [hNew_two]
  have h1 : tW z g (j + 2 + 1) = tP z g (j + 1) := tW_two z g (j + 1)
  rw [h1, step_in (tGet hz hg (k := j + 1) (by omega)) (by show (0 : Int) < _; omega)]
  rcases hb with rfl | rfl | hb
  · refine .inl ?_
    rw [step_in (tGet hz hg hk) (by show g + ((j + 1 : Nat) : Int) < g + ((j + 2 : Nat) : Int); omega)]
  · refine .inr ?_
    rw [tW_two, step_out (.inr (by rw [tGet hz hg (by omega)]; show g + (j : Int) ≤ g + ((j + 1 : Nat) : Int); omega))]
    show g + ((j + 1 : Nat) : Int) = g + ((j + 2 : Nat) : Int) - 1
    omega
  · refine .inr ?_
    rw [step_out (.inl hb)]
    show g + ((j + 1 : Nat) : Int) = g + ((j + 2 : Nat) : Int) - 1
    omega
end Go.LX
