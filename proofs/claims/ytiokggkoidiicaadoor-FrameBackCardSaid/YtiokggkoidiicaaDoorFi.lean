import Derived.Test.YtiokggkoidiicaaDoorFh
import Derived.Test.YtiokggkoidiicaaDoorFf
set_option maxRecDepth 100000
set_option maxHeartbeats 1000000
set_option autoImplicit false
set_option linter.unusedVariables false
set_option linter.unusedSimpArgs false
namespace Go.LX
open Go.Proofs

/-! ## What a sector tells, in plain words -/
structure PartX where
  g : Nat
  sr : Nat
  k : Nat
  n : Nat
  b : Bz
def partZ : PartX := ⟨0, 0, 0, 0, []⟩
def mX (s : Bz) : Nat := bev ((s.drop 19).take 2)
def partOf (s : Bz) : PartX := ⟨bev ((s.drop 1).take 8), bev ((s.drop 9).take 8), bev ((s.drop 17).take 1), bev ((s.drop 18).take 1), (s.drop 21).take (mX s)⟩
/-- Is it a part's? Of the text ahead of the seal. -/
def goodX (size : Nat) (T : Bz) : Prop :=
  mX T + 25 ≤ size ∧ (partOf T).k < (partOf T).n ∧ formR (size - 25) (partOf T).k (partOf T).n (mX T) ∧ T.take 1 = [82] ∧ T.drop (21 + mX T) = List.replicate (size - 25 - mX T) 0
open Classical in
noncomputable def readX (z : Int) (s : Bz) : PartX × Int :=
  if rightN z = false then (partZ, 1) else if (s.length : Int) ≠ z then (partZ, 6) else if rightB s = false then (partZ, 8) else
    if goodX z.toNat (s.take (z.toNat - 4)) then (partOf (s.take (z.toNat - 4)), 0) else (partZ, 5)
/-- Fields that stand ahead of the seal are those of the whole. -/
theorem take_field (s : Bz) {i j n : Nat} (h : i + j ≤ n) : ((s.take n).drop i).take j = (s.drop i).take j := by
  rw [List.drop_take, List.take_take, Nat.min_eq_left (by omega)]
theorem mX_take (s : Bz) {n : Nat} (h : 21 ≤ n) : mX (s.take n) = mX s := by
  unfold mX
  rw [take_field s (by omega)]
theorem partOf_take (s : Bz) {n : Nat} (h : 21 + mX s ≤ n) : partOf (s.take n) = partOf s := by
  unfold partOf
  rw [mX_take s (by omega), take_field s (by omega), take_field s (by omega), take_field s (by omega), take_field s (by omega), take_field s h]
end Go.LX
