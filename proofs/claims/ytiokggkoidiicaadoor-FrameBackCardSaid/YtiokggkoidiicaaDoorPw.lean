import Derived.Test.YtiokggkoidiicaaDoorWireN
import Derived.Test.YtiokggkoidiicaaDoorCrcW
set_option maxRecDepth 100000
set_option maxHeartbeats 1000000
set_option autoImplicit false
set_option linter.unusedVariables false
set_option linter.unusedSimpArgs false
namespace Go.LX
open Go.Proofs

/-! ### Four bytes on end -/
theorem over_set : ∀ (l : List UInt8) (r : BitVec 32) (i : Nat) (c : UInt8), i < l.length → Crc.over r (l.set i (l.getD i 0 ^^^ c)) = Crc.over r l ^^^ Crc.steps (8 * (l.length - i)) (Crc.wide c)
  | [], r, i, c, h => by simp at h
  | b :: s, r, 0, c, h => by
    have hb : Crc.byte r (b ^^^ c) = Crc.byte r b ^^^ Crc.steps 8 (Crc.wide c) := by
      unfold Crc.byte
      rw [Crc.wide_xor, ← BitVec.xor_assoc, Crc.steps_xor]
    simp only [List.getD_cons_zero, List.set_cons_zero, Crc.over]
    rw [hb, Crc.over_reg, ← Crc.steps_add]
    congr 2
  | b :: s, r, i + 1, c, h => by
    have ih := over_set s (Crc.byte r b) i c (by simpa using h)
    simp only [List.getD_cons_succ, List.set_cons_succ, Crc.over]
    rw [ih]
    congr 2
    simp
def patch (l : List UInt8) (m : Nat) (y : BitVec 32) : Nat → List UInt8
  | 0 => l
  | k + 1 => (patch l m y k).set (m + k) ((patch l m y k).getD (m + k) 0 ^^^ Crc.lo (y >>> (8 * k)))
theorem patch_len (l : List UInt8) (m : Nat) (y : BitVec 32) : ∀ k, (patch l m y k).length = l.length
  | 0 => rfl
  | k + 1 => by rw [patch, List.length_set, patch_len l m y k]
def pst (n m : Nat) (y : BitVec 32) : Nat → BitVec 32
  | 0 => 0
  | k + 1 => pst n m y k ^^^ Crc.steps (8 * (n - (m + k))) (Crc.wide (Crc.lo (y >>> (8 * k))))
theorem over_patch (l : List UInt8) (m : Nat) (y r : BitVec 32) : ∀ k, m + k ≤ l.length → Crc.over r (patch l m y k) = Crc.over r l ^^^ pst l.length m y k
  | 0, _ => by rw [patch, pst]; exact BitVec.xor_zero.symm
  | k + 1, h => by
    rw [patch, over_set _ _ _ _ (by rw [patch_len]; omega), over_patch l m y r k (by omega), patch_len, pst, BitVec.xor_assoc]
theorem pst_four {n m : Nat} (h : m + 4 ≤ n) (y : BitVec 32) : pst n m y 4 = Crc.steps (8 * (n - m)) y := by
  have h1 : Crc.over 0 (Crc.le 4 y) = Crc.steps 32 y := by
    rw [Crc.over_le 4 0 y (by have := y.isLt; omega), show (0 : BitVec 32) ^^^ y = y from BitVec.zero_xor]
  have h2 : Crc.le 4 y = [Crc.lo (y >>> (8 * 0)), Crc.lo (y >>> (8 * 1)), Crc.lo (y >>> (8 * 2)), Crc.lo (y >>> (8 * 3))] := by
    simp only [Crc.le, ← BitVec.shiftRight_add]
    simp
  rw [h2] at h1
  obtain ⟨t, rfl⟩ : ∃ t, n = m + 4 + t := ⟨n - m - 4, by omega⟩
  rw [show 8 * (m + 4 + t - m) = 8 * t + 32 by omega, Crc.steps_add, ← h1]
  simp only [pst, Crc.over, Crc.byte, Crc.steps_xor, ← Crc.steps_add, BitVec.zero_xor, BitVec.xor_assoc]
  rw [show 8 * (m + 4 + t - (m + 0)) = 8 * t + (8 + (8 + (8 + 8))) by omega, show 8 * (m + 4 + t - (m + 1)) = 8 * t + (8 + (8 + 8)) by omega, show 8 * (m + 4 + t - (m + 2)) = 8 * t + (8 + 8) by omega, show 8 * (m + 4 + t - (m + 3)) = 8 * t + 8 by omega, Crc.steps_zero]
theorem patch_wrong {s : List UInt8} {m : Nat} {y : BitVec 32} (hm : m + 4 ≤ (Crc.seal_ s).length) (hy : y ≠ 0) : rightB (patch (Crc.seal_ s) m y 4) = false := by
  cases hb : rightB (patch (Crc.seal_ s) m y 4) with
  | false => rfl
  | true =>
    exfalso
    unfold rightB at hb
    rw [Bool.and_eq_true] at hb
    have hright : Crc.right (patch (Crc.seal_ s) m y 4) := ⟨of_decide_eq_true hb.1, of_decide_eq_true hb.2⟩
    have h2 := (Crc.over_right _ (by rw [patch_len]; omega)).1 hright
    rw [over_patch _ m y _ 4 hm, Crc.over_seal, pst_four hm] at h2
    have h3 : Crc.steps (8 * ((Crc.seal_ s).length - m)) y = 0 := by
      have := congrArg (fun v => Crc.good ^^^ v) h2
      simpa [← BitVec.xor_assoc] using this
    exact hy (Crc.steps_inj _ h3)
theorem bys_get' {l : List UInt8} {i : Nat} (h : i < l.length) : (bys l)[((i : Nat) : Int).toNat]? = some (.int .u8 ((l.getD i 0).toNat : Int)) := by
  rw [Int.toNat_natCast, bys, List.getElem?_map, List.getElem?_eq_getElem h, List.getD_eq_getElem?_getD, List.getElem?_eq_getElem h]
  rfl
theorem bys_u8' (l : List UInt8) : ∀ x ∈ bys l, isU8 x = true := by
  intro x hx
  obtain ⟨b, _, rfl⟩ := List.mem_map.1 hx
  rfl
theorem bys_bytes' (l : List UInt8) : (bys l).map cvByte = l := by
  unfold bys
  rw [List.map_map]
  have : (cvByte ∘ fun b : UInt8 => CV.int .u8 (b.toNat : Int)) = id := by
    funext b
    show UInt8.ofNat ((b.toNat : Int)).toNat = b
    rw [Int.toNat_natCast]
    simp
  rw [this, List.map_id]
theorem patch_bys (l : List UInt8) (y : BitVec 32) (i k : Nat) (hk : k < 4) :
    (bys l).set ((i : Nat) : Int).toNat (.int .u8 (bitXor .u8 ((l.getD i 0).toNat : Int) (IntKind.u8.wrap (shrI .u32 (u32 y) ((8 * k : Nat) : Int))))) = bys (l.set i (l.getD i 0 ^^^ Crc.lo (y >>> (8 * k)))) := by
  rw [Int.toNat_natCast, shr_u32 _ _ (by omega), u8_of_u32, show ((l.getD i 0).toNat : Int) = u8 (l.getD i 0).toBitVec from rfl, xor_u8]
  unfold bys
  rw [List.map_set]
  rfl
end Go.LX
