import Derived.Test.YtiokggkoidiicaaDoorFb
import Derived.Test.YtiokggkoidiicaaDoorLm
set_option maxRecDepth 100000
set_option maxHeartbeats 1000000
set_option autoImplicit false
set_option linter.unusedVariables false
set_option linter.unusedSimpArgs false
namespace Go.LX
open Go.Proofs

/-! ## The document's sectors -/
def sec2S : Spec := fun args H Q => match args, H with
  | [.int .i64 z, .int .u64 g, .int .u64 sr, .int .i64 k, .int .i64 n, .str b], [] => ∃ zn gn sn kn nn : Nat, ∃ bb : Bz, z = zn ∧ g = gn ∧ sr = sn ∧ k = kn ∧ n = nn ∧ b = bb ∧ zn ≤ 512 ∧ gn < 18446744073709551616 ∧ sn < 18446744073709551616 ∧ kn < 256 ∧ nn < 256 ∧ bb.length + 25 ≤ zn ∧
    Q (.str (secX zn gn sn kn nn bb)) []
  | _, _ => False
theorem sec2_k : Contract Tryd.prog [] 57 sec2S := sec_k.imp fun args H Q h => by
  unfold sec2S at h
  split at h
  case h_2 => exact h.elim
  obtain ⟨zn, gn, sn, kn, nn, bb, h1, h2, h3, h4, h5, rfl, h6⟩ := h
  exact ⟨zn, gn, sn, kn, nn, h1, h2, h3, h4, h5, h6⟩
abbrev strL (l : List Bz) : List CV := l.map CV.str
/-- What a split tells. -/
def splitQ (z : Int) (gn sn : Nat) (s : Bz) (Q : SV → List LObj → Prop) : Prop :=
  (partsV z s.length = 0 → Q (.tuple [.nilsl, .int .i64 1]) []) ∧
  (partsV z s.length ≠ 0 → Q (.tuple [.own 0, .int .i64 0]) [.own 9 1 (splitL z.toNat gn sn s).length (strL (splitL z.toNat gn sn s)) true])
def splitS : Spec := fun args H Q => match args, H with
  | [.int .i64 z, .int .u64 g, .int .u64 sr, .str s], [] => ∃ gn sn : Nat, g = gn ∧ sr = sn ∧ gn < 18446744073709551616 ∧ sn < 18446744073709551616 ∧ s.length ≤ 9223372036854775807 ∧ splitQ z gn sn s Q
  | _, _ => False
theorem parts_facts {z : Int} {s : Bz} (h : partsV z s.length ≠ 0) : 64 ≤ z ∧ z ≤ 512 ∧ s.length ≤ 4096 ∧ partsV z s.length = npar (z.toNat - 25) s.length ∧ npar (z.toNat - 25) s.length ≤ 106 := by
  unfold partsV at h ⊢
  by_cases hc : (64 ≤ z ∧ z ≤ 512) ∧ 0 ≤ (s.length : Int) ∧ (s.length : Int) ≤ 4096
  · rw [if_pos hc]
    refine ⟨hc.1.1, hc.1.2, by omega, by rw [Int.toNat_natCast], npar_le (by omega) ?_ (by omega)⟩
    have h1 : 106 * 39 ≤ 106 * (z.toNat - 25) := Nat.mul_le_mul_left _ (by omega)
    omega
  · exact absurd (if_neg hc) h
end Go.LX
