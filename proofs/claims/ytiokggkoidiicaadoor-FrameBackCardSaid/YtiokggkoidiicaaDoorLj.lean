import Derived.Test.YtiokggkoidiicaaDoorTy
import Derived.Test.YtiokggkoidiicaaDoorShelf
set_option maxRecDepth 100000
set_option maxHeartbeats 400000
set_option autoImplicit false
set_option linter.unusedVariables false
set_option linter.unusedSimpArgs false
namespace Go.LX
open Go.Proofs

/-! ## strings.Repeat, strings.Join: the library's shelf -/
theorem repeatL_one (b : UInt8) : ∀ n : Nat, Lib.repeatL [b] n = List.replicate n b
  | 0 => rfl
  | n + 1 => by rw [Lib.repeatL, repeatL_one b n]; rfl
def repS : Spec := fun args H Q => match args, H with
  | [.str l, .int .i64 n], [] => Need (0 ≤ n ∧ n ≤ 9223372036854775807 ∧ l.length * n.toNat ≤ 140737488355328) (Q (.str (Lib.repeatL l n.toNat)) [])
  | _, _ => False
theorem rep_c : Meets Tryd.prog [] 23 repS := by
  refine meets_calls ?_
  intro args H Q h E w vs hv hr
  unfold repS at h
  split at h
  case h_2 => exact h.elim
  rename_i l n
  obtain ⟨⟨h0, h1, h2⟩, h⟩ := h
  obtain ⟨u, v, rfl, q1, q2⟩ := vrs_two hv
  cases q1
  cases q2
  refine ⟨.string ⟨(Lib.repeatL l n.toNat).toArray⟩, _, ?_, fun w' => .str _, h⟩
  have := Tryd.strings_Repeat ⟨l.toArray⟩ n.toNat w (by omega) (by rw [size_mk]; exact h2)
  have e : ((n.toNat : Nat) : Int) = n := by omega
  rw [e] at this
  exact this
theorem rep_k : Contract Tryd.prog [] 23 repS := ⟨⟨⟨_, rfl, rfl, rfl⟩⟩, rep_c⟩
def zeroS : Spec := fun args H Q => match args, H with
  | [.str [b], .int .i64 n], [] => Need (0 ≤ n ∧ n ≤ 140737488355328) (Q (.str (List.replicate n.toNat b)) [])
  | _, _ => False
theorem zero_k : Contract Tryd.prog [] 23 zeroS := rep_k.imp fun args H Q h => by
  unfold zeroS at h
  split at h
  case h_2 => exact h.elim
  obtain ⟨⟨h0, h1⟩, h⟩ := h
  refine ⟨⟨h0, by omega, by simp; omega⟩, ?_⟩
  rw [repeatL_one]
  exact h
end Go.LX
