import Derived.Test.YteejbjdjfngagaaWj
set_option maxRecDepth 100000
set_option autoImplicit false
set_option linter.unusedVariables false
set_option linter.unusedSimpArgs false
namespace Go.LX
open Go.Proofs

def lawCS : Spec := fun args H Q => match args, H with
  | [.sl 4 n cs false], [] => ∃ l : List Call, n = l.length ∧ cs = l.flatMap Call.en ∧ (∀ c ∈ l, c.ok) ∧ l.length ≤ 9223372036854775807 ∧ Q (.bool true) []
  | _, _ => False
theorem writes_law : Meets Try.prog [] 3 lawCS := by
  refine meets_of Γok Try.func3 rfl ?_
  intro args H Q h
  unfold lawCS at h
  split at h
  case h_2 => exact h.elim
  obtain ⟨l, rfl, rfl, hok, hlen, h⟩ := h
  (refine sx_sound Γok _ ?_; conv => whnf)
  refine CallVC.of [] awake_k ?_
  (conv => whnf)
  (repeat (first | (refine Both.lit_true ?_; conv => whnf) | (refine Both.lit_false ?_; conv => whnf) | (refine Need.mk (by first | omega | exact ⟨by omega, by omega⟩ | rfl | exact ⟨rfl, rfl⟩ | exact ⟨rfl, Nat.le_of_ble_eq_true rfl⟩) ?_; conv => whnf)))
  refine CallVC.of [] few_k ⟨l, rfl, rfl, hok, hlen, ?_⟩
  intro b hb
  (conv => whnf)
  refine Both.cases (fun hb2 => ?_) (fun hb2 => ?_)
  · (conv => whnf)
    exact ⟨_, _, WeakV.drop rfl, h⟩
  · (conv => whnf)
    obtain ⟨hl, ht⟩ := hb (by simpa using hb2)
    have ho := outW_len l
    refine CallVC.weak _ (Weak.ownNil 0 2 5 1 rfl rfl) [0, 1] puts_k ?_
    refine ⟨[], l, rfl, rfl, hok, hl, ht, by simp, rfl, rfl, .inl rfl, ?_⟩
    rintro a' (rfl | rfl)
    all_goals
      (conv => whnf)
      refine CallVC.of [0, 2] bytes_k ?_
      refine ⟨_, rfl, rfl, by first | exact .inl rfl | exact .inr rfl, by rw [List.nil_append]; omega, ?_⟩
      (conv => whnf)
      refine CallVC.of [] refW_k ⟨l, rfl, rfl, hok, hl, ht, ?_⟩
      (conv => whnf)
      refine Both.sure (by rw [List.nil_append]) ?_
      (conv => whnf)
      (repeat (first | (refine Both.lit_true ?_; conv => whnf) | (refine Both.lit_false ?_; conv => whnf) | (refine Need.mk (by first | omega | exact ⟨by omega, by omega⟩ | rfl | exact ⟨rfl, rfl⟩ | exact ⟨rfl, Nat.le_of_ble_eq_true rfl⟩) ?_; conv => whnf)))
      refine ⟨_, _, WeakV.drop (congrArg SV.bool ?_), h⟩
      simp
end Go.LX
