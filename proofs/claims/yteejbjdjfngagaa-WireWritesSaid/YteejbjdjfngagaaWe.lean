import Derived.Test.YteejbjdjfngagaaWd
set_option maxRecDepth 100000
set_option autoImplicit false
set_option linter.unusedVariables false
set_option linter.unusedSimpArgs false
namespace Go.LX
open Go.Proofs

def textS : Spec := fun args H Q => match args with
  | [.ptr 0 0, .str s] => wrS 10000000 args (decide (s.length ≤ 65535)) (beb s.length 2 ++ s) H Q
  | _ => False
theorem text_c : Meets Try.prog [] 26 textS := by
  refine meets_of Γok Try.func26 rfl ?_
  intro args H Q h
  unfold textS at h
  split at h
  case h_2 => exact h.elim
  unfold wrS at h
  split at h
  case h_2 => exact h.elim
  rename_i s _ e a m xs
  obtain ⟨l, rfl, rfl, ha, hl, h⟩ := h
  rcases ha with rfl | rfl
  all_goals
    (refine sx_sound Γok _ ?_; conv => whnf)
    refine Both.dec (fun h0 => ?_) (fun h0 => ?_)
    · (conv => whnf)
      (repeat (first | (refine Both.lit_true ?_; conv => whnf) | (refine Both.lit_false ?_; conv => whnf) | (refine Need.mk (by first | omega | exact ⟨by omega, by omega⟩ | rfl | exact ⟨rfl, rfl⟩ | exact ⟨rfl, Nat.le_of_ble_eq_true rfl⟩) ?_; conv => whnf)))
      refine CallVC.of [0, 1] fail_k ⟨.inl rfl, ?_⟩
      (conv => whnf)
      rw [decide_eq_false (by omega)] at h
      exact ⟨_, _, WeakV.of (Weak.fresh 1 0 2 rfl rfl rfl), h⟩
    · (conv => whnf)
      (repeat (first | (refine Both.lit_true ?_; conv => whnf) | (refine Both.lit_false ?_; conv => whnf) | (refine Need.mk (by first | omega | exact ⟨by omega, by omega⟩ | rfl | exact ⟨rfl, rfl⟩ | exact ⟨rfl, Nat.le_of_ble_eq_true rfl⟩) ?_; conv => whnf)))
      rw [wrap_u64 (by omega) (by omega)]
      refine CallVC.of [0, 1] put_k ⟨l, s.length, 2, rfl, rfl, by first | exact .inl rfl | exact .inr rfl, by omega, rfl, by omega, rfl, by omega, by omega, ?_⟩
      (conv => whnf)
      refine CallVC.of [0, 2] raw_k ⟨by omega, l ++ beb s.length 2, rfl, rfl, .inr rfl, by rw [List.length_append, beb_length]; omega, ?_⟩
      (conv => whnf)
      rw [decide_eq_true (by omega)] at h
      refine ⟨_, _, WeakV.to [0, 1, 3] rfl rfl rfl rfl ?_, h⟩
      (repeat' ((conv => whnf); first | exact True.intro | (refine And.intro ?_ ?_)))
      all_goals first | rfl | exact .eq rfl | (rw [← List.append_assoc]; rfl)
theorem text_k : Contract Try.prog [] 26 textS := ⟨⟨⟨_, rfl, rfl, rfl⟩⟩, text_c⟩
def bytesS : Spec := fun args H Q => match args, H with
  | [.ptr 0 0], [.cells [.int .i64 e, a, .own 1] 33, .own 5 1 m xs true] => ∃ l : List UInt8, xs = bys l ∧ m = l.length ∧ (a = .nil ∨ a = .ptr 0 1) ∧ l.length < 1000000000 ∧
    Q (.tuple [.str (if e = 0 then l else []), .int .i64 e]) [.cells [.int .i64 e, a, .own 1] 33, .gone]
  | _, _ => False
theorem bytes_c : Meets Try.prog [] 11 bytesS := by
  refine meets_of Γok Try.func11 rfl ?_
  intro args H Q h
  unfold bytesS at h
  split at h
  case h_2 => exact h.elim
  rename_i e a m xs
  obtain ⟨l, rfl, rfl, ha, hl, h⟩ := h
  rcases ha with rfl | rfl
  all_goals
    (refine sx_sound Γok _ ?_; conv => whnf)
    refine CallVC.of [0, 1] err_k ⟨.inl rfl, ?_⟩
    (conv => whnf)
    refine Both.dec_not (fun h0 => ?_) (fun h0 => ?_)
    · (conv => whnf)
      rw [if_neg h0] at h
      refine ⟨_, _, WeakV.to [0, 1] rfl rfl rfl rfl ?_, h⟩
      (repeat' ((conv => whnf); first | exact True.intro | (refine And.intro ?_ ?_)))
      all_goals first | rfl | exact .eq rfl
    · (conv => whnf)
      subst h0
      (repeat (first | (refine Both.lit_true ?_; conv => whnf) | (refine Both.lit_false ?_; conv => whnf) | (refine Need.mk (by first | omega | exact ⟨by omega, by omega⟩ | rfl | exact ⟨rfl, rfl⟩ | exact ⟨rfl, Nat.le_of_ble_eq_true rfl⟩) ?_; conv => whnf)))
      refine CallVC.of [0, 1] str_k ⟨_, rfl, rfl, by first | exact .inl rfl | exact .inr rfl, by omega, ?_⟩
      (conv => whnf)
      refine ⟨_, _, WeakV.to [0, 1] rfl rfl rfl rfl ?_, h⟩
      (repeat' ((conv => whnf); first | exact True.intro | (refine And.intro ?_ ?_)))
      all_goals first | rfl | exact .eq rfl
theorem bytes_k : Contract Try.prog [] 11 bytesS := ⟨⟨⟨_, rfl, rfl, rfl⟩⟩, bytes_c⟩
end Go.LX
