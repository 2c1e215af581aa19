import Derived.Test.YteejbjdjfngagaaWa
set_option maxRecDepth 100000
set_option autoImplicit false
set_option linter.unusedVariables false
set_option linter.unusedSimpArgs false
namespace Go.LX
open Go.Proofs

theorem wb_k : Contract Try.prog [] 36 wbS := ⟨⟨⟨_, rfl, rfl, rfl⟩⟩, wb_c⟩
theorem bys_app (l s : List UInt8) : bys l ++ bys s = bys (l ++ s) := by simp [bys]
def wsS : Spec := fun args H Q => match args, H with
  | [.ptr 0 1, .str s], [.cells [.int .i64 x, a, .own 1] 33, .own 5 1 m xs true] => ∃ (l : List UInt8), xs = bys l ∧ m = l.length ∧ (a = .nil ∨ a = .ptr 0 1) ∧ l.length < 1000000000 ∧ s.length < 1000000000 ∧ Q (.tuple [.int .i64 s.length, .any]) [.cells [.int .i64 x, .ptr 0 1, .own 2] 33, .gone, .own 5 1 (l.length + s.length) (bys (l ++ s)) true]
  | _, _ => False
theorem ws_c : Meets Try.prog [] 35 wsS := by
  refine meets_of Γok Try.func35 rfl ?_
  intro args H Q h
  unfold wsS at h
  split at h
  case h_2 => exact h.elim
  obtain ⟨l, rfl, rfl, ha, hl, hs, h⟩ := h
  (refine sx_sound Γok _ ?_; conv => whnf)
  rcases ha with rfl | rfl
  all_goals
    refine CallVC.of [0, 1] copy_k ⟨by first | exact .inl rfl | exact .inr rfl, ?_⟩
    (conv => whnf)
    (repeat (first | (refine Both.lit_true ?_; conv => whnf) | (refine Both.lit_false ?_; conv => whnf) | (refine Need.mk (by first | omega | exact ⟨by omega, by omega⟩ | rfl | exact ⟨rfl, rfl⟩ | exact ⟨rfl, Nat.le_of_ble_eq_true rfl⟩) ?_; conv => whnf)))
    refine ⟨_, rfl, ?_⟩
    (conv => whnf)
    (repeat (first | (refine Both.lit_true ?_; conv => whnf) | (refine Both.lit_false ?_; conv => whnf) | (refine Need.mk (by first | omega | exact ⟨by omega, by omega⟩ | rfl | exact ⟨rfl, rfl⟩ | exact ⟨rfl, Nat.le_of_ble_eq_true rfl⟩) ?_; conv => whnf)))
    refine Need.mk (by rw [show ti5.bytes = 1 from rfl]; omega) ?_
    (conv => whnf)
    (repeat (first | (refine Both.lit_true ?_; conv => whnf) | (refine Both.lit_false ?_; conv => whnf) | (refine Need.mk (by first | omega | exact ⟨by omega, by omega⟩ | rfl | exact ⟨rfl, rfl⟩ | exact ⟨rfl, Nat.le_of_ble_eq_true rfl⟩) ?_; conv => whnf)))
    refine ⟨_, _, WeakV.to [0, 1, 2] rfl rfl rfl rfl ?_, h⟩
    (repeat' ((conv => whnf); first | exact True.intro | (refine And.intro ?_ ?_)))
    all_goals first | rfl | exact .eq rfl | (rw [← bys_app]; rfl)
theorem ws_k : Contract Try.prog [] 35 wsS := ⟨⟨⟨_, rfl, rfl, rfl⟩⟩, ws_c⟩
def strS : Spec := fun args H Q => match args, H with
  | [.ptr 0 1], [.cells [.int .i64 x, a, .own 1] 33, .own 5 1 m xs true] => ∃ (l : List UInt8), xs = bys l ∧ m = l.length ∧ (a = .nil ∨ a = .ptr 0 1) ∧ l.length < 1000000000000 ∧ Q (.str l) [.cells [.int .i64 x, a, .own 1] 33, .gone]
  | _, _ => False
theorem str_c : Meets Try.prog [] 29 strS := by
  refine meets_of Γok Try.func29 rfl ?_
  intro args H Q h
  unfold strS at h
  split at h
  case h_2 => exact h.elim
  obtain ⟨l, rfl, rfl, ha, hl, h⟩ := h
  cases l with
  | nil =>
    rcases ha with rfl | rfl
    all_goals
      (refine sx_sound Γok _ ?_; conv => whnf)
      refine DrawVC.all Γok (by kernel_rfl) (by kernel_rfl) ?_
      (conv => whnf)
      (repeat (first | (exact Out.same; conv => whnf) | (refine Both.lit_true ?_; conv => whnf) | (refine Both.lit_false ?_; conv => whnf) | (apply QStep.go; conv => whnf) | (refine Need.mk (by first | omega | exact ⟨by omega, by omega⟩ | rfl | exact ⟨rfl, rfl⟩ | exact ⟨rfl, Nat.le_of_ble_eq_true rfl⟩) ?_; conv => whnf)))
      (refine ⟨_, rfl, ?_⟩; conv => whnf)
      (repeat (first | (exact Out.same; conv => whnf) | (refine Both.lit_true ?_; conv => whnf) | (refine Both.lit_false ?_; conv => whnf) | (apply QStep.go; conv => whnf) | (refine Need.mk (by first | omega | exact ⟨by omega, by omega⟩ | rfl | exact ⟨rfl, rfl⟩ | exact ⟨rfl, Nat.le_of_ble_eq_true rfl⟩) ?_; conv => whnf)))
      (refine ⟨_, rfl, ?_⟩; conv => whnf)
      (repeat (first | (exact Out.same; conv => whnf) | (refine Both.lit_true ?_; conv => whnf) | (refine Both.lit_false ?_; conv => whnf) | (apply QStep.go; conv => whnf) | (refine Need.mk (by first | omega | exact ⟨by omega, by omega⟩ | rfl | exact ⟨rfl, rfl⟩ | exact ⟨rfl, Nat.le_of_ble_eq_true rfl⟩) ?_; conv => whnf)))
      refine ⟨_, _, WeakV.to [0, 1] rfl rfl rfl rfl ?_, h⟩
      (repeat' ((conv => whnf); first | exact True.intro | (refine And.intro ?_ ?_)))
      all_goals first | rfl | exact .eq rfl
  | cons b l =>
    rcases ha with rfl | rfl
    all_goals
      (refine sx_sound Γok _ ?_; conv => whnf)
      refine DrawVC.tail Γok 10 (by kernel_rfl) (by kernel_rfl) ?_
      (conv => whnf)
      (repeat (first | (refine Both.lit_true ?_; conv => whnf) | (refine Both.lit_false ?_; conv => whnf) | (refine Need.mk (by first | omega | exact ⟨by omega, by omega⟩ | rfl | exact ⟨rfl, rfl⟩ | exact ⟨rfl, Nat.le_of_ble_eq_true rfl⟩) ?_; conv => whnf)))
      (refine ⟨_, rfl, ?_⟩; conv => whnf)
      (repeat (first | (refine Both.lit_true ?_; conv => whnf) | (refine Both.lit_false ?_; conv => whnf) | (refine Need.mk (by first | omega | exact ⟨by omega, by omega⟩ | rfl | exact ⟨rfl, rfl⟩ | exact ⟨rfl, Nat.le_of_ble_eq_true rfl⟩) ?_; conv => whnf)))
      refine Need.mk (Nat.succ_pos _) ?_
      (conv => whnf)
      (refine ⟨_, rfl, ?_⟩; conv => whnf)
      (repeat (first | (refine Both.lit_true ?_; conv => whnf) | (refine Both.lit_false ?_; conv => whnf) | (refine Need.mk (by first | omega | exact ⟨by omega, by omega⟩ | rfl | exact ⟨rfl, rfl⟩ | exact ⟨rfl, Nat.le_of_ble_eq_true rfl⟩) ?_; conv => whnf)))
      refine ⟨b :: l, rfl, ?_⟩
      refine Need.mk ⟨rfl, rfl, rfl, rfl, Nat.succ_pos _, by omega, by kernel_rfl⟩ ?_
      (conv => whnf)
      (repeat (first | (refine Both.lit_true ?_; conv => whnf) | (refine Both.lit_false ?_; conv => whnf) | (refine Need.mk (by first | omega | exact ⟨by omega, by omega⟩ | rfl | exact ⟨rfl, rfl⟩ | exact ⟨rfl, Nat.le_of_ble_eq_true rfl⟩) ?_; conv => whnf)))
      refine ⟨_, _, WeakV.to [0, 1] rfl rfl rfl rfl ?_, h⟩
      (repeat' ((conv => whnf); first | exact True.intro | (refine And.intro ?_ ?_)))
      all_goals first | rfl | exact .eq rfl
theorem str_k : Contract Try.prog [] 29 strS := ⟨⟨⟨_, rfl, rfl, rfl⟩⟩, str_c⟩
end Go.LX
