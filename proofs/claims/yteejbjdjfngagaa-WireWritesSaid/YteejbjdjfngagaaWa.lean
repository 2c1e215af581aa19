import Derived.Test.YteejbjdjfngagaaTy
set_option maxRecDepth 100000
set_option autoImplicit false
set_option linter.unusedVariables false
set_option linter.unusedSimpArgs false
namespace Go.LX
open Go.Proofs

/-! ## The library's builder, inside of a writer -/
theorem noesc : ∀ (v : Value) (w : World), (callFunc 38 #[v]).run Try.prog w = .ok (.value v) w := by
  intro v w
  rw [Go.run_callFunc_extern Try.func38 (by kernel_rfl) (by kernel_rfl) (by kernel_rfl) (e := Extern.AbiNoEscape.same) (by kernel_rfl)]
  rfl
theorem info_bld : ∃ j, Try.prog.info? 31 = some j ∧ j.size ≠ 0 := by
  have h : (Try.prog.info? 31).map (·.size) = some 2 := by kernel_rfl
  cases hj : Try.prog.info? 31 with
  | none => rw [hj] at h; cases h
  | some j =>
    rw [hj] at h
    refine ⟨j, rfl, ?_⟩
    have h2 : j.size = 2 := by simpa using h
    omega
theorem conv_to : PtrConv Try.prog 28 79 33 3 1 := by
  obtain ⟨j, h1, h2⟩ := info_bld
  exact .to Try.underlying28 (by kernel_rfl) h1 h2 (by decide)
theorem conv_back : PtrConv Try.prog 79 28 33 3 1 := by
  obtain ⟨j, h1, h2⟩ := info_bld
  exact .back (by kernel_rfl) Try.underlying28 h1 (by kernel_rfl)
theorem bys_one (l : List UInt8) (b : UInt8) : bys l ++ [CV.int .u8 (b.toNat : Int)] = bys (l ++ [b]) := by simp [bys]
def copyS : Spec := fun args H Q => match args, H with
  | [.ptr 0 1], [.cells [x, a, y] 33, o] => (a = .nil ∨ a = .ptr 0 1) ∧ Q (.tuple []) [.cells [x, .ptr 0 1, y] 33, o]
  | _, _ => False
theorem copy_c : Meets Try.prog [] 37 copyS := by
  refine meets_of Γok Try.func37 rfl ?_
  intro args H Q h
  unfold copyS at h
  split at h
  case h_2 => exact h.elim
  obtain ⟨ha, h⟩ := h
  (refine sx_sound Γok _ ?_; conv => whnf)
  refine ⟨_, rfl, ?_⟩
  rcases ha with rfl | rfl
  · (conv => whnf)
    (repeat (first | (refine Both.lit_true ?_; conv => whnf) | (refine Both.lit_false ?_; conv => whnf) | (refine Need.mk (by first | omega | exact ⟨by omega, by omega⟩ | rfl | exact ⟨rfl, rfl⟩ | exact ⟨rfl, Nat.le_of_ble_eq_true rfl⟩) ?_; conv => whnf)))
    refine Need.mk conv_to ?_
    (conv => whnf)
    refine CallVC.same noesc ?_
    (conv => whnf)
    refine Need.mk conv_back ?_
    (conv => whnf)
    (repeat (first | (refine Both.lit_true ?_; conv => whnf) | (refine Both.lit_false ?_; conv => whnf) | (refine Need.mk (by first | omega | exact ⟨by omega, by omega⟩ | rfl | exact ⟨rfl, rfl⟩ | exact ⟨rfl, Nat.le_of_ble_eq_true rfl⟩) ?_; conv => whnf)))
    exact ⟨_, _, WeakV.refl _ _ _ _, h⟩
  · (conv => whnf)
    (repeat (first | (refine Both.lit_true ?_; conv => whnf) | (refine Both.lit_false ?_; conv => whnf) | (refine Need.mk (by first | omega | exact ⟨by omega, by omega⟩ | rfl | exact ⟨rfl, rfl⟩ | exact ⟨rfl, Nat.le_of_ble_eq_true rfl⟩) ?_; conv => whnf)))
    refine ⟨_, rfl, ?_⟩
    (conv => whnf)
    (repeat (first | (refine Both.lit_true ?_; conv => whnf) | (refine Both.lit_false ?_; conv => whnf) | (refine Need.mk (by first | omega | exact ⟨by omega, by omega⟩ | rfl | exact ⟨rfl, rfl⟩ | exact ⟨rfl, Nat.le_of_ble_eq_true rfl⟩) ?_; conv => whnf)))
    exact ⟨_, _, WeakV.refl _ _ _ _, h⟩
theorem copy_k : Contract Try.prog [] 37 copyS := ⟨⟨⟨_, rfl, rfl, rfl⟩⟩, copy_c⟩
def wbS : Spec := fun args H Q => match args, H with
  | [.ptr 0 1, .int .u8 n], [.cells [.int .i64 x, a, .own 1] 33, .own 5 1 m xs true] => ∃ (l : List UInt8) (b : UInt8), n = (b.toNat : Int) ∧ xs = bys l ∧ m = l.length ∧ (a = .nil ∨ a = .ptr 0 1) ∧ l.length < 1000000000 ∧ Q .any [.cells [.int .i64 x, .ptr 0 1, .own 2] 33, .gone, .own 5 1 (l.length + 1) (bys (l ++ [b])) true]
  | _, _ => False
theorem wb_c : Meets Try.prog [] 36 wbS := by
  refine meets_of Γok Try.func36 rfl ?_
  intro args H Q h
  unfold wbS at h
  split at h
  case h_2 => exact h.elim
  obtain ⟨l, b, rfl, rfl, rfl, ha, hl, h⟩ := h
  (refine sx_sound Γok _ ?_; conv => whnf)
  rcases ha with rfl | rfl
  all_goals
    refine CallVC.of [0, 1] copy_k ⟨by first | exact .inl rfl | exact .inr rfl, ?_⟩
    (conv => whnf)
    (repeat (first | (refine Both.lit_true ?_; conv => whnf) | (refine Both.lit_false ?_; conv => whnf) | (refine Need.mk (by first | omega | exact ⟨by omega, by omega⟩ | rfl | exact ⟨rfl, rfl⟩ | exact ⟨rfl, Nat.le_of_ble_eq_true rfl⟩) ?_; conv => whnf)))
    refine ⟨_, rfl, ?_⟩
    (conv => whnf)
    (repeat (first | (refine Both.lit_true ?_; conv => whnf) | (refine Both.lit_false ?_; conv => whnf) | (refine Need.mk (by first | omega | exact ⟨by omega, by omega⟩ | rfl | exact ⟨rfl, rfl⟩ | exact ⟨rfl, Nat.le_of_ble_eq_true rfl⟩) ?_; conv => whnf)))
    refine Need.mk (by rw [show ti5.bytes = 1 from rfl]; omega) ?_
    (conv => whnf)
    (repeat (first | (refine Both.lit_true ?_; conv => whnf) | (refine Both.lit_false ?_; conv => whnf) | (refine Need.mk (by first | omega | exact ⟨by omega, by omega⟩ | rfl | exact ⟨rfl, rfl⟩ | exact ⟨rfl, Nat.le_of_ble_eq_true rfl⟩) ?_; conv => whnf)))
    refine ⟨_, _, WeakV.to [0, 1, 2] rfl rfl rfl rfl ?_, h⟩
    (repeat' ((conv => whnf); first | exact True.intro | (refine And.intro ?_ ?_)))
    all_goals first | rfl | exact .eq rfl | (rw [← bys_one]; rfl)
end Go.LX
