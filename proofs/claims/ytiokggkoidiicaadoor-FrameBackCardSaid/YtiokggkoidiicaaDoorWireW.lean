import Derived.Test.YtiokggkoidiicaaDoorTy
set_option maxRecDepth 100000
set_option maxHeartbeats 4000000
set_option autoImplicit false
set_option linter.unusedVariables false
set_option linter.unusedSimpArgs false
namespace Go.LX
open Go.Proofs

/-! ## The library's builder, inside of a writer -/
theorem noesc : ∀ (v : Value) (w : World), (callFunc 71 #[v]).run Tryd.prog w = .ok (.value v) w := by
  intro v w
  rw [Go.run_callFunc_extern Tryd.func71 (by kernel_rfl) (by kernel_rfl) (by kernel_rfl) (e := Extern.AbiNoEscape.same) (by kernel_rfl)]
  rfl
theorem info_bld : ∃ j, Tryd.prog.info? 53 = some j ∧ j.size ≠ 0 := by
  have h : (Tryd.prog.info? 53).map (·.size) = some 2 := by kernel_rfl
  cases hj : Tryd.prog.info? 53 with
  | none => rw [hj] at h; cases h
  | some j =>
    rw [hj] at h
    refine ⟨j, rfl, ?_⟩
    have h2 : j.size = 2 := by simpa using h
    omega
theorem conv_to : PtrConv Tryd.prog 51 115 55 3 1 := by
  obtain ⟨j, h1, h2⟩ := info_bld
  exact .to Tryd.underlying51 (by kernel_rfl) h1 h2 (by decide)
theorem conv_back : PtrConv Tryd.prog 115 51 55 3 1 := by
  obtain ⟨j, h1, h2⟩ := info_bld
  exact .back (by kernel_rfl) Tryd.underlying51 h1 (by kernel_rfl)
theorem bys_one (l : List UInt8) (b : UInt8) : bys l ++ [CV.int .u8 (b.toNat : Int)] = bys (l ++ [b]) := by simp [bys]
def copyS : Spec := fun args H Q => match args, H with
  | [.ptr 0 1], [.cells [x, .opt 0 1, y] 55, o] => Q (.tuple []) [.cells [x, .ptr 0 1, y] 55, o]
  | _, _ => False
theorem copy_c : Meets Tryd.prog [] 58 copyS := by
  refine meets_of Γok Tryd.func58 rfl ?_
  intro args H Q h
  unfold copyS at h
  split at h
  case h_2 => exact h.elim
  refine Wp.opt 0 1 0 1 rfl rfl ?_ ?_
  · (refine sx_sound Γok _ ?_; conv => whnf)
    refine ⟨_, rfl, ?_⟩
    (conv => whnf)
    (repeat (first | (refine Both.lit_true ?_; conv => whnf) | (refine Both.lit_false ?_; conv => whnf) | (refine Need.mk ?_ ?_; (focus (first | omega | exact ⟨by omega, by omega⟩ | rfl | exact ⟨rfl, rfl⟩ | exact ⟨rfl, Nat.le_of_ble_eq_true rfl⟩ | exact Nat.le_of_ble_eq_true rfl | (refine ⟨rfl, rfl, ?_⟩; simp [isFar, ofV0, CV.up, SV.renL, SV.ren] <;> fail) | (refine ⟨rfl, Nat.le_of_ble_eq_true rfl, ?_⟩; simp [isFar, ofV0, CV.up, SV.renL, SV.ren] <;> fail) | (simp <;> fail))); conv => whnf)))
    refine Need.mk conv_to ?_
    (conv => whnf)
    refine CallVC.same noesc ?_
    (conv => whnf)
    refine Need.mk conv_back ?_
    (conv => whnf)
    (repeat (first | (refine Both.lit_true ?_; conv => whnf) | (refine Both.lit_false ?_; conv => whnf) | (refine Need.mk ?_ ?_; (focus (first | omega | exact ⟨by omega, by omega⟩ | rfl | exact ⟨rfl, rfl⟩ | exact ⟨rfl, Nat.le_of_ble_eq_true rfl⟩ | exact Nat.le_of_ble_eq_true rfl | (refine ⟨rfl, rfl, ?_⟩; simp [isFar, ofV0, CV.up, SV.renL, SV.ren] <;> fail) | (refine ⟨rfl, Nat.le_of_ble_eq_true rfl, ?_⟩; simp [isFar, ofV0, CV.up, SV.renL, SV.ren] <;> fail) | (simp <;> fail))); conv => whnf)))
    exact ⟨_, _, WeakV.refl _ _ _ _, h⟩
  · (refine sx_sound Γok _ ?_; conv => whnf)
    refine ⟨_, rfl, ?_⟩
    (conv => whnf)
    (repeat (first | (refine Both.lit_true ?_; conv => whnf) | (refine Both.lit_false ?_; conv => whnf) | (refine Need.mk ?_ ?_; (focus (first | omega | exact ⟨by omega, by omega⟩ | rfl | exact ⟨rfl, rfl⟩ | exact ⟨rfl, Nat.le_of_ble_eq_true rfl⟩ | exact Nat.le_of_ble_eq_true rfl | (refine ⟨rfl, rfl, ?_⟩; simp [isFar, ofV0, CV.up, SV.renL, SV.ren] <;> fail) | (refine ⟨rfl, Nat.le_of_ble_eq_true rfl, ?_⟩; simp [isFar, ofV0, CV.up, SV.renL, SV.ren] <;> fail) | (simp <;> fail))); conv => whnf)))
    refine ⟨_, rfl, ?_⟩
    (conv => whnf)
    (repeat (first | (refine Both.lit_true ?_; conv => whnf) | (refine Both.lit_false ?_; conv => whnf) | (refine Need.mk ?_ ?_; (focus (first | omega | exact ⟨by omega, by omega⟩ | rfl | exact ⟨rfl, rfl⟩ | exact ⟨rfl, Nat.le_of_ble_eq_true rfl⟩ | exact Nat.le_of_ble_eq_true rfl | (refine ⟨rfl, rfl, ?_⟩; simp [isFar, ofV0, CV.up, SV.renL, SV.ren] <;> fail) | (refine ⟨rfl, Nat.le_of_ble_eq_true rfl, ?_⟩; simp [isFar, ofV0, CV.up, SV.renL, SV.ren] <;> fail) | (simp <;> fail))); conv => whnf)))
    exact ⟨_, _, WeakV.refl _ _ _ _, h⟩
theorem copy_k : Contract Tryd.prog [] 58 copyS := ⟨⟨⟨_, rfl, rfl, rfl⟩⟩, copy_c⟩
def wbS : Spec := fun args H Q => match args, H with
  | [.ptr 0 1, .int .u8 n], [.cells [.int .i64 x, .opt 0 1, .own 1] 55, .own 5 1 m xs true] => ∃ (l : List UInt8) (b : UInt8), n = (b.toNat : Int) ∧ xs = bys l ∧ m = l.length ∧ l.length < 1000000000 ∧ Q .any [.cells [.int .i64 x, .opt 0 1, .own 2] 55, .gone, .own 5 1 (l.length + 1) (bys (l ++ [b])) true]
  | _, _ => False
theorem wb_c : Meets Tryd.prog [] 59 wbS := by
  refine meets_of Γok Tryd.func59 rfl ?_
  intro args H Q h
  unfold wbS at h
  split at h
  case h_2 => exact h.elim
  obtain ⟨l, b, rfl, rfl, rfl, hl, h⟩ := h
  (refine sx_sound Γok _ ?_; conv => whnf)
  all_goals
    refine CallVC.auto copy_k ?_
    (conv => whnf)
    (repeat (first | (refine Both.lit_true ?_; conv => whnf) | (refine Both.lit_false ?_; conv => whnf) | (refine Need.mk ?_ ?_; (focus (first | omega | exact ⟨by omega, by omega⟩ | rfl | exact ⟨rfl, rfl⟩ | exact ⟨rfl, Nat.le_of_ble_eq_true rfl⟩ | exact Nat.le_of_ble_eq_true rfl | (refine ⟨rfl, rfl, ?_⟩; simp [isFar, ofV0, CV.up, SV.renL, SV.ren] <;> fail) | (refine ⟨rfl, Nat.le_of_ble_eq_true rfl, ?_⟩; simp [isFar, ofV0, CV.up, SV.renL, SV.ren] <;> fail) | (simp <;> fail))); conv => whnf)))
    refine ⟨_, rfl, ?_⟩
    (conv => whnf)
    (repeat (first | (refine Both.lit_true ?_; conv => whnf) | (refine Both.lit_false ?_; conv => whnf) | (refine Need.mk ?_ ?_; (focus (first | omega | exact ⟨by omega, by omega⟩ | rfl | exact ⟨rfl, rfl⟩ | exact ⟨rfl, Nat.le_of_ble_eq_true rfl⟩ | exact Nat.le_of_ble_eq_true rfl | (refine ⟨rfl, rfl, ?_⟩; simp [isFar, ofV0, CV.up, SV.renL, SV.ren] <;> fail) | (refine ⟨rfl, Nat.le_of_ble_eq_true rfl, ?_⟩; simp [isFar, ofV0, CV.up, SV.renL, SV.ren] <;> fail) | (simp <;> fail))); conv => whnf)))
    refine Need.mk (by rw [show ti5.bytes = 1 from rfl]; omega) ?_
    (conv => whnf)
    (repeat (first | (refine Both.lit_true ?_; conv => whnf) | (refine Both.lit_false ?_; conv => whnf) | (refine Need.mk ?_ ?_; (focus (first | omega | exact ⟨by omega, by omega⟩ | rfl | exact ⟨rfl, rfl⟩ | exact ⟨rfl, Nat.le_of_ble_eq_true rfl⟩ | exact Nat.le_of_ble_eq_true rfl | (refine ⟨rfl, rfl, ?_⟩; simp [isFar, ofV0, CV.up, SV.renL, SV.ren] <;> fail) | (refine ⟨rfl, Nat.le_of_ble_eq_true rfl, ?_⟩; simp [isFar, ofV0, CV.up, SV.renL, SV.ren] <;> fail) | (simp <;> fail))); conv => whnf)))
    refine ⟨_, _, WeakV.to [0, 1, 2] rfl rfl rfl rfl ?_, h⟩
    (repeat' ((conv => whnf); first | exact True.intro | (refine And.intro ?_ ?_)))
    all_goals first | rfl | exact .eq rfl | exact .pt ⟨rfl, ⟨rfl, rfl⟩, rfl, trivial⟩ | (rw [← bys_one]; rfl)

theorem wb_k : Contract Tryd.prog [] 59 wbS := ⟨⟨⟨_, rfl, rfl, rfl⟩⟩, wb_c⟩
theorem bys_app (l s : List UInt8) : bys l ++ bys s = bys (l ++ s) := by simp [bys]
def wsS : Spec := fun args H Q => match args, H with
  | [.ptr 0 1, .str s], [.cells [.int .i64 x, .opt 0 1, .own 1] 55, .own 5 1 m xs true] => ∃ (l : List UInt8), xs = bys l ∧ m = l.length ∧ l.length < 1000000000 ∧ s.length < 1000000000 ∧ Q (.tuple [.int .i64 s.length, .any]) [.cells [.int .i64 x, .opt 0 1, .own 2] 55, .gone, .own 5 1 (l.length + s.length) (bys (l ++ s)) true]
  | _, _ => False
theorem ws_c : Meets Tryd.prog [] 37 wsS := by
  refine meets_of Γok Tryd.func37 rfl ?_
  intro args H Q h
  unfold wsS at h
  split at h
  case h_2 => exact h.elim
  obtain ⟨l, rfl, rfl, hl, hs, h⟩ := h
  (refine sx_sound Γok _ ?_; conv => whnf)
  all_goals
    refine CallVC.auto copy_k ?_
    (conv => whnf)
    (repeat (first | (refine Both.lit_true ?_; conv => whnf) | (refine Both.lit_false ?_; conv => whnf) | (refine Need.mk ?_ ?_; (focus (first | omega | exact ⟨by omega, by omega⟩ | rfl | exact ⟨rfl, rfl⟩ | exact ⟨rfl, Nat.le_of_ble_eq_true rfl⟩ | exact Nat.le_of_ble_eq_true rfl | (refine ⟨rfl, rfl, ?_⟩; simp [isFar, ofV0, CV.up, SV.renL, SV.ren] <;> fail) | (refine ⟨rfl, Nat.le_of_ble_eq_true rfl, ?_⟩; simp [isFar, ofV0, CV.up, SV.renL, SV.ren] <;> fail) | (simp <;> fail))); conv => whnf)))
    refine ⟨_, rfl, ?_⟩
    (conv => whnf)
    (repeat (first | (refine Both.lit_true ?_; conv => whnf) | (refine Both.lit_false ?_; conv => whnf) | (refine Need.mk ?_ ?_; (focus (first | omega | exact ⟨by omega, by omega⟩ | rfl | exact ⟨rfl, rfl⟩ | exact ⟨rfl, Nat.le_of_ble_eq_true rfl⟩ | exact Nat.le_of_ble_eq_true rfl | (refine ⟨rfl, rfl, ?_⟩; simp [isFar, ofV0, CV.up, SV.renL, SV.ren] <;> fail) | (refine ⟨rfl, Nat.le_of_ble_eq_true rfl, ?_⟩; simp [isFar, ofV0, CV.up, SV.renL, SV.ren] <;> fail) | (simp <;> fail))); conv => whnf)))
    refine Need.mk (by rw [show ti5.bytes = 1 from rfl]; omega) ?_
    (conv => whnf)
    (repeat (first | (refine Both.lit_true ?_; conv => whnf) | (refine Both.lit_false ?_; conv => whnf) | (refine Need.mk ?_ ?_; (focus (first | omega | exact ⟨by omega, by omega⟩ | rfl | exact ⟨rfl, rfl⟩ | exact ⟨rfl, Nat.le_of_ble_eq_true rfl⟩ | exact Nat.le_of_ble_eq_true rfl | (refine ⟨rfl, rfl, ?_⟩; simp [isFar, ofV0, CV.up, SV.renL, SV.ren] <;> fail) | (refine ⟨rfl, Nat.le_of_ble_eq_true rfl, ?_⟩; simp [isFar, ofV0, CV.up, SV.renL, SV.ren] <;> fail) | (simp <;> fail))); conv => whnf)))
    refine ⟨_, _, WeakV.to [0, 1, 2] rfl rfl rfl rfl ?_, h⟩
    (repeat' ((conv => whnf); first | exact True.intro | (refine And.intro ?_ ?_)))
    all_goals first | rfl | exact .eq rfl | exact .pt ⟨rfl, ⟨rfl, rfl⟩, rfl, trivial⟩ | (rw [← bys_app]; rfl)
theorem ws_k : Contract Tryd.prog [] 37 wsS := ⟨⟨⟨_, rfl, rfl, rfl⟩⟩, ws_c⟩
def strS : Spec := fun args H Q => match args, H with
  | [.ptr 0 1], [.cells [.int .i64 x, .opt 0 1, .own 1] 55, .own 5 1 m xs true] => ∃ (l : List UInt8), xs = bys l ∧ m = l.length ∧ l.length < 1000000000000 ∧ Q (.str l) [.cells [.int .i64 x, .opt 0 1, .own 1] 55, .gone]
  | _, _ => False
theorem str_c : Meets Tryd.prog [] 44 strS := by
  refine meets_of Γok Tryd.func44 rfl ?_
  intro args H Q h
  unfold strS at h
  split at h
  case h_2 => exact h.elim
  obtain ⟨l, rfl, rfl, hl, h⟩ := h
  cases l with
  | nil =>
    all_goals
      (refine sx_sound Γok _ ?_; conv => whnf)
      refine DrawVC.all Γok (by kernel_rfl) (by kernel_rfl) ?_
      (conv => whnf)
      (repeat (first | (exact Out.same; conv => whnf) | (exact Out1.same; conv => whnf) | (refine QAnd.mk ?_ ?_; conv => whnf) | (apply QStepH.go; conv => whnf) | (refine Both.lit_true ?_; conv => whnf) | (refine Both.lit_false ?_; conv => whnf) | (apply QStep.go; conv => whnf) | (refine Need.mk ?_ ?_; (focus (first | omega | exact ⟨by omega, by omega⟩ | rfl | exact ⟨rfl, rfl⟩ | exact ⟨rfl, Nat.le_of_ble_eq_true rfl⟩ | exact Nat.le_of_ble_eq_true rfl | (refine ⟨rfl, rfl, ?_⟩; simp [isFar, ofV0, CV.up, SV.renL, SV.ren] <;> fail) | (refine ⟨rfl, Nat.le_of_ble_eq_true rfl, ?_⟩; simp [isFar, ofV0, CV.up, SV.renL, SV.ren] <;> fail) | (simp <;> fail))); conv => whnf)))
      (refine ⟨_, rfl, ?_⟩; conv => whnf)
      (repeat (first | (exact Out.same; conv => whnf) | (exact Out1.same; conv => whnf) | (refine QAnd.mk ?_ ?_; conv => whnf) | (apply QStepH.go; conv => whnf) | (refine Both.lit_true ?_; conv => whnf) | (refine Both.lit_false ?_; conv => whnf) | (apply QStep.go; conv => whnf) | (refine Need.mk ?_ ?_; (focus (first | omega | exact ⟨by omega, by omega⟩ | rfl | exact ⟨rfl, rfl⟩ | exact ⟨rfl, Nat.le_of_ble_eq_true rfl⟩ | exact Nat.le_of_ble_eq_true rfl | (refine ⟨rfl, rfl, ?_⟩; simp [isFar, ofV0, CV.up, SV.renL, SV.ren] <;> fail) | (refine ⟨rfl, Nat.le_of_ble_eq_true rfl, ?_⟩; simp [isFar, ofV0, CV.up, SV.renL, SV.ren] <;> fail) | (simp <;> fail))); conv => whnf)))
      (refine ⟨_, rfl, ?_⟩; conv => whnf)
      (repeat (first | (exact Out.same; conv => whnf) | (exact Out1.same; conv => whnf) | (refine QAnd.mk ?_ ?_; conv => whnf) | (apply QStepH.go; conv => whnf) | (refine Both.lit_true ?_; conv => whnf) | (refine Both.lit_false ?_; conv => whnf) | (apply QStep.go; conv => whnf) | (refine Need.mk ?_ ?_; (focus (first | omega | exact ⟨by omega, by omega⟩ | rfl | exact ⟨rfl, rfl⟩ | exact ⟨rfl, Nat.le_of_ble_eq_true rfl⟩ | exact Nat.le_of_ble_eq_true rfl | (refine ⟨rfl, rfl, ?_⟩; simp [isFar, ofV0, CV.up, SV.renL, SV.ren] <;> fail) | (refine ⟨rfl, Nat.le_of_ble_eq_true rfl, ?_⟩; simp [isFar, ofV0, CV.up, SV.renL, SV.ren] <;> fail) | (simp <;> fail))); conv => whnf)))
      refine ⟨_, _, WeakV.to [0, 1] rfl rfl rfl rfl ?_, h⟩
      (repeat' ((conv => whnf); first | exact True.intro | (refine And.intro ?_ ?_)))
      all_goals first | rfl | exact .eq rfl | exact .pt ⟨rfl, ⟨rfl, rfl⟩, rfl, trivial⟩
  | cons b l =>
    all_goals
      (refine sx_sound Γok _ ?_; conv => whnf)
      refine DrawVC.tail Γok 10 (by kernel_rfl) (by kernel_rfl) ?_
      (conv => whnf)
      (repeat (first | (refine Both.lit_true ?_; conv => whnf) | (refine Both.lit_false ?_; conv => whnf) | (refine Need.mk ?_ ?_; (focus (first | omega | exact ⟨by omega, by omega⟩ | rfl | exact ⟨rfl, rfl⟩ | exact ⟨rfl, Nat.le_of_ble_eq_true rfl⟩ | exact Nat.le_of_ble_eq_true rfl | (refine ⟨rfl, rfl, ?_⟩; simp [isFar, ofV0, CV.up, SV.renL, SV.ren] <;> fail) | (refine ⟨rfl, Nat.le_of_ble_eq_true rfl, ?_⟩; simp [isFar, ofV0, CV.up, SV.renL, SV.ren] <;> fail) | (simp <;> fail))); conv => whnf)))
      (refine ⟨_, rfl, ?_⟩; conv => whnf)
      (repeat (first | (refine Both.lit_true ?_; conv => whnf) | (refine Both.lit_false ?_; conv => whnf) | (refine Need.mk ?_ ?_; (focus (first | omega | exact ⟨by omega, by omega⟩ | rfl | exact ⟨rfl, rfl⟩ | exact ⟨rfl, Nat.le_of_ble_eq_true rfl⟩ | exact Nat.le_of_ble_eq_true rfl | (refine ⟨rfl, rfl, ?_⟩; simp [isFar, ofV0, CV.up, SV.renL, SV.ren] <;> fail) | (refine ⟨rfl, Nat.le_of_ble_eq_true rfl, ?_⟩; simp [isFar, ofV0, CV.up, SV.renL, SV.ren] <;> fail) | (simp <;> fail))); conv => whnf)))
      try (refine Need.mk (Nat.succ_pos _) ?_; conv => whnf)
      (refine ⟨_, rfl, ?_⟩; conv => whnf)
      (repeat (first | (refine Both.lit_true ?_; conv => whnf) | (refine Both.lit_false ?_; conv => whnf) | (refine Need.mk ?_ ?_; (focus (first | omega | exact ⟨by omega, by omega⟩ | rfl | exact ⟨rfl, rfl⟩ | exact ⟨rfl, Nat.le_of_ble_eq_true rfl⟩ | exact Nat.le_of_ble_eq_true rfl | (refine ⟨rfl, rfl, ?_⟩; simp [isFar, ofV0, CV.up, SV.renL, SV.ren] <;> fail) | (refine ⟨rfl, Nat.le_of_ble_eq_true rfl, ?_⟩; simp [isFar, ofV0, CV.up, SV.renL, SV.ren] <;> fail) | (simp <;> fail))); conv => whnf)))
      refine ⟨b :: l, rfl, ?_⟩
      refine Need.mk ⟨rfl, rfl, rfl, rfl, Nat.succ_pos _, by omega, by kernel_rfl⟩ ?_
      (conv => whnf)
      (repeat (first | (refine Both.lit_true ?_; conv => whnf) | (refine Both.lit_false ?_; conv => whnf) | (refine Need.mk ?_ ?_; (focus (first | omega | exact ⟨by omega, by omega⟩ | rfl | exact ⟨rfl, rfl⟩ | exact ⟨rfl, Nat.le_of_ble_eq_true rfl⟩ | exact Nat.le_of_ble_eq_true rfl | (refine ⟨rfl, rfl, ?_⟩; simp [isFar, ofV0, CV.up, SV.renL, SV.ren] <;> fail) | (refine ⟨rfl, Nat.le_of_ble_eq_true rfl, ?_⟩; simp [isFar, ofV0, CV.up, SV.renL, SV.ren] <;> fail) | (simp <;> fail))); conv => whnf)))
      refine ⟨_, _, WeakV.to [0, 1] rfl rfl rfl rfl ?_, h⟩
      (repeat' ((conv => whnf); first | exact True.intro | (refine And.intro ?_ ?_)))
      all_goals first | rfl | exact .eq rfl | exact .pt ⟨rfl, ⟨rfl, rfl⟩, rfl, trivial⟩
theorem str_k : Contract Tryd.prog [] 44 strS := ⟨⟨⟨_, rfl, rfl, rfl⟩⟩, str_c⟩

/-! ## A first error; a writer -/
def failS : Spec := fun args H Q => match args, H with
  | [.ptr 0 0, .int .i64 n], .cells (.int .i64 e :: r) t :: H' => (t = 55 ∨ t = 72) ∧ Q (.tuple []) (.cells (.int .i64 (if e = 0 then n else e) :: r) t :: H')
  | _, _ => False
theorem fail_c : Meets Tryd.prog [] 39 failS := by
  refine meets_of Γok Tryd.func39 rfl ?_
  intro args H Q h
  unfold failS at h
  split at h
  case h_2 => exact h.elim
  obtain ⟨ht, h⟩ := h
  rcases ht with rfl | rfl
  all_goals
    (refine sx_sound Γok _ ?_; conv => whnf)
    (refine ⟨_, rfl, ?_⟩; conv => whnf)
    refine Both.dec (fun he => ?_) (fun he => ?_)
    · (conv => whnf)
      (repeat (first | (refine Both.lit_true ?_; conv => whnf) | (refine Both.lit_false ?_; conv => whnf) | (refine Need.mk ?_ ?_; (focus (first | omega | exact ⟨by omega, by omega⟩ | rfl | exact ⟨rfl, rfl⟩ | exact ⟨rfl, Nat.le_of_ble_eq_true rfl⟩ | exact Nat.le_of_ble_eq_true rfl | (refine ⟨rfl, rfl, ?_⟩; simp [isFar, ofV0, CV.up, SV.renL, SV.ren] <;> fail) | (refine ⟨rfl, Nat.le_of_ble_eq_true rfl, ?_⟩; simp [isFar, ofV0, CV.up, SV.renL, SV.ren] <;> fail) | (simp <;> fail))); conv => whnf)))
      rw [if_pos he] at h
      exact ⟨_, _, WeakV.refl _ _ _ _, h⟩
    · (conv => whnf)
      rw [if_neg he] at h
      exact ⟨_, _, WeakV.refl _ _ _ _, h⟩
theorem fail_k : Contract Tryd.prog [] 39 failS := ⟨⟨⟨_, rfl, rfl, rfl⟩⟩, fail_c⟩
def errS : Spec := fun args H Q => match args, H with
  | [.ptr 0 0], .cells (.int .i64 e :: r) t :: H' => (t = 55 ∨ t = 72) ∧ Q (.int .i64 e) (.cells (.int .i64 e :: r) t :: H')
  | _, _ => False
theorem err_c : Meets Tryd.prog [] 33 errS := by
  refine meets_of Γok Tryd.func33 rfl ?_
  intro args H Q h
  unfold errS at h
  split at h
  case h_2 => exact h.elim
  obtain ⟨ht, h⟩ := h
  rcases ht with rfl | rfl
  all_goals
    (refine sx_sound Γok _ ?_; conv => whnf)
    (refine ⟨_, rfl, ?_⟩; conv => whnf)
    exact ⟨_, _, WeakV.refl _ _ _ _, h⟩
theorem err_k : Contract Tryd.prog [] 33 errS := ⟨⟨⟨_, rfl, rfl, rfl⟩⟩, err_c⟩

/-- A number's bytes, the greatest first. -/
def beb (n : Nat) : Nat → List UInt8
  | 0 => []
  | k + 1 => UInt8.ofNat (n / 256 ^ k) :: beb n k
theorem beb_length (n : Nat) : ∀ k, (beb n k).length = k
  | 0 => rfl
  | k + 1 => by rw [beb, List.length_cons, beb_length n k]
theorem beb_get (n : Nat) : ∀ (k j : Nat), j < k → (beb n k)[j]? = some (UInt8.ofNat (n / 256 ^ (k - 1 - j)))
  | 0, j, h => by omega
  | k + 1, 0, h => by simp [beb]
  | k + 1, j + 1, h => by
    rw [beb, List.getElem?_cons_succ, beb_get n k j (by omega)]
    congr 4
    omega
theorem beb_take (n k j : Nat) (h : j < k) : (beb n k).take j ++ [UInt8.ofNat (n / 256 ^ (k - 1 - j))] = (beb n k).take (j + 1) := by
  have hl : j < (beb n k).length := by rw [beb_length]; exact h
  rw [List.take_succ_eq_append_getElem hl]
  congr 2
  have := beb_get n k j h
  rw [List.getElem?_eq_getElem hl] at this
  exact (Option.some.inj this).symm
/-- The writer's objects. -/
def wr (e : Int) (l : List UInt8) : List LObj := [.cells [.int .i64 e, .opt 0 1, .own 1] 55, .own 5 1 l.length (bys l) true]
def wrN (e : Int) (l : List UInt8) : List LObj := [.cells [.int .i64 e, .opt 0 1, .own 2] 55, .gone, .own 5 1 l.length (bys l) true]
def putS : Spec := fun args H Q => match args, H with
  | [.ptr 0 0, .int .u64 n, .int .i64 k], [.cells [.int .i64 e, .opt 0 1, .own 1] 55, .own 5 1 m xs true] => ∃ (l : List UInt8) (v c : Nat), xs = bys l ∧ m = l.length ∧ l.length < 100000000 ∧ n = v ∧ v < 18446744073709551616 ∧ k = c ∧ 0 < c ∧ c ≤ 8 ∧
    Q (.tuple []) (wrN e (l ++ beb v c))
  | _, _ => False
theorem byte_go (v k : Nat) (hk : k ≤ 7) : IntKind.u8.wrap (shrI .u64 (v : Int) (8 * (k : Int))) = ((UInt8.ofNat (v / 256 ^ k)).toNat : Int) := by
  unfold shrI
  have : min (8 * (k : Int)).toNat IntKind.u64.bits = 8 * k := by
    simp only [IntKind.bits]
    omega
  rw [this, Int.fdiv_eq_ediv_of_nonneg _ (by exact Int.pow_nonneg (by decide)), wrap_u8_mod, show ((2 : Int) ^ (8 * k)) = ((256 ^ k : Nat) : Int) by rw [show (256 : Nat) = 2 ^ 8 from rfl, ← Nat.pow_mul]; simp]
  simp
theorem put_c : Meets Tryd.prog [] 38 putS := by
  refine meets_of Γok Tryd.func38 rfl ?_
  intro args H Q h
  unfold putS at h
  split at h
  case h_2 => exact h.elim
  rename_i e m xs
  obtain ⟨l, v, c, rfl, rfl, hl, rfl, hv, rfl, hc, hc8, h⟩ := h
  (refine sx_sound Γok _ ?_; conv => whnf)
  rw [wrap_i64 (n := (c : Int) - 1) (by omega) (by omega)]
  refine loop_rule (fun j : Nat => ⟨[.ptr 0 0, .int .u64 (v : Int), .any, .any, .any, .any, .int .i64 ((c : Int) - 1 - j), .any, .any, .any, .any, .any, .any, .any, .any, .any, .any, .any, .any, .any, .any, .any], wrN e (l ++ (beb v c).take j)⟩) (fun j => j ≤ c) (fun j => c - j) 0 (by omega) ?_ ?_
  · refine (Weak.fresh 1 0 2 rfl rfl rfl).trans (Weak.le ?_ ?_)
    · (repeat' ((conv => whnf); first | exact True.intro | (refine And.intro ?_ ?_)))
      all_goals first | rfl | (congr 1; omega)
    · (repeat' ((conv => whnf); first | exact True.intro | (refine And.intro ?_ ?_)))
      all_goals first | rfl | exact .eq rfl | exact .pt ⟨rfl, ⟨rfl, rfl⟩, rfl, trivial⟩ | (rw [List.take_zero, List.append_nil])
  · intro j hj
    (refine sx_sound Γok _ ?_; conv => whnf)
    refine Both.dec (fun hlt => ?_) (fun hge => ?_)
    · (conv => whnf)
      refine DrawVC.tail Γok 8 (by kernel_rfl) (by kernel_rfl) ?_
      (conv => whnf)
      rw [show (c : Int) - 1 - j = ((c - 1 - j : Nat) : Int) by omega, wrap_i64 (n := 8 * ((c - 1 - j : Nat) : Int)) (by omega) (by omega)]
      (repeat (first | (refine Both.lit_true ?_; conv => whnf) | (refine Both.lit_false ?_; conv => whnf) | (refine Need.mk ?_ ?_; (focus (first | omega | exact ⟨by omega, by omega⟩ | rfl | exact ⟨rfl, rfl⟩ | exact ⟨rfl, Nat.le_of_ble_eq_true rfl⟩ | exact Nat.le_of_ble_eq_true rfl | (refine ⟨rfl, rfl, ?_⟩; simp [isFar, ofV0, CV.up, SV.renL, SV.ren] <;> fail) | (refine ⟨rfl, Nat.le_of_ble_eq_true rfl, ?_⟩; simp [isFar, ofV0, CV.up, SV.renL, SV.ren] <;> fail) | (simp <;> fail))); conv => whnf)))
      rw [byte_go v (c - 1 - j) (by omega)]
      refine CallVC.of [0, 2] wb_k ⟨_, _, rfl, rfl, rfl, by simp; omega, ?_⟩
      (conv => whnf)
      refine ⟨j + 1, by omega, by omega, Weak.to [0, 1, 3] rfl rfl rfl ?_ ?_⟩
      · (repeat' ((conv => whnf); first | exact True.intro | (refine And.intro ?_ ?_)))
        all_goals first | rfl | exact congrArg (SV.int .i64) (by rw [wrap_i64 (by omega) (by omega)]; omega)
      · (repeat' ((conv => whnf); first | exact True.intro | (refine And.intro ?_ ?_)))
        all_goals first | rfl | exact .eq rfl | exact .pt ⟨rfl, ⟨rfl, rfl⟩, rfl, trivial⟩ | (refine Eq.trans (b := LObj.own 5 1 ((l ++ (beb v c).take j).length + 1) (bys ((l ++ (beb v c).take j) ++ [UInt8.ofNat (v / 256 ^ (c - 1 - j))])) true) rfl ?_; rw [List.append_assoc, beb_take v c j (by omega)]; congr 1; simp [beb_length]; omega)
    · obtain rfl : j = c := by omega
      (conv => whnf)
      refine ⟨_, _, WeakV.refl _ _ _ _, ?_⟩
      rw [List.take_of_length_le (by rw [beb_length]; omega)]
      exact h
theorem put_k : Contract Tryd.prog [] 38 putS := ⟨⟨⟨_, rfl, rfl, rfl⟩⟩, put_c⟩

/-- A writer's step: the error, whether it wrote, what is written. -/
structure WS where
  e : Int
  l : List UInt8
def errOf (e : Int) : Int := if e = 0 then 1 else e
/-- What a writer's call gets, and leaves. -/
def wrS (bd : Nat) (args : List SV) (ok : Bool) (more : List UInt8) (H : List LObj) (Q : SV → List LObj → Prop) : Prop :=
  match H with
  | [.cells [.int .i64 e, .opt 0 1, .own 1] 55, .own 5 1 m xs true] => ∃ l : List UInt8, xs = bys l ∧ m = l.length ∧ l.length < bd ∧
    Q (.tuple []) (match ok with
      | true => wrN e (l ++ more)
      | false => wrN (errOf e) l)
  | _ => False
def rawS : Spec := fun args H Q => match args with
  | [.ptr 0 0, .str s] => s.length < 10000000 ∧ wrS 20000000 args true s H Q
  | _ => False
theorem raw_c : Meets Tryd.prog [] 19 rawS := by
  refine meets_of Γok Tryd.func19 rfl ?_
  intro args H Q h
  unfold rawS at h
  split at h
  case h_2 => exact h.elim
  obtain ⟨hs, h⟩ := h
  unfold wrS at h
  split at h
  case h_2 => exact h.elim
  rename_i s _ _ e m xs
  obtain ⟨l, rfl, rfl, hl, h⟩ := h
  all_goals
    (refine sx_sound Γok _ ?_; conv => whnf)
    refine CallVC.of [0, 1] ws_k ⟨_, rfl, rfl, by omega, by omega, ?_⟩
    (conv => whnf)
    refine ⟨_, _, WeakV.to [0, 1, 2] rfl rfl rfl rfl ?_, h⟩
    (repeat' ((conv => whnf); first | exact True.intro | (refine And.intro ?_ ?_)))
    all_goals first | rfl | exact .eq rfl | exact .pt ⟨rfl, ⟨rfl, rfl⟩, rfl, trivial⟩ | (rw [List.length_append]; rfl)
theorem raw_k : Contract Tryd.prog [] 19 rawS := ⟨⟨⟨_, rfl, rfl, rfl⟩⟩, raw_c⟩
def numS : Spec := fun args H Q => match args with
  | [.ptr 0 0, .int .u64 n] => ∃ v : Nat, n = v ∧ v < 18446744073709551616 ∧ wrS 10000000 args true (beb v 8) H Q
  | _ => False
theorem num_c : Meets Tryd.prog [] 20 numS := by
  refine meets_of Γok Tryd.func20 rfl ?_
  intro args H Q h
  unfold numS at h
  split at h
  case h_2 => exact h.elim
  obtain ⟨v, rfl, hv, h⟩ := h
  unfold wrS at h
  split at h
  case h_2 => exact h.elim
  rename_i _ _ e m xs
  obtain ⟨l, rfl, rfl, hl, h⟩ := h
  all_goals
    (refine sx_sound Γok _ ?_; conv => whnf)
    refine CallVC.of [0, 1] put_k ⟨l, v, 8, rfl, rfl, by omega, rfl, hv, rfl, by omega, by omega, ?_⟩
    (conv => whnf)
    refine ⟨_, _, WeakV.to [0, 1, 2] rfl rfl rfl rfl ?_, h⟩
    (repeat' ((conv => whnf); first | exact True.intro | (refine And.intro ?_ ?_)))
    all_goals first | rfl | exact .eq rfl | exact .pt ⟨rfl, ⟨rfl, rfl⟩, rfl, trivial⟩
theorem num_k : Contract Tryd.prog [] 20 numS := ⟨⟨⟨_, rfl, rfl, rfl⟩⟩, num_c⟩
def byteS : Spec := fun args H Q => match args with
  | [.ptr 0 0, .int .i64 n] => wrS 10000000 args (decide (0 ≤ n ∧ n ≤ 255)) [UInt8.ofNat n.toNat] H Q
  | _ => False
theorem byte_c : Meets Tryd.prog [] 21 byteS := by
  refine meets_of Γok Tryd.func21 rfl ?_
  intro args H Q h
  unfold byteS at h
  split at h
  case h_2 => exact h.elim
  unfold wrS at h
  split at h
  case h_2 => exact h.elim
  rename_i n _ e m xs
  obtain ⟨l, rfl, rfl, hl, h⟩ := h
  all_goals
    (refine sx_sound Γok _ ?_; conv => whnf)
    refine Both.dec (fun h0 => ?_) (fun h0 => ?_)
    · (conv => whnf)
      (repeat (first | (refine Both.lit_true ?_; conv => whnf) | (refine Both.lit_false ?_; conv => whnf) | (refine Need.mk ?_ ?_; (focus (first | omega | exact ⟨by omega, by omega⟩ | rfl | exact ⟨rfl, rfl⟩ | exact ⟨rfl, Nat.le_of_ble_eq_true rfl⟩ | exact Nat.le_of_ble_eq_true rfl | (refine ⟨rfl, rfl, ?_⟩; simp [isFar, ofV0, CV.up, SV.renL, SV.ren] <;> fail) | (refine ⟨rfl, Nat.le_of_ble_eq_true rfl, ?_⟩; simp [isFar, ofV0, CV.up, SV.renL, SV.ren] <;> fail) | (simp <;> fail))); conv => whnf)))
      refine CallVC.of [0, 1] fail_k ⟨.inl rfl, ?_⟩
      (conv => whnf)
      rw [decide_eq_false (by omega)] at h
      exact ⟨_, _, WeakV.of (Weak.fresh 1 0 2 rfl rfl rfl), h⟩
    · (conv => whnf)
      (repeat (first | (refine Both.lit_true ?_; conv => whnf) | (refine Both.lit_false ?_; conv => whnf) | (refine Need.mk ?_ ?_; (focus (first | omega | exact ⟨by omega, by omega⟩ | rfl | exact ⟨rfl, rfl⟩ | exact ⟨rfl, Nat.le_of_ble_eq_true rfl⟩ | exact Nat.le_of_ble_eq_true rfl | (refine ⟨rfl, rfl, ?_⟩; simp [isFar, ofV0, CV.up, SV.renL, SV.ren] <;> fail) | (refine ⟨rfl, Nat.le_of_ble_eq_true rfl, ?_⟩; simp [isFar, ofV0, CV.up, SV.renL, SV.ren] <;> fail) | (simp <;> fail))); conv => whnf)))
      refine Both.dec (fun h1 => ?_) (fun h1 => ?_)
      · (conv => whnf)
        (repeat (first | (refine Both.lit_true ?_; conv => whnf) | (refine Both.lit_false ?_; conv => whnf) | (refine Need.mk ?_ ?_; (focus (first | omega | exact ⟨by omega, by omega⟩ | rfl | exact ⟨rfl, rfl⟩ | exact ⟨rfl, Nat.le_of_ble_eq_true rfl⟩ | exact Nat.le_of_ble_eq_true rfl | (refine ⟨rfl, rfl, ?_⟩; simp [isFar, ofV0, CV.up, SV.renL, SV.ren] <;> fail) | (refine ⟨rfl, Nat.le_of_ble_eq_true rfl, ?_⟩; simp [isFar, ofV0, CV.up, SV.renL, SV.ren] <;> fail) | (simp <;> fail))); conv => whnf)))
        refine CallVC.of [0, 1] fail_k ⟨.inl rfl, ?_⟩
        (conv => whnf)
        rw [decide_eq_false (by omega)] at h
        exact ⟨_, _, WeakV.of (Weak.fresh 1 0 2 rfl rfl rfl), h⟩
      · (conv => whnf)
        (repeat (first | (refine Both.lit_true ?_; conv => whnf) | (refine Both.lit_false ?_; conv => whnf) | (refine Need.mk ?_ ?_; (focus (first | omega | exact ⟨by omega, by omega⟩ | rfl | exact ⟨rfl, rfl⟩ | exact ⟨rfl, Nat.le_of_ble_eq_true rfl⟩ | exact Nat.le_of_ble_eq_true rfl | (refine ⟨rfl, rfl, ?_⟩; simp [isFar, ofV0, CV.up, SV.renL, SV.ren] <;> fail) | (refine ⟨rfl, Nat.le_of_ble_eq_true rfl, ?_⟩; simp [isFar, ofV0, CV.up, SV.renL, SV.ren] <;> fail) | (simp <;> fail))); conv => whnf)))
        obtain ⟨v, rfl⟩ : ∃ v : Nat, n = v := ⟨n.toNat, by omega⟩
        rw [wrap_u64 (by omega) (by omega)]
        refine CallVC.of [0, 1] put_k ⟨l, v, 1, rfl, rfl, by omega, rfl, by omega, rfl, by omega, by omega, ?_⟩
        (conv => whnf)
        rw [decide_eq_true (by omega)] at h
        refine ⟨_, _, WeakV.to [0, 1, 2] rfl rfl rfl rfl ?_, h⟩
        (repeat' ((conv => whnf); first | exact True.intro | (refine And.intro ?_ ?_)))
        all_goals first | rfl | exact .eq rfl | exact .pt ⟨rfl, ⟨rfl, rfl⟩, rfl, trivial⟩ | (rw [show beb v 1 = [UInt8.ofNat ((v : Int)).toNat] by simp [beb]]; rfl)
theorem byte_k : Contract Tryd.prog [] 21 byteS := ⟨⟨⟨_, rfl, rfl, rfl⟩⟩, byte_c⟩

def textS : Spec := fun args H Q => match args with
  | [.ptr 0 0, .str s] => wrS 10000000 args (decide (s.length ≤ 65535)) (beb s.length 2 ++ s) H Q
  | _ => False
theorem text_c : Meets Tryd.prog [] 22 textS := by
  refine meets_of Γok Tryd.func22 rfl ?_
  intro args H Q h
  unfold textS at h
  split at h
  case h_2 => exact h.elim
  unfold wrS at h
  split at h
  case h_2 => exact h.elim
  rename_i s _ e m xs
  obtain ⟨l, rfl, rfl, hl, h⟩ := h
  all_goals
    (refine sx_sound Γok _ ?_; conv => whnf)
    refine Both.dec (fun h0 => ?_) (fun h0 => ?_)
    · (conv => whnf)
      (repeat (first | (refine Both.lit_true ?_; conv => whnf) | (refine Both.lit_false ?_; conv => whnf) | (refine Need.mk ?_ ?_; (focus (first | omega | exact ⟨by omega, by omega⟩ | rfl | exact ⟨rfl, rfl⟩ | exact ⟨rfl, Nat.le_of_ble_eq_true rfl⟩ | exact Nat.le_of_ble_eq_true rfl | (refine ⟨rfl, rfl, ?_⟩; simp [isFar, ofV0, CV.up, SV.renL, SV.ren] <;> fail) | (refine ⟨rfl, Nat.le_of_ble_eq_true rfl, ?_⟩; simp [isFar, ofV0, CV.up, SV.renL, SV.ren] <;> fail) | (simp <;> fail))); conv => whnf)))
      refine CallVC.of [0, 1] fail_k ⟨.inl rfl, ?_⟩
      (conv => whnf)
      rw [decide_eq_false (by omega)] at h
      exact ⟨_, _, WeakV.of (Weak.fresh 1 0 2 rfl rfl rfl), h⟩
    · (conv => whnf)
      (repeat (first | (refine Both.lit_true ?_; conv => whnf) | (refine Both.lit_false ?_; conv => whnf) | (refine Need.mk ?_ ?_; (focus (first | omega | exact ⟨by omega, by omega⟩ | rfl | exact ⟨rfl, rfl⟩ | exact ⟨rfl, Nat.le_of_ble_eq_true rfl⟩ | exact Nat.le_of_ble_eq_true rfl | (refine ⟨rfl, rfl, ?_⟩; simp [isFar, ofV0, CV.up, SV.renL, SV.ren] <;> fail) | (refine ⟨rfl, Nat.le_of_ble_eq_true rfl, ?_⟩; simp [isFar, ofV0, CV.up, SV.renL, SV.ren] <;> fail) | (simp <;> fail))); conv => whnf)))
      rw [wrap_u64 (by omega) (by omega)]
      refine CallVC.of [0, 1] put_k ⟨l, s.length, 2, rfl, rfl, by omega, rfl, by omega, rfl, by omega, by omega, ?_⟩
      (conv => whnf)
      refine CallVC.of [0, 2] raw_k ⟨by omega, l ++ beb s.length 2, rfl, rfl, by rw [List.length_append, beb_length]; omega, ?_⟩
      (conv => whnf)
      rw [decide_eq_true (by omega)] at h
      refine ⟨_, _, WeakV.to [0, 1, 3] rfl rfl rfl rfl ?_, h⟩
      (repeat' ((conv => whnf); first | exact True.intro | (refine And.intro ?_ ?_)))
      all_goals first | rfl | exact .eq rfl | exact .pt ⟨rfl, ⟨rfl, rfl⟩, rfl, trivial⟩ | (rw [← List.append_assoc]; rfl)
theorem text_k : Contract Tryd.prog [] 22 textS := ⟨⟨⟨_, rfl, rfl, rfl⟩⟩, text_c⟩
def bytesS : Spec := fun args H Q => match args, H with
  | [.ptr 0 0], [.cells [.int .i64 e, .opt 0 1, .own 1] 55, .own 5 1 m xs true] => ∃ l : List UInt8, xs = bys l ∧ m = l.length ∧ l.length < 1000000000 ∧
    Q (.tuple [.str (if e = 0 then l else []), .int .i64 e]) [.cells [.int .i64 e, .opt 0 1, .own 1] 55, .gone]
  | _, _ => False
theorem bytes_c : Meets Tryd.prog [] 24 bytesS := by
  refine meets_of Γok Tryd.func24 rfl ?_
  intro args H Q h
  unfold bytesS at h
  split at h
  case h_2 => exact h.elim
  rename_i e m xs
  obtain ⟨l, rfl, rfl, hl, h⟩ := h
  all_goals
    (refine sx_sound Γok _ ?_; conv => whnf)
    refine CallVC.of [0, 1] err_k ⟨.inl rfl, ?_⟩
    (conv => whnf)
    refine Both.dec_not (fun h0 => ?_) (fun h0 => ?_)
    · (conv => whnf)
      rw [if_neg h0] at h
      refine ⟨_, _, WeakV.to [0, 1] rfl rfl rfl rfl ?_, h⟩
      (repeat' ((conv => whnf); first | exact True.intro | (refine And.intro ?_ ?_)))
      all_goals first | rfl | exact .eq rfl | exact .pt ⟨rfl, ⟨rfl, rfl⟩, rfl, trivial⟩
    · (conv => whnf)
      subst h0
      (repeat (first | (refine Both.lit_true ?_; conv => whnf) | (refine Both.lit_false ?_; conv => whnf) | (refine Need.mk ?_ ?_; (focus (first | omega | exact ⟨by omega, by omega⟩ | rfl | exact ⟨rfl, rfl⟩ | exact ⟨rfl, Nat.le_of_ble_eq_true rfl⟩ | exact Nat.le_of_ble_eq_true rfl | (refine ⟨rfl, rfl, ?_⟩; simp [isFar, ofV0, CV.up, SV.renL, SV.ren] <;> fail) | (refine ⟨rfl, Nat.le_of_ble_eq_true rfl, ?_⟩; simp [isFar, ofV0, CV.up, SV.renL, SV.ren] <;> fail) | (simp <;> fail))); conv => whnf)))
      refine CallVC.of [0, 1] str_k ⟨_, rfl, rfl, by omega, ?_⟩
      (conv => whnf)
      refine ⟨_, _, WeakV.to [0, 1] rfl rfl rfl rfl ?_, h⟩
      (repeat' ((conv => whnf); first | exact True.intro | (refine And.intro ?_ ?_)))
      all_goals first | rfl | exact .eq rfl | exact .pt ⟨rfl, ⟨rfl, rfl⟩, rfl, trivial⟩
theorem bytes_k : Contract Tryd.prog [] 24 bytesS := ⟨⟨⟨_, rfl, rfl, rfl⟩⟩, bytes_c⟩
end Go.LX
